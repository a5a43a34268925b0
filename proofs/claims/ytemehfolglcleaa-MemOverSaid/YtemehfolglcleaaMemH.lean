/-
  MemOver.
-/
import Derived.Test.YtemehfolglcleaaMemG
namespace Go.Proofs.Ytemehfolglcleaa
open Go.RowKit Go.ChangeShapes Go.WideShapes Go.ChangeAt Go.Deep
set_option linter.unusedSimpArgs false
set_option linter.unusedVariables false
attribute [local irreducible] SW RS RD AThen ABlock

theorem andU {x k : Nat} (h : x < 18446744073709551616) (hk : k ≤ 64) : IntKind.u64.wrap ↑(BitVec.ofInt IntKind.u64.bits (x : Int) &&& BitVec.ofInt IntKind.u64.bits ((2 ^ k - 1 : Nat) : Int)).toNat = ((x % 2 ^ k : Nat) : Int) := by
  have hkp : 2 ^ k ≤ 2 ^ 64 := Nat.pow_le_pow_right (by decide) hk
  have h1 : (BitVec.ofInt IntKind.u64.bits (x : Int)).toNat = x := by
    rw [BitVec.toNat_ofInt]
    simp [IntKind.bits]
    omega
  have h2 : (BitVec.ofInt IntKind.u64.bits ((2 ^ k - 1 : Nat) : Int)).toNat = 2 ^ k - 1 := by
    rw [BitVec.toNat_ofInt]
    have : (2 ^ k - 1 : Nat) < 2 ^ 64 := by omega
    generalize (2 ^ k - 1 : Nat) = z at this
    simp [IntKind.bits]
    omega
  rw [BitVec.toNat_and, h1, h2, Nat.and_two_pow_sub_one_eq_mod, IntKind.wrap_u64]
  have := Nat.mod_le x (2 ^ k)
  omega
theorem has_not {b : List Nat} {a n : Nat} (h : b.length < a + n) : hasB b a n = false := by
  unfold hasB
  rw [decide_eq_false (p := (a : Int) + n ≤ b.length) (by omega), Bool.and_false]
set_option maxRecDepth 100000 in
theorem law_memOver (pg at_ : Int) (xi : Int) (hxi : 0 ≤ xi ∧ xi ≤ 18446744073709551615) : SCall Try.prog 3 [.int .i64 pg, .int .i64 at_, .int .u64 xi] [] (fun x _ => x = .bool true) := by
  obtain ⟨x, rfl⟩ := Int.eq_ofNat_of_zero_le hxi.1
  have hx : x < 18446744073709551616 := by omega
  refine scall_of (n := 122) (ks := [0, 1, 2, 6, 7, 8, 10, 11, 12, 13, 15, 17, 20, 34, 38, 39, 40, 41, 56, 104]) Try.func3 rfl rfl (Nat.le_of_ble_eq_true rfl) ?_
  (repeat (first | refine cs ?_ | refine cb ?_ | refine ck ?_ | refine cx ?_ | refine cr ?_ | refine an ?_ | refine ae ?_ | refine ar ?_ | refine bn ?_ | refine bh ?_ | refine be rfl ?_ | refine br ?_ | refine ct rfl ?_ | refine cf rfl ?_))
  first | refine sw_seq_region ?_ | refine sw_region ?_
  refine lo (lop_assign (E rfl)) rfl ?_
  apply le; (repeat (first | (apply KeepIs.take; rfl) | (apply KeepIs.skip; rfl) | exact KeepIs.nil))
  (repeat (first | refine cs ?_ | refine cb ?_ | refine ck ?_ | refine cx ?_ | refine cr ?_ | refine an ?_ | refine ae ?_ | refine ar ?_ | refine bn ?_ | refine bh ?_ | refine be rfl ?_ | refine br ?_ | refine ct rfl ?_ | refine cf rfl ?_))
  first | refine sw_seq_region ?_ | refine sw_region ?_
  (first | refine pu [] Try.call11 law_begun10 rfl (by repeat (first | exact ArgsIf.nil | refine ArgsIf.cons (by first | exact Ev.when rfl (by first | exact id | simp) | exact Ev.here rfl) (by first | exact Bor.refl _ | exact Bor.le VLe.any | exact Bor.le VLe.empty | exact Bor.own (by simp) (by repeat (first | exact sget_here | refine sget_next (by (first | assumption | (apply Nq.en; assumption) | omega | (simp only [Nq] at *; omega))) ?_)) (by simp) | exact Bor.le (VLe.of_eq (by simp))) ?_)) (by repeat (first | exact NoF.int | exact NoF.bool | exact NoF.nilp | exact NoF.nil | exact NoF.own | exact NoF.ptr | exact NoF.str | exact nofl_nil | apply NoF.tup | apply NoF.agg | apply nofl_cons)) ?_ | refine pug [] rfl rfl Try.call11 (fun _ => law_begun10) rfl (by repeat (first | exact ArgsIf.nil | refine ArgsIf.cons (by first | exact Ev.when rfl (by first | exact id | simp) | exact Ev.here rfl) (by first | exact Bor.refl _ | exact Bor.le VLe.any | exact Bor.le VLe.empty | exact Bor.own (by simp) (by repeat (first | exact sget_here | refine sget_next (by (first | assumption | (apply Nq.en; assumption) | omega | (simp only [Nq] at *; omega))) ?_)) (by simp) | exact Bor.le (VLe.of_eq (by simp))) ?_)) (by repeat (first | exact NoF.int | exact NoF.bool | exact NoF.nilp | exact NoF.nil | exact NoF.own | exact NoF.ptr | exact NoF.str | exact nofl_nil | apply NoF.tup | apply NoF.agg | apply nofl_cons)) ?_)
  refine lo (lop_assign (E rfl)) rfl ?_
  apply le; (repeat (first | (apply KeepIs.take; rfl) | (apply KeepIs.skip; rfl) | exact KeepIs.nil))
  (repeat (first | refine cs ?_ | refine cb ?_ | refine ck ?_ | refine cx ?_ | refine cr ?_ | refine an ?_ | refine ae ?_ | refine ar ?_ | refine bn ?_ | refine bh ?_ | refine be rfl ?_ | refine br ?_ | refine ct rfl ?_ | refine cf rfl ?_))
  first | refine sw_seq_region ?_ | refine sw_region ?_
  refine lo (lop_move (E rfl)) rfl ?_
  refine lo (lop_not (E rfl)) rfl ?_
  apply le; (repeat (first | (apply KeepIs.take; rfl) | (apply KeepIs.skip; rfl) | exact KeepIs.nil))
  (repeat (first | refine cs ?_ | refine cb ?_ | refine ck ?_ | refine cx ?_ | refine cr ?_ | refine an ?_ | refine ae ?_ | refine ar ?_ | refine bn ?_ | refine bh ?_ | refine be rfl ?_ | refine br ?_ | refine ct rfl ?_ | refine cf rfl ?_))
  first | refine sw_seq_region ?_ | refine sw_region ?_
  refine lo (lop_move (E rfl)) rfl ?_
  refine lo (lop_lss (E rfl) (E rfl)) rfl ?_
  refine lo (lop_move (E rfl)) rfl ?_
  first | refine ln rfl rfl rfl rfl ?_ | refine lg rfl rfl (lop_move (E rfl)) rfl ?_
  first | refine ln rfl rfl rfl rfl ?_ | refine lg rfl rfl (lop_gtr (W rfl id) (E rfl)) rfl ?_
  first | refine lo (lop_pick_t (E rfl) (E rfl)) rfl ?_ | refine lo (lop_pick_f (E rfl) (W rfl (by simp))) rfl ?_ | refine lo (lop_pick (E rfl) (E rfl) (W rfl (by simp))) rfl ?_
  refine lo (lop_move (E rfl)) rfl ?_
  first | refine ln rfl rfl rfl rfl ?_ | refine lg rfl rfl (lop_move (E rfl)) rfl ?_
  first | refine ln rfl rfl rfl rfl ?_ | refine lg rfl rfl (lop_lss (W rfl id) (E rfl)) rfl ?_
  first | refine lo (lop_pick_t (E rfl) (E rfl)) rfl ?_ | refine lo (lop_pick_f (E rfl) (W rfl (by simp))) rfl ?_ | refine lo (lop_pick (E rfl) (E rfl) (W rfl (by simp))) rfl ?_
  refine lo (lop_move (E rfl)) rfl ?_
  first | refine ln rfl rfl rfl rfl ?_ | refine lg rfl rfl (lop_move (E rfl)) rfl ?_
  first | refine ln rfl rfl rfl rfl ?_ | refine lg rfl rfl (lop_gtr (W rfl id) (E rfl)) rfl ?_
  first | refine lo (lop_pick_t (E rfl) (E rfl)) rfl ?_ | refine lo (lop_pick_f (E rfl) (W rfl (by simp))) rfl ?_ | refine lo (lop_pick (E rfl) (E rfl) (W rfl (by simp))) rfl ?_
  apply le; (repeat (first | (apply KeepIs.take; rfl) | (apply KeepIs.skip; rfl) | exact KeepIs.nil))
  (repeat (first | refine cs ?_ | refine cb ?_ | refine ck ?_ | refine cx ?_ | refine cr ?_ | refine an ?_ | refine ae ?_ | refine ar ?_ | refine bn ?_ | refine bh ?_ | refine be rfl ?_ | refine br ?_ | refine ct rfl ?_ | refine cf rfl ?_))
  refine sw_cond rfl (fun h => ?_) (fun h => ?_)
  · (repeat (first | refine cs ?_ | refine cb ?_ | refine ck ?_ | refine cx ?_ | refine cr ?_ | refine an ?_ | refine ae ?_ | refine ar ?_ | refine bn ?_ | refine bh ?_ | refine be rfl ?_ | refine br ?_ | refine ct rfl ?_ | refine cf rfl ?_))
    first | refine sw_seq_region ?_ | refine sw_region ?_
    refine lo (lop_assign (E rfl)) rfl ?_
    apply le; (repeat (first | (apply KeepIs.take; rfl) | (apply KeepIs.skip; rfl) | exact KeepIs.nil))
    (repeat (first | refine cs ?_ | refine cb ?_ | refine ck ?_ | refine cx ?_ | refine cr ?_ | refine an ?_ | refine ae ?_ | refine ar ?_ | refine bn ?_ | refine bh ?_ | refine be rfl ?_ | refine br ?_ | refine ct rfl ?_ | refine cf rfl ?_))
    (apply aend; (repeat (first | exact ResL.nil | (apply ResL.tmp; rfl) | (apply ResL.cell; rfl; infer_instance; rfl; (repeat (first | exact sget_here | (apply sget_next; (first | assumption | (apply Nq.en; assumption) | omega | (simp only [Nq] at *; omega))))); rfl) | (apply ResL.cells; rfl; infer_instance; infer_instance; rfl; (repeat (first | exact sget_here | (apply sget_next; (first | assumption | (apply Nq.en; assumption) | omega | (simp only [Nq] at *; omega))))); exact Nat.le_of_ble_eq_true rfl))))
    · rfl
    · exact no_mem
  have ha : 1 ≤ pg ∧ pg ≤ 16 ∧ 0 ≤ at_ ∧ at_ ≤ 4096 := by
    by_cases h1 : pg < 1
    · simp [h1] at h
    · by_cases h2 : 16 < pg
      · simp [h2] at h
      · by_cases h3 : at_ < 0
        · simp [h3] at h
        · rw [decide_eq_false h1, decide_eq_false h2, decide_eq_false h3] at h
          simp at h
          omega
  obtain ⟨A, rfl⟩ := Int.eq_ofNat_of_zero_le ha.2.2.1
  obtain ⟨G, rfl⟩ := Int.eq_ofNat_of_zero_le (show 0 ≤ pg by omega)
  (repeat (first | refine cs ?_ | refine cb ?_ | refine ck ?_ | refine cx ?_ | refine cr ?_ | refine an ?_ | refine ae ?_ | refine ar ?_ | refine bn ?_ | refine bh ?_ | refine be rfl ?_ | refine br ?_ | refine ct rfl ?_ | refine cf rfl ?_))
  first | refine sw_seq_region ?_ | refine sw_region ?_
  refine lo (lop_move (E rfl)) rfl ?_
  refine lo (lop_str (by repeat (first | exact PEvs.nil | (apply PEvs.cons; first | exact W rfl id | exact E rfl))) (by (first | (simp only [Value.cells, AV.cells, List.map_cons, List.map_nil, ofConst, ofCell]; rfl) | rfl)) (by repeat (first | exact Fill.nil | (apply Fill.cons; rfl; rfl; rfl; (repeat (first | exact Put.done | apply Put.put | apply Put.skip)))))) rfl ?_
  refine cw [] Try.call12 (mem_new G (-1) (by omega)) rfl ?_ ?_ ?_
  · (repeat (first | exact ArgsLe.nil | (apply ArgsLe.cons; rfl; first | exact VLe.refl _ | exact VLe.when rfl | exact VLe.any | exact VLe.empty | exact VLe.of_eq (by simp))))
  · (first | exact no_mem | exact (fun _ h => h) | (apply StLe.mem; (repeat (first | exact StLe.nil | (apply StLe.cons; (repeat (first | exact List.mem_cons_self | apply List.mem_cons_of_mem)); first | rfl | focus (congr 1; done) | focus (simp; done) | (simp; rfl))))))
  rintro _ σ' ⟨m, q, d, ⟨hN1, hN2, hN3⟩, rfl, rfl⟩ -
  rw [show newMo (-1) = 16 from rfl]
  (apply rs_sto; (first | (simp (disch := (first | (simp only [List.mem_cons, List.not_mem_nil, true_or, or_true, or_false]; done) | (focus (simp only [List.mem_cons, List.not_mem_nil, or_false, not_or]; (repeat' (first | apply And.intro | (first | assumption | (apply Nq.en; assumption) | omega | (simp only [Nq] at *; omega)))); done)) | omega)) only [↓put_σ, ↓mk_σ, AV.cells, sset, sdrop_none, sdrop_nil, sdrop_in, sdrop_out, List.nil_append, List.cons_append, List.append_nil, List.map_nil, List.map_cons, List.take_succ_cons, List.take_zero, List.drop_succ_cons, List.drop_zero, take_len', take_map_len, Nat.zero_add, Nat.add_zero, ofCell, ofConst]; rfl) | rfl))
  refine lo (lop_assign (E rfl)) rfl ?_
  apply le; (repeat (first | (apply KeepIs.take; rfl) | (apply KeepIs.skip; rfl) | exact KeepIs.nil))
  (repeat (first | refine cs ?_ | refine cb ?_ | refine ck ?_ | refine cx ?_ | refine cr ?_ | refine an ?_ | refine ae ?_ | refine ar ?_ | refine bn ?_ | refine bh ?_ | refine be rfl ?_ | refine br ?_ | refine ct rfl ?_ | refine cf rfl ?_))
  have hl0 : (List.replicate (256 * G) 0).length = 256 * G := by simp
  have e32 : IntKind.u64.wrap ↑(BitVec.ofInt IntKind.u64.bits (x : Int) &&& BitVec.ofInt IntKind.u64.bits 4294967295).toNat = ((x % 256 ^ 4 : Nat) : Int) := andU (k := 32) hx (by decide)
  have e8 : IntKind.u64.wrap ↑(BitVec.ofInt IntKind.u64.bits (x : Int) &&& BitVec.ofInt IntKind.u64.bits 255).toNat = ((x % 256 ^ 1 : Nat) : Int) := andU (k := 8) hx (by decide)
  first | refine sw_seq_region ?_ | refine sw_region ?_
  apply bs; (repeat (first | exact AEvs.nil | (apply AEvs.cons; rfl))); rfl; rfl; rfl; rfl; (first | (simp only [Value.cells, AV.cells, List.map_cons, List.map_nil, ofConst, ofCell]; rfl) | rfl); rfl; intro r38 h38; simp only [fresh_cons, fresh_nil, and_true] at h38; (repeat (rcases h38 with ⟨_, h38⟩))
  first | refine lo (lop_len_map (E rfl)) rfl ?_ | refine lo (lop_len_ro (E rfl)) rfl ?_ | refine lo (lop_len_own (E rfl)) rfl ?_
  refine lo (lop_move (E rfl)) rfl ?_
  apply le; (repeat (first | (apply KeepIs.take; rfl) | (apply KeepIs.skip; rfl) | exact KeepIs.nil))
  (repeat (first | refine cs ?_ | refine cb ?_ | refine ck ?_ | refine cx ?_ | refine cr ?_ | refine an ?_ | refine ae ?_ | refine ar ?_ | refine bn ?_ | refine bh ?_ | refine be rfl ?_ | refine br ?_ | refine ct rfl ?_ | refine cf rfl ?_))
  refine lp (β := Nat × Nat × List Nat × List Int) (fun s => ⟨[(0, .int .i64 G), (1, .int .i64 A), (2, .int .u64 x), (6, .bool false), (8, .ptr m 0), (38, .own r38 0 3), (39, .int .i64 3), (40, .int .i64 s.1)], [(r38, .arr 3 1 (([8, 4, 1] : List Int).map encI)), (m, .box 54 [.own q 0 s.2.2.1.length, .int .i64 16, .own s.2.1 0 s.2.2.2.length]), (q, .arr 5 1 (s.2.2.1.map encU)), (s.2.1, .arr 3 1 (s.2.2.2.map encI))]⟩)
    (fun s => s.1 ≤ 3 ∧ (Nq s.2.1 m ∧ Nq s.2.1 q ∧ Nq s.2.1 r38) ∧ s.2.2.1.length = 256 * G ∧ (∀ z ∈ s.2.2.1, z < 256) ∧ s.2.2.2.Pairwise (· < ·) ∧ s.2.2.2.length ≤ 2 * s.1) (fun s => 3 - s.1) (0, d, List.replicate (256 * G) 0, []) ?_ ⟨Nat.zero_le _, ⟨by show Nq d m; (first | assumption | (apply Nq.en; assumption) | omega | (simp only [Nq] at *; omega)), by show Nq d q; (first | assumption | (apply Nq.en; assumption) | omega | (simp only [Nq] at *; omega)), by show Nq d r38; (first | assumption | (apply Nq.en; assumption) | omega | (simp only [Nq] at *; omega))⟩, hl0, rep_lt, List.Pairwise.nil, Nat.le_refl _⟩ ?_
  · (refine sgo_st ?_ ?_ <;> (repeat (first | exact FrLe.nil | (apply FrLe.cons; rfl; first | exact VLe.refl _ | exact VLe.any | exact VLe.empty | exact VLe.of_eq (by simp) | exact VLe.of_eq (by congr 1; omega)) | exact StLe.nil | exact StLe.refl _ | (apply StLe.cons; (repeat (first | exact List.mem_cons_self | apply List.mem_cons_of_mem)); first | rfl | focus (congr 1; done) | focus (simp; done) | (simp; rfl)))))
  rintro ⟨k, e, b, dl⟩ ⟨hk, ⟨he1, he2, he3⟩, hbl, hbb, hds, hdn⟩
  simp only at hk he1 he2 he3 hbl hbb hds hdn ⊢
  (repeat (first | refine cs ?_ | refine cb ?_ | refine ck ?_ | refine cx ?_ | refine cr ?_ | refine an ?_ | refine ae ?_ | refine ar ?_ | refine bn ?_ | refine bh ?_ | refine be rfl ?_ | refine br ?_ | refine ct rfl ?_ | refine cf rfl ?_))
  first | refine sw_seq_region ?_ | refine sw_region ?_
  refine lo (lop_lss (E rfl) (E rfl)) rfl ?_
  apply le; (repeat (first | (apply KeepIs.take; rfl) | (apply KeepIs.skip; rfl) | exact KeepIs.nil))
  (repeat (first | refine cs ?_ | refine cb ?_ | refine ck ?_ | refine cx ?_ | refine cr ?_ | refine an ?_ | refine ae ?_ | refine ar ?_ | refine bn ?_ | refine bh ?_ | refine be rfl ?_ | refine br ?_ | refine ct rfl ?_ | refine cf rfl ?_))
  refine sw_cond rfl (fun h2 => ?_) (fun h2 => ?_)
  · have hlt : k < 3 := by simp at h2; omega
    obtain ⟨nn, hz, hnn⟩ : ∃ nn : Nat, ([8, 4, 1] : List Int)[((k : Int)).toNat]? = some (nn : Int) ∧ (nn = 1 ∨ nn = 4 ∨ nn = 8) := by
      rcases (show k = 0 ∨ k = 1 ∨ k = 2 by omega) with rfl | rfl | rfl
      · exact ⟨8, rfl, by decide⟩
      · exact ⟨4, rfl, by decide⟩
      · exact ⟨1, rfl, by decide⟩
    (repeat (first | refine cs ?_ | refine cb ?_ | refine ck ?_ | refine cx ?_ | refine cr ?_ | refine an ?_ | refine ae ?_ | refine ar ?_ | refine bn ?_ | refine bh ?_ | refine be rfl ?_ | refine br ?_ | refine ct rfl ?_ | refine cf rfl ?_))
    first | refine sw_seq_region ?_ | refine sw_region ?_
    first | refine lo (lop_index_ro (E rfl) (E rfl) (fun hc => by (simp only [List.length_map]; omega))) rfl ?_ | refine lo (lop_index_own0 (E rfl) (by repeat (first | exact sget_here | refine sget_next (by (first | assumption | (apply Nq.en; assumption) | omega | (simp only [Nq] at *; omega))) ?_)) (E rfl) (fun hc => by omega)) rfl ?_ | refine lo (lop_index_own (E rfl) (by repeat (first | exact sget_here | refine sget_next (by (first | assumption | (apply Nq.en; assumption) | omega | (simp only [Nq] at *; omega))) ?_)) (E rfl) (fun hc => by omega)) rfl ?_
    first | refine lo (lop_load_el (E rfl) rfl (fun hc => by first | rfl | exact get_map (by assumption) | assumption | exact get_map (at_bang (by omega))) (fun _ => rfl)) rfl ?_ | refine lo (lop_load_ow (E rfl) rfl (by repeat (first | exact sget_here | refine sget_next (by (first | assumption | (apply Nq.en; assumption) | omega | (simp only [Nq] at *; omega))) ?_)) (fun hc => by first | rfl | exact get_map (by assumption) | assumption | exact get_map (at_bang (by omega))) (fun _ => rfl)) rfl ?_
    refine lo (lop_assign (E rfl)) rfl ?_
    apply le; (repeat (first | (apply KeepIs.take; rfl) | (apply KeepIs.skip; rfl) | exact KeepIs.nil))
    (repeat (first | refine cs ?_ | refine cb ?_ | refine ck ?_ | refine cx ?_ | refine cr ?_ | refine an ?_ | refine ae ?_ | refine ar ?_ | refine bn ?_ | refine bh ?_ | refine be rfl ?_ | refine br ?_ | refine ct rfl ?_ | refine cf rfl ?_))
    first | refine sw_seq_region ?_ | refine sw_region ?_
    refine lo (lop_move (E rfl)) rfl ?_
    refine lo (lop_move (E rfl)) rfl ?_
    first | refine lo (lop_add64 (E rfl) (E rfl) (by omega) (by omega)) rfl ?_ | refine lo (lop_add (E rfl) (E rfl)) rfl ?_
    refine lo (lop_move (E rfl)) rfl ?_
    refine lo (lop_mul (E rfl) (E rfl)) rfl ?_
    refine lo (lop_leq (E rfl) (E rfl)) rfl ?_
    refine lo (lop_assign (E rfl)) rfl ?_
    apply le; (repeat (first | (apply KeepIs.take; rfl) | (apply KeepIs.skip; rfl) | exact KeepIs.nil))
    (repeat (first | refine cs ?_ | refine cb ?_ | refine ck ?_ | refine cx ?_ | refine cr ?_ | refine an ?_ | refine ae ?_ | refine ar ?_ | refine bn ?_ | refine bh ?_ | refine be rfl ?_ | refine br ?_ | refine ct rfl ?_ | refine cf rfl ?_))
    rw [show IntKind.i64.wrap (256 * (G : Int)) = ((256 * G : Nat) : Int) by rw [wrap_i64_of (by omega) (by omega)]; omega]
    by_cases hin : A + nn ≤ 256 * G
    · have hhas := has_of (b := b) (a := A) (n := nn) hnn (by omega)
      rw [decide_eq_true (show (A : Int) + (nn : Int) ≤ ((256 * G : Nat) : Int) by omega)]
      first | refine sw_seq_region ?_ | refine sw_region ?_
      refine lo (lop_move (E rfl)) rfl ?_
      refine lo (lop_move (E rfl)) rfl ?_
      refine lo (lop_move (E rfl)) rfl ?_
      refine lo (lop_move (E rfl)) rfl ?_
      refine cw [(m, .box 54 [.own q 0 (b).length, .int .i64 (16), .own e 0 (dl).length]), (q, .arr 5 1 ((b).map encU)), (e, .arr 3 1 ((dl).map encI))] Try.call13 (mem_store ⟨hN1, he1, he2⟩ b 16 dl (by omega) (by omega) hds A nn x hx hhas) rfl ?_ ?_ ?_
      · (repeat (first | exact ArgsLe.nil | (apply ArgsLe.cons; rfl; first | exact VLe.refl _ | exact VLe.when rfl | exact VLe.any | exact VLe.empty | exact VLe.of_eq (by simp))))
      · (first | exact no_mem | exact (fun _ h => h) | (apply StLe.mem; (repeat (first | exact StLe.nil | (apply StLe.cons; (repeat (first | exact List.mem_cons_self | apply List.mem_cons_of_mem)); first | rfl | focus (congr 1; done) | focus (simp; done) | (simp; rfl))))))
      rintro _ σ' ⟨e', ⟨k1, k2⟩, rfl, rfl⟩ hf
      have hf2 := fresh_rest (hf _ (List.mem_cons_of_mem _ (List.mem_cons_of_mem _ List.mem_cons_self))); simp (disch := (first | (simp only [List.mem_cons, List.not_mem_nil, true_or, or_true, or_false]; done) | (focus (simp only [List.mem_cons, List.not_mem_nil, or_false, not_or]; (repeat' (first | apply And.intro | (first | assumption | (apply Nq.en; assumption) | omega | (simp only [Nq] at *; omega)))); done)) | omega)) only [List.map_cons, List.map_nil, sdrop_none, sdrop_nil, sdrop_in, sdrop_out, fresh_cons, fresh_nil, and_true] at hf2; (repeat (rcases hf2 with ⟨_, hf2⟩))
      have hl1 := stN_len b A x nn
      have hb1 := stN_lt hbb A x nn
      have hd1 := stD_len dl A nn
      have hd2 := stD_sorted hds A nn
      have hv := ld_st (b := b) (a := A) (n := nn) (x := x) (by omega)
      obtain ⟨b', hb'⟩ : ∃ b', b' = stN b A x nn := ⟨_, rfl⟩
      obtain ⟨dl', hdl'⟩ : ∃ dl', dl' = stD dl A nn := ⟨_, rfl⟩
      rw [← hb'] at hl1 hb1 hv ⊢
      rw [← hdl'] at hd1 hd2 ⊢
      (apply rs_sto; (first | (simp (disch := (first | (simp only [List.mem_cons, List.not_mem_nil, true_or, or_true, or_false]; done) | (focus (simp only [List.mem_cons, List.not_mem_nil, or_false, not_or]; (repeat' (first | apply And.intro | (first | assumption | (apply Nq.en; assumption) | omega | (simp only [Nq] at *; omega)))); done)) | omega)) only [↓put_σ, ↓mk_σ, AV.cells, sset, sdrop_none, sdrop_nil, sdrop_in, sdrop_out, List.nil_append, List.cons_append, List.append_nil, List.map_nil, List.map_cons, List.take_succ_cons, List.take_zero, List.drop_succ_cons, List.drop_zero, take_len', take_map_len, Nat.zero_add, Nat.add_zero, ofCell, ofConst]; rfl) | rfl))
      refine lo (lop_move (E rfl)) rfl ?_
      refine lo (lop_bneq (E rfl) (E rfl)) rfl ?_
      apply le; (repeat (first | (apply KeepIs.take; rfl) | (apply KeepIs.skip; rfl) | exact KeepIs.nil))
      (repeat (first | refine cs ?_ | refine cb ?_ | refine ck ?_ | refine cx ?_ | refine cr ?_ | refine an ?_ | refine ae ?_ | refine ar ?_ | refine bn ?_ | refine bh ?_ | refine be rfl ?_ | refine br ?_ | refine ct rfl ?_ | refine cf rfl ?_))
      first | refine sw_seq_region ?_ | refine sw_region ?_
      refine lo (lop_move (E rfl)) rfl ?_
      refine lo (lop_move (E rfl)) rfl ?_
      refine lo (lop_move (E rfl)) rfl ?_
      refine pu [m, q, e'] Try.call14 (mem_load_yes b' 16 dl' (by omega) hb1 A nn (has_of hnn (by omega))) rfl ?_ (by repeat (first | exact NoF.int | exact NoF.bool | exact NoF.nilp | exact NoF.nil | exact NoF.own | exact NoF.ptr | exact NoF.str | exact nofl_nil | apply NoF.tup | apply NoF.agg | apply nofl_cons)) ?_
      · (repeat (
           first
            | exact ArgsIf.nil
            | (apply ArgsIf.cons; (
             first
              | exact W rfl id
              | exact W rfl (fun _ => rfl)
              | exact E rfl); (
             first
              | exact Bor.refl _
              | exact Bor.le VLe.any
              | exact Bor.le VLe.empty
              | (apply bown; (repeat (
                first
                 | exact List.mem_cons_self
                 | apply List.mem_cons_of_mem)); (repeat (
                first
                 | exact sget_here
                 | (apply sget_next; (
                  first
                   | assumption
                   | (apply Nq.en; assumption)
                   | omega
                   | (simp only [Nq] at *; omega))))); (
               first
                | focus (simp; done)
                | omega
                | focus (simp; omega)); (
               first
                | rfl
                | focus (simp; done)
                | focus (exact List.take_of_length_le (by
                 first
                  | (simp; done)
                  | (simp; omega)))))
              | focus (apply bbox; (repeat (
                first
                 | exact List.mem_cons_self
                 | apply List.mem_cons_of_mem)); (repeat (
                first
                 | exact sget_here
                 | (apply sget_next; (
                  first
                   | assumption
                   | (apply Nq.en; assumption)
                   | omega
                   | (simp only [Nq] at *; omega))))); rfl; rfl; (repeat (
                first
                 | exact BorL.nil
                 | (apply BorL.cons; (
                  first
                   | exact Bor.refl _
                   | exact Bor.le VLe.any
                   | exact Bor.le VLe.empty
                   | (apply bown; (repeat (
                     first
                      | exact List.mem_cons_self
                      | apply List.mem_cons_of_mem)); (repeat (
                     first
                      | exact sget_here
                      | (apply sget_next; (
                       first
                        | assumption
                        | (apply Nq.en; assumption)
                        | omega
                        | (simp only [Nq] at *; omega))))); (
                    first
                     | focus (simp; done)
                     | omega); (
                    first
                     | rfl
                     | focus (simp; done)
                     | focus (exact List.take_of_length_le (by
                      first
                       | (simp; done)
                       | (simp; omega)))))
                   | focus (apply Bor.le; apply VLe.of_eq; simp; done))))); done)
              | focus (apply bagg; (repeat (
                first
                 | exact BorL.nil
                 | (apply BorL.cons; (
                  first
                   | exact Bor.refl _
                   | exact Bor.le VLe.any
                   | exact Bor.le VLe.empty
                   | (apply bown; (repeat (
                     first
                      | exact List.mem_cons_self
                      | apply List.mem_cons_of_mem)); (repeat (
                     first
                      | exact sget_here
                      | (apply sget_next; (
                       first
                        | assumption
                        | (apply Nq.en; assumption)
                        | omega
                        | (simp only [Nq] at *; omega))))); (
                    first
                     | focus (simp; done)
                     | omega); (
                    first
                     | rfl
                     | focus (simp; done)
                     | focus (exact List.take_of_length_le (by
                      first
                       | (simp; done)
                       | (simp; omega)))))
                   | focus (apply Bor.le; apply VLe.of_eq; simp; done))))); done)
              | focus (apply Bor.le; apply VLe.of_eq; simp; done)))))
      rw [hv]
      refine lo (lop_move (E rfl)) rfl ?_
      refine lo (lop_extract (E rfl) rfl) rfl ?_
      refine lo (lop_extract (E rfl) rfl) rfl ?_
      refine lo (lop_assign (E rfl)) rfl ?_
      refine lo (lop_assign (E rfl)) rfl ?_
      apply le; (repeat (first | (apply KeepIs.take; rfl) | (apply KeepIs.skip; rfl) | exact KeepIs.nil))
      (repeat (first | refine cs ?_ | refine cb ?_ | refine ck ?_ | refine cx ?_ | refine cr ?_ | refine an ?_ | refine ae ?_ | refine ar ?_ | refine bn ?_ | refine bh ?_ | refine be rfl ?_ | refine br ?_ | refine ct rfl ?_ | refine cf rfl ?_))
      first | refine sw_seq_region ?_ | refine sw_region ?_
      refine lo (lop_move (E rfl)) rfl ?_
      refine lo (lop_move (E rfl)) rfl ?_
      refine lo (lop_bneq (E rfl) (E rfl)) rfl ?_
      refine lo (lop_move (E rfl)) rfl ?_
      first | refine ln rfl rfl rfl rfl ?_ | refine lg rfl rfl (lop_move (E rfl)) rfl ?_
      first | refine ln rfl rfl rfl rfl ?_ | refine lg rfl rfl (lop_move (W rfl id)) rfl ?_
      first | refine ln rfl rfl rfl rfl ?_ | refine lg rfl rfl (lop_move (E rfl)) rfl ?_ | refine lw rfl rfl (lop_move (E rfl)) rfl ?_ | refine lw rfl rfl (lop_no (v := .bool false)) rfl ?_
      first | refine ln rfl rfl rfl rfl ?_ | refine lg rfl rfl (lop_eql (W rfl (by first | exact id | simp)) (E rfl)) rfl ?_ | refine lw rfl rfl (lop_eql (W rfl (by first | exact id | simp)) (E rfl)) rfl ?_ | refine lw rfl rfl (lop_no (v := .bool false)) rfl ?_
      first | refine ln rfl rfl rfl rfl ?_ | refine lg rfl rfl (lop_pick_t (W rfl id) (W rfl (by simp))) rfl ?_ | refine lg rfl rfl (lop_pick_f (W rfl id) (E rfl)) rfl ?_ | refine lg rfl rfl (lop_pick (W rfl id) (W rfl (by simp)) (E rfl)) rfl ?_
      first | refine ln rfl rfl rfl rfl ?_ | refine lg rfl rfl (lop_move (W rfl id)) rfl ?_
      first | refine ln rfl rfl rfl rfl ?_ | refine lg rfl rfl (lop_move (E rfl)) rfl ?_ | refine lw rfl rfl (lop_move (E rfl)) rfl ?_ | refine lw rfl rfl (lop_no (v := .bool false)) rfl ?_
      first | refine ln rfl rfl rfl rfl ?_ | refine lg rfl rfl (lop_move (E rfl)) rfl ?_ | refine lw rfl rfl (lop_move (E rfl)) rfl ?_ | refine lw rfl rfl (lop_no (v := .bool false)) rfl ?_
      first | refine ln rfl rfl rfl rfl ?_ | refine lg rfl rfl (lop_neq (W rfl (by first | exact id | simp)) (W rfl (by first | exact id | simp))) rfl ?_ | refine lw rfl rfl (lop_neq (W rfl (by first | exact id | simp)) (W rfl (by first | exact id | simp))) rfl ?_ | refine lw rfl rfl (lop_no (v := .bool false)) rfl ?_
      first | refine ln rfl rfl rfl rfl ?_ | refine lg rfl rfl (lop_pick_t (W rfl id) (W rfl (by simp))) rfl ?_ | refine lg rfl rfl (lop_pick_f (W rfl id) (E rfl)) rfl ?_ | refine lg rfl rfl (lop_pick (W rfl id) (W rfl (by simp)) (E rfl)) rfl ?_
      first | refine lo (lop_pick_t (E rfl) (E rfl)) rfl ?_ | refine lo (lop_pick_f (E rfl) (W rfl (by simp))) rfl ?_ | refine lo (lop_pick (E rfl) (E rfl) (W rfl (by simp))) rfl ?_
      refine lo (lop_move (E rfl)) rfl ?_
      first | refine ln rfl rfl rfl rfl ?_ | refine lg rfl rfl (lop_move (E rfl)) rfl ?_
      first | refine ln rfl rfl rfl rfl ?_ | refine lg rfl rfl (lop_move (W rfl id)) rfl ?_
      first | refine ln rfl rfl rfl rfl ?_ | refine lg rfl rfl (lop_move (E rfl)) rfl ?_ | refine lw rfl rfl (lop_move (E rfl)) rfl ?_ | refine lw rfl rfl (lop_no (v := .bool false)) rfl ?_
      first | refine ln rfl rfl rfl rfl ?_ | refine lg rfl rfl (lop_eql (W rfl (by first | exact id | simp)) (E rfl)) rfl ?_ | refine lw rfl rfl (lop_eql (W rfl (by first | exact id | simp)) (E rfl)) rfl ?_ | refine lw rfl rfl (lop_no (v := .bool false)) rfl ?_
      first | refine ln rfl rfl rfl rfl ?_ | refine lg rfl rfl (lop_pick_t (W rfl id) (W rfl (by simp))) rfl ?_ | refine lg rfl rfl (lop_pick_f (W rfl id) (E rfl)) rfl ?_ | refine lg rfl rfl (lop_pick (W rfl id) (W rfl (by simp)) (E rfl)) rfl ?_
      first | refine ln rfl rfl rfl rfl ?_ | refine lg rfl rfl (lop_move (W rfl id)) rfl ?_
      first | refine ln rfl rfl rfl rfl ?_ | refine lg rfl rfl (lop_move (E rfl)) rfl ?_ | refine lw rfl rfl (lop_move (E rfl)) rfl ?_ | refine lw rfl rfl (lop_no (v := .bool false)) rfl ?_
      first | refine ln rfl rfl rfl rfl ?_ | refine lg rfl rfl (lop_move (E rfl)) rfl ?_ | refine lw rfl rfl (lop_move (E rfl)) rfl ?_ | refine lw rfl rfl (lop_no (v := .bool false)) rfl ?_
      first | refine ln rfl rfl rfl rfl ?_ | refine lg rfl rfl (lop_and (W rfl (by first | exact id | simp)) (E rfl)) rfl ?_ | refine lw rfl rfl (lop_and (W rfl (by first | exact id | simp)) (E rfl)) rfl ?_ | refine lw rfl rfl (lop_no (v := .bool false)) rfl ?_
      first | refine ln rfl rfl rfl rfl ?_ | refine lg rfl rfl (lop_neq (W rfl (by first | exact id | simp)) (W rfl (by first | exact id | simp))) rfl ?_ | refine lw rfl rfl (lop_neq (W rfl (by first | exact id | simp)) (W rfl (by first | exact id | simp))) rfl ?_ | refine lw rfl rfl (lop_no (v := .bool false)) rfl ?_
      first | refine ln rfl rfl rfl rfl ?_ | refine lg rfl rfl (lop_pick_t (W rfl id) (W rfl (by simp))) rfl ?_ | refine lg rfl rfl (lop_pick_f (W rfl id) (E rfl)) rfl ?_ | refine lg rfl rfl (lop_pick (W rfl id) (W rfl (by simp)) (E rfl)) rfl ?_
      first | refine lo (lop_pick_t (E rfl) (E rfl)) rfl ?_ | refine lo (lop_pick_f (E rfl) (W rfl (by simp))) rfl ?_ | refine lo (lop_pick (E rfl) (E rfl) (W rfl (by simp))) rfl ?_
      refine lo (lop_move (E rfl)) rfl ?_
      first | refine ln rfl rfl rfl rfl ?_ | refine lg rfl rfl (lop_move (E rfl)) rfl ?_
      first | refine ln rfl rfl rfl rfl ?_ | refine lg rfl rfl (lop_move (W rfl id)) rfl ?_
      first | refine ln rfl rfl rfl rfl ?_ | refine lg rfl rfl (lop_move (E rfl)) rfl ?_ | refine lw rfl rfl (lop_move (E rfl)) rfl ?_ | refine lw rfl rfl (lop_no (v := .bool false)) rfl ?_
      first | refine ln rfl rfl rfl rfl ?_ | refine lg rfl rfl (lop_eql (W rfl (by first | exact id | simp)) (E rfl)) rfl ?_ | refine lw rfl rfl (lop_eql (W rfl (by first | exact id | simp)) (E rfl)) rfl ?_ | refine lw rfl rfl (lop_no (v := .bool false)) rfl ?_
      first | refine ln rfl rfl rfl rfl ?_ | refine lg rfl rfl (lop_pick_t (W rfl id) (W rfl (by simp))) rfl ?_ | refine lg rfl rfl (lop_pick_f (W rfl id) (E rfl)) rfl ?_ | refine lg rfl rfl (lop_pick (W rfl id) (W rfl (by simp)) (E rfl)) rfl ?_
      first | refine ln rfl rfl rfl rfl ?_ | refine lg rfl rfl (lop_move (W rfl id)) rfl ?_
      first | refine ln rfl rfl rfl rfl ?_ | refine lg rfl rfl (lop_move (E rfl)) rfl ?_ | refine lw rfl rfl (lop_move (E rfl)) rfl ?_ | refine lw rfl rfl (lop_no (v := .bool false)) rfl ?_
      first | refine ln rfl rfl rfl rfl ?_ | refine lg rfl rfl (lop_move (E rfl)) rfl ?_ | refine lw rfl rfl (lop_move (E rfl)) rfl ?_ | refine lw rfl rfl (lop_no (v := .bool false)) rfl ?_
      first | refine ln rfl rfl rfl rfl ?_ | refine lg rfl rfl (lop_and (W rfl (by first | exact id | simp)) (E rfl)) rfl ?_ | refine lw rfl rfl (lop_and (W rfl (by first | exact id | simp)) (E rfl)) rfl ?_ | refine lw rfl rfl (lop_no (v := .bool false)) rfl ?_
      first | refine ln rfl rfl rfl rfl ?_ | refine lg rfl rfl (lop_neq (W rfl (by first | exact id | simp)) (W rfl (by first | exact id | simp))) rfl ?_ | refine lw rfl rfl (lop_neq (W rfl (by first | exact id | simp)) (W rfl (by first | exact id | simp))) rfl ?_ | refine lw rfl rfl (lop_no (v := .bool false)) rfl ?_
      first | refine ln rfl rfl rfl rfl ?_ | refine lg rfl rfl (lop_pick_t (W rfl id) (W rfl (by simp))) rfl ?_ | refine lg rfl rfl (lop_pick_f (W rfl id) (E rfl)) rfl ?_ | refine lg rfl rfl (lop_pick (W rfl id) (W rfl (by simp)) (E rfl)) rfl ?_
      first | refine lo (lop_pick_t (E rfl) (E rfl)) rfl ?_ | refine lo (lop_pick_f (E rfl) (W rfl (by simp))) rfl ?_ | refine lo (lop_pick (E rfl) (E rfl) (W rfl (by simp))) rfl ?_
      apply le; (repeat (first | (apply KeepIs.take; rfl) | (apply KeepIs.skip; rfl) | exact KeepIs.nil))
      (repeat (first | refine cs ?_ | refine cb ?_ | refine ck ?_ | refine cx ?_ | refine cr ?_ | refine an ?_ | refine ae ?_ | refine ar ?_ | refine bn ?_ | refine bh ?_ | refine be rfl ?_ | refine br ?_ | refine ct rfl ?_ | refine cf rfl ?_))
      refine sw_cond rfl (fun h4 => ?_) (fun _ => ?_)
      · exfalso
        rw [e32, e8] at h4
        rcases hnn with rfl | rfl | rfl
        · simp at h4
        · simp at h4
        · simp [Nat.mod_eq_of_lt hx] at h4
      (repeat (first | refine cs ?_ | refine cb ?_ | refine ck ?_ | refine cx ?_ | refine cr ?_ | refine an ?_ | refine ae ?_ | refine ar ?_ | refine bn ?_ | refine bh ?_ | refine be rfl ?_ | refine br ?_ | refine ct rfl ?_ | refine cf rfl ?_))
      first | refine sw_seq_region ?_ | refine sw_region ?_
      first | refine lo (lop_add64 (E rfl) (E rfl) (by omega) (by omega)) rfl ?_ | refine lo (lop_add (E rfl) (E rfl)) rfl ?_
      refine lo (lop_move (E rfl)) rfl ?_
      apply le; (repeat (first | (apply KeepIs.take; rfl) | (apply KeepIs.skip; rfl) | exact KeepIs.nil))
      (repeat (first | refine cs ?_ | refine cb ?_ | refine ck ?_ | refine cx ?_ | refine cr ?_ | refine an ?_ | refine ae ?_ | refine ar ?_ | refine bn ?_ | refine bh ?_ | refine be rfl ?_ | refine br ?_ | refine ct rfl ?_ | refine cf rfl ?_))
      refine ⟨(k + 1, e', b', dl'), ⟨hlt, ⟨k1, k2, by show Nq e' r38; (first | assumption | (apply Nq.en; assumption) | omega | (simp only [Nq] at *; omega))⟩, by show b'.length = _; omega, hb1, hd2, by show dl'.length ≤ 2 * (k + 1); omega⟩, by show 3 - (k + 1) < 3 - k; omega, ?_⟩
      (refine sgo_st ?_ ?_ <;> (repeat (first | exact FrLe.nil | (apply FrLe.cons; rfl; first | exact VLe.refl _ | exact VLe.any | exact VLe.empty | exact VLe.of_eq (by simp) | exact VLe.of_eq (by congr 1; omega)) | exact StLe.nil | exact StLe.refl _ | (apply StLe.cons; (repeat (first | exact List.mem_cons_self | apply List.mem_cons_of_mem)); first | rfl | focus (congr 1; done) | focus (simp; done) | (simp; rfl)))))
    · have hhas := has_not (b := b) (a := A) (n := nn) (by omega)
      rw [decide_eq_false (show ¬ (A : Int) + (nn : Int) ≤ ((256 * G : Nat) : Int) by omega)]
      first | refine sw_seq_region ?_ | refine sw_region ?_
      refine lo (lop_move (E rfl)) rfl ?_
      refine lo (lop_move (E rfl)) rfl ?_
      refine lo (lop_move (E rfl)) rfl ?_
      refine lo (lop_move (E rfl)) rfl ?_
      refine cw [(m, .box 54 [.own q 0 (b).length, .int .i64 (16), .own e 0 (dl).length]), (q, .arr 5 1 ((b).map encU)), (e, .arr 3 1 ((dl).map encI))] Try.call13 (mem_store_no ⟨hN1, he1, he2⟩ b 16 dl (by omega) A nn x hhas) rfl ?_ ?_ ?_
      · (repeat (first | exact ArgsLe.nil | (apply ArgsLe.cons; rfl; first | exact VLe.refl _ | exact VLe.when rfl | exact VLe.any | exact VLe.empty | exact VLe.of_eq (by simp))))
      · (first | exact no_mem | exact (fun _ h => h) | (apply StLe.mem; (repeat (first | exact StLe.nil | (apply StLe.cons; (repeat (first | exact List.mem_cons_self | apply List.mem_cons_of_mem)); first | rfl | focus (congr 1; done) | focus (simp; done) | (simp; rfl))))))
      rintro _ σ' ⟨rfl, rfl⟩ -
      (apply rs_sto; (first | (simp (disch := (first | (simp only [List.mem_cons, List.not_mem_nil, true_or, or_true, or_false]; done) | (focus (simp only [List.mem_cons, List.not_mem_nil, or_false, not_or]; (repeat' (first | apply And.intro | (first | assumption | (apply Nq.en; assumption) | omega | (simp only [Nq] at *; omega)))); done)) | omega)) only [↓put_σ, ↓mk_σ, AV.cells, sset, sdrop_none, sdrop_nil, sdrop_in, sdrop_out, List.nil_append, List.cons_append, List.append_nil, List.map_nil, List.map_cons, List.take_succ_cons, List.take_zero, List.drop_succ_cons, List.drop_zero, take_len', take_map_len, Nat.zero_add, Nat.add_zero, ofCell, ofConst]; rfl) | rfl))
      refine lo (lop_move (E rfl)) rfl ?_
      refine lo (lop_bneq (E rfl) (E rfl)) rfl ?_
      apply le; (repeat (first | (apply KeepIs.take; rfl) | (apply KeepIs.skip; rfl) | exact KeepIs.nil))
      (repeat (first | refine cs ?_ | refine cb ?_ | refine ck ?_ | refine cx ?_ | refine cr ?_ | refine an ?_ | refine ae ?_ | refine ar ?_ | refine bn ?_ | refine bh ?_ | refine be rfl ?_ | refine br ?_ | refine ct rfl ?_ | refine cf rfl ?_))
      first | refine sw_seq_region ?_ | refine sw_region ?_
      refine lo (lop_move (E rfl)) rfl ?_
      refine lo (lop_move (E rfl)) rfl ?_
      refine lo (lop_move (E rfl)) rfl ?_
      refine pu [m, q, e] Try.call14 (mem_load_no b 16 dl (by omega) hbb A nn hhas) rfl ?_ (by repeat (first | exact NoF.int | exact NoF.bool | exact NoF.nilp | exact NoF.nil | exact NoF.own | exact NoF.ptr | exact NoF.str | exact nofl_nil | apply NoF.tup | apply NoF.agg | apply nofl_cons)) ?_
      · (repeat (
           first
            | exact ArgsIf.nil
            | (apply ArgsIf.cons; (
             first
              | exact W rfl id
              | exact W rfl (fun _ => rfl)
              | exact E rfl); (
             first
              | exact Bor.refl _
              | exact Bor.le VLe.any
              | exact Bor.le VLe.empty
              | (apply bown; (repeat (
                first
                 | exact List.mem_cons_self
                 | apply List.mem_cons_of_mem)); (repeat (
                first
                 | exact sget_here
                 | (apply sget_next; (
                  first
                   | assumption
                   | (apply Nq.en; assumption)
                   | omega
                   | (simp only [Nq] at *; omega))))); (
               first
                | focus (simp; done)
                | omega
                | focus (simp; omega)); (
               first
                | rfl
                | focus (simp; done)
                | focus (exact List.take_of_length_le (by
                 first
                  | (simp; done)
                  | (simp; omega)))))
              | focus (apply bbox; (repeat (
                first
                 | exact List.mem_cons_self
                 | apply List.mem_cons_of_mem)); (repeat (
                first
                 | exact sget_here
                 | (apply sget_next; (
                  first
                   | assumption
                   | (apply Nq.en; assumption)
                   | omega
                   | (simp only [Nq] at *; omega))))); rfl; rfl; (repeat (
                first
                 | exact BorL.nil
                 | (apply BorL.cons; (
                  first
                   | exact Bor.refl _
                   | exact Bor.le VLe.any
                   | exact Bor.le VLe.empty
                   | (apply bown; (repeat (
                     first
                      | exact List.mem_cons_self
                      | apply List.mem_cons_of_mem)); (repeat (
                     first
                      | exact sget_here
                      | (apply sget_next; (
                       first
                        | assumption
                        | (apply Nq.en; assumption)
                        | omega
                        | (simp only [Nq] at *; omega))))); (
                    first
                     | focus (simp; done)
                     | omega); (
                    first
                     | rfl
                     | focus (simp; done)
                     | focus (exact List.take_of_length_le (by
                      first
                       | (simp; done)
                       | (simp; omega)))))
                   | focus (apply Bor.le; apply VLe.of_eq; simp; done))))); done)
              | focus (apply bagg; (repeat (
                first
                 | exact BorL.nil
                 | (apply BorL.cons; (
                  first
                   | exact Bor.refl _
                   | exact Bor.le VLe.any
                   | exact Bor.le VLe.empty
                   | (apply bown; (repeat (
                     first
                      | exact List.mem_cons_self
                      | apply List.mem_cons_of_mem)); (repeat (
                     first
                      | exact sget_here
                      | (apply sget_next; (
                       first
                        | assumption
                        | (apply Nq.en; assumption)
                        | omega
                        | (simp only [Nq] at *; omega))))); (
                    first
                     | focus (simp; done)
                     | omega); (
                    first
                     | rfl
                     | focus (simp; done)
                     | focus (exact List.take_of_length_le (by
                      first
                       | (simp; done)
                       | (simp; omega)))))
                   | focus (apply Bor.le; apply VLe.of_eq; simp; done))))); done)
              | focus (apply Bor.le; apply VLe.of_eq; simp; done)))))
      refine lo (lop_move (E rfl)) rfl ?_
      refine lo (lop_extract (E rfl) rfl) rfl ?_
      refine lo (lop_extract (E rfl) rfl) rfl ?_
      refine lo (lop_assign (E rfl)) rfl ?_
      refine lo (lop_assign (E rfl)) rfl ?_
      apply le; (repeat (first | (apply KeepIs.take; rfl) | (apply KeepIs.skip; rfl) | exact KeepIs.nil))
      (repeat (first | refine cs ?_ | refine cb ?_ | refine ck ?_ | refine cx ?_ | refine cr ?_ | refine an ?_ | refine ae ?_ | refine ar ?_ | refine bn ?_ | refine bh ?_ | refine be rfl ?_ | refine br ?_ | refine ct rfl ?_ | refine cf rfl ?_))
      first | refine sw_seq_region ?_ | refine sw_region ?_
      refine lo (lop_move (E rfl)) rfl ?_
      refine lo (lop_move (E rfl)) rfl ?_
      refine lo (lop_bneq (E rfl) (E rfl)) rfl ?_
      refine lo (lop_move (E rfl)) rfl ?_
      first | refine ln rfl rfl rfl rfl ?_ | refine lg rfl rfl (lop_move (E rfl)) rfl ?_
      first | refine ln rfl rfl rfl rfl ?_ | refine lg rfl rfl (lop_move (W rfl id)) rfl ?_
      first | refine ln rfl rfl rfl rfl ?_ | refine lg rfl rfl (lop_move (E rfl)) rfl ?_ | refine lw rfl rfl (lop_move (E rfl)) rfl ?_ | refine lw rfl rfl (lop_no (v := .bool false)) rfl ?_
      first | refine ln rfl rfl rfl rfl ?_ | refine lg rfl rfl (lop_eql (W rfl (by first | exact id | simp)) (E rfl)) rfl ?_ | refine lw rfl rfl (lop_eql (W rfl (by first | exact id | simp)) (E rfl)) rfl ?_ | refine lw rfl rfl (lop_no (v := .bool false)) rfl ?_
      first | refine ln rfl rfl rfl rfl ?_ | refine lg rfl rfl (lop_pick_t (W rfl id) (W rfl (by simp))) rfl ?_ | refine lg rfl rfl (lop_pick_f (W rfl id) (E rfl)) rfl ?_ | refine lg rfl rfl (lop_pick (W rfl id) (W rfl (by simp)) (E rfl)) rfl ?_
      first | refine ln rfl rfl rfl rfl ?_ | refine lg rfl rfl (lop_move (W rfl id)) rfl ?_
      first | refine ln rfl rfl rfl rfl ?_ | refine lg rfl rfl (lop_move (E rfl)) rfl ?_ | refine lw rfl rfl (lop_move (E rfl)) rfl ?_ | refine lw rfl rfl (lop_no (v := .bool false)) rfl ?_
      first | refine ln rfl rfl rfl rfl ?_ | refine lg rfl rfl (lop_move (E rfl)) rfl ?_ | refine lw rfl rfl (lop_move (E rfl)) rfl ?_ | refine lw rfl rfl (lop_no (v := .bool false)) rfl ?_
      first | refine ln rfl rfl rfl rfl ?_ | refine lg rfl rfl (lop_neq (W rfl (by first | exact id | simp)) (W rfl (by first | exact id | simp))) rfl ?_ | refine lw rfl rfl (lop_neq (W rfl (by first | exact id | simp)) (W rfl (by first | exact id | simp))) rfl ?_ | refine lw rfl rfl (lop_no (v := .bool false)) rfl ?_
      first | refine ln rfl rfl rfl rfl ?_ | refine lg rfl rfl (lop_pick_t (W rfl id) (W rfl (by simp))) rfl ?_ | refine lg rfl rfl (lop_pick_f (W rfl id) (E rfl)) rfl ?_ | refine lg rfl rfl (lop_pick (W rfl id) (W rfl (by simp)) (E rfl)) rfl ?_
      first | refine lo (lop_pick_t (E rfl) (E rfl)) rfl ?_ | refine lo (lop_pick_f (E rfl) (W rfl (by simp))) rfl ?_ | refine lo (lop_pick (E rfl) (E rfl) (W rfl (by simp))) rfl ?_
      refine lo (lop_move (E rfl)) rfl ?_
      first | refine ln rfl rfl rfl rfl ?_ | refine lg rfl rfl (lop_move (E rfl)) rfl ?_
      first | refine ln rfl rfl rfl rfl ?_ | refine lg rfl rfl (lop_move (W rfl id)) rfl ?_
      first | refine ln rfl rfl rfl rfl ?_ | refine lg rfl rfl (lop_move (E rfl)) rfl ?_ | refine lw rfl rfl (lop_move (E rfl)) rfl ?_ | refine lw rfl rfl (lop_no (v := .bool false)) rfl ?_
      first | refine ln rfl rfl rfl rfl ?_ | refine lg rfl rfl (lop_eql (W rfl (by first | exact id | simp)) (E rfl)) rfl ?_ | refine lw rfl rfl (lop_eql (W rfl (by first | exact id | simp)) (E rfl)) rfl ?_ | refine lw rfl rfl (lop_no (v := .bool false)) rfl ?_
      first | refine ln rfl rfl rfl rfl ?_ | refine lg rfl rfl (lop_pick_t (W rfl id) (W rfl (by simp))) rfl ?_ | refine lg rfl rfl (lop_pick_f (W rfl id) (E rfl)) rfl ?_ | refine lg rfl rfl (lop_pick (W rfl id) (W rfl (by simp)) (E rfl)) rfl ?_
      first | refine ln rfl rfl rfl rfl ?_ | refine lg rfl rfl (lop_move (W rfl id)) rfl ?_
      first | refine ln rfl rfl rfl rfl ?_ | refine lg rfl rfl (lop_move (E rfl)) rfl ?_ | refine lw rfl rfl (lop_move (E rfl)) rfl ?_ | refine lw rfl rfl (lop_no (v := .bool false)) rfl ?_
      first | refine ln rfl rfl rfl rfl ?_ | refine lg rfl rfl (lop_move (E rfl)) rfl ?_ | refine lw rfl rfl (lop_move (E rfl)) rfl ?_ | refine lw rfl rfl (lop_no (v := .bool false)) rfl ?_
      first | refine ln rfl rfl rfl rfl ?_ | refine lg rfl rfl (lop_and (W rfl (by first | exact id | simp)) (E rfl)) rfl ?_ | refine lw rfl rfl (lop_and (W rfl (by first | exact id | simp)) (E rfl)) rfl ?_ | refine lw rfl rfl (lop_no (v := .bool false)) rfl ?_
      first | refine ln rfl rfl rfl rfl ?_ | refine lg rfl rfl (lop_neq (W rfl (by first | exact id | simp)) (W rfl (by first | exact id | simp))) rfl ?_ | refine lw rfl rfl (lop_neq (W rfl (by first | exact id | simp)) (W rfl (by first | exact id | simp))) rfl ?_ | refine lw rfl rfl (lop_no (v := .bool false)) rfl ?_
      first | refine ln rfl rfl rfl rfl ?_ | refine lg rfl rfl (lop_pick_t (W rfl id) (W rfl (by simp))) rfl ?_ | refine lg rfl rfl (lop_pick_f (W rfl id) (E rfl)) rfl ?_ | refine lg rfl rfl (lop_pick (W rfl id) (W rfl (by simp)) (E rfl)) rfl ?_
      first | refine lo (lop_pick_t (E rfl) (E rfl)) rfl ?_ | refine lo (lop_pick_f (E rfl) (W rfl (by simp))) rfl ?_ | refine lo (lop_pick (E rfl) (E rfl) (W rfl (by simp))) rfl ?_
      refine lo (lop_move (E rfl)) rfl ?_
      first | refine ln rfl rfl rfl rfl ?_ | refine lg rfl rfl (lop_move (E rfl)) rfl ?_
      first | refine ln rfl rfl rfl rfl ?_ | refine lg rfl rfl (lop_move (W rfl id)) rfl ?_
      first | refine ln rfl rfl rfl rfl ?_ | refine lg rfl rfl (lop_move (E rfl)) rfl ?_ | refine lw rfl rfl (lop_move (E rfl)) rfl ?_ | refine lw rfl rfl (lop_no (v := .bool false)) rfl ?_
      first | refine ln rfl rfl rfl rfl ?_ | refine lg rfl rfl (lop_eql (W rfl (by first | exact id | simp)) (E rfl)) rfl ?_ | refine lw rfl rfl (lop_eql (W rfl (by first | exact id | simp)) (E rfl)) rfl ?_ | refine lw rfl rfl (lop_no (v := .bool false)) rfl ?_
      first | refine ln rfl rfl rfl rfl ?_ | refine lg rfl rfl (lop_pick_t (W rfl id) (W rfl (by simp))) rfl ?_ | refine lg rfl rfl (lop_pick_f (W rfl id) (E rfl)) rfl ?_ | refine lg rfl rfl (lop_pick (W rfl id) (W rfl (by simp)) (E rfl)) rfl ?_
      first | refine ln rfl rfl rfl rfl ?_ | refine lg rfl rfl (lop_move (W rfl id)) rfl ?_
      first | refine ln rfl rfl rfl rfl ?_ | refine lg rfl rfl (lop_move (E rfl)) rfl ?_ | refine lw rfl rfl (lop_move (E rfl)) rfl ?_ | refine lw rfl rfl (lop_no (v := .bool false)) rfl ?_
      first | refine ln rfl rfl rfl rfl ?_ | refine lg rfl rfl (lop_move (E rfl)) rfl ?_ | refine lw rfl rfl (lop_move (E rfl)) rfl ?_ | refine lw rfl rfl (lop_no (v := .bool false)) rfl ?_
      first | refine ln rfl rfl rfl rfl ?_ | refine lg rfl rfl (lop_and (W rfl (by first | exact id | simp)) (E rfl)) rfl ?_ | refine lw rfl rfl (lop_and (W rfl (by first | exact id | simp)) (E rfl)) rfl ?_ | refine lw rfl rfl (lop_no (v := .bool false)) rfl ?_
      first | refine ln rfl rfl rfl rfl ?_ | refine lg rfl rfl (lop_neq (W rfl (by first | exact id | simp)) (W rfl (by first | exact id | simp))) rfl ?_ | refine lw rfl rfl (lop_neq (W rfl (by first | exact id | simp)) (W rfl (by first | exact id | simp))) rfl ?_ | refine lw rfl rfl (lop_no (v := .bool false)) rfl ?_
      first | refine ln rfl rfl rfl rfl ?_ | refine lg rfl rfl (lop_pick_t (W rfl id) (W rfl (by simp))) rfl ?_ | refine lg rfl rfl (lop_pick_f (W rfl id) (E rfl)) rfl ?_ | refine lg rfl rfl (lop_pick (W rfl id) (W rfl (by simp)) (E rfl)) rfl ?_
      first | refine lo (lop_pick_t (E rfl) (E rfl)) rfl ?_ | refine lo (lop_pick_f (E rfl) (W rfl (by simp))) rfl ?_ | refine lo (lop_pick (E rfl) (E rfl) (W rfl (by simp))) rfl ?_
      apply le; (repeat (first | (apply KeepIs.take; rfl) | (apply KeepIs.skip; rfl) | exact KeepIs.nil))
      (repeat (first | refine cs ?_ | refine cb ?_ | refine ck ?_ | refine cx ?_ | refine cr ?_ | refine an ?_ | refine ae ?_ | refine ar ?_ | refine bn ?_ | refine bh ?_ | refine be rfl ?_ | refine br ?_ | refine ct rfl ?_ | refine cf rfl ?_))
      first | refine sw_seq_region ?_ | refine sw_region ?_
      first | refine lo (lop_add64 (E rfl) (E rfl) (by omega) (by omega)) rfl ?_ | refine lo (lop_add (E rfl) (E rfl)) rfl ?_
      refine lo (lop_move (E rfl)) rfl ?_
      apply le; (repeat (first | (apply KeepIs.take; rfl) | (apply KeepIs.skip; rfl) | exact KeepIs.nil))
      (repeat (first | refine cs ?_ | refine cb ?_ | refine ck ?_ | refine cx ?_ | refine cr ?_ | refine an ?_ | refine ae ?_ | refine ar ?_ | refine bn ?_ | refine bh ?_ | refine be rfl ?_ | refine br ?_ | refine ct rfl ?_ | refine cf rfl ?_))
      refine ⟨(k + 1, e, b, dl), ⟨hlt, ⟨he1, he2, he3⟩, hbl, hbb, hds, by show dl.length ≤ 2 * (k + 1); omega⟩, by show 3 - (k + 1) < 3 - k; omega, ?_⟩
      (refine sgo_st ?_ ?_ <;> (repeat (first | exact FrLe.nil | (apply FrLe.cons; rfl; first | exact VLe.refl _ | exact VLe.any | exact VLe.empty | exact VLe.of_eq (by simp) | exact VLe.of_eq (by congr 1; omega)) | exact StLe.nil | exact StLe.refl _ | (apply StLe.cons; (repeat (first | exact List.mem_cons_self | apply List.mem_cons_of_mem)); first | rfl | focus (congr 1; done) | focus (simp; done) | (simp; rfl)))))
  (repeat (first | refine cs ?_ | refine cb ?_ | refine ck ?_ | refine cx ?_ | refine cr ?_ | refine an ?_ | refine ae ?_ | refine ar ?_ | refine bn ?_ | refine bh ?_ | refine be rfl ?_ | refine br ?_ | refine ct rfl ?_ | refine cf rfl ?_))
  first | refine sw_seq_region ?_ | refine sw_region ?_
  refine lo (lop_move (E rfl)) rfl ?_
  refine pu [m, q, e] Try.call14 (mem_load_no b 16 dl (by omega) hbb 4611686018427387904 8 (by unfold hasB; rw [decide_eq_false (p := (4611686018427387904 : Int) + 8 ≤ b.length) (by omega), Bool.and_false])) rfl ?_ (by repeat (first | exact NoF.int | exact NoF.bool | exact NoF.nilp | exact NoF.nil | exact NoF.own | exact NoF.ptr | exact NoF.str | exact nofl_nil | apply NoF.tup | apply NoF.agg | apply nofl_cons)) ?_
  · (repeat (
       first
        | exact ArgsIf.nil
        | (apply ArgsIf.cons; (
         first
          | exact W rfl id
          | exact W rfl (fun _ => rfl)
          | exact E rfl); (
         first
          | exact Bor.refl _
          | exact Bor.le VLe.any
          | exact Bor.le VLe.empty
          | (apply bown; (repeat (
            first
             | exact List.mem_cons_self
             | apply List.mem_cons_of_mem)); (repeat (
            first
             | exact sget_here
             | (apply sget_next; (
              first
               | assumption
               | (apply Nq.en; assumption)
               | omega
               | (simp only [Nq] at *; omega))))); (
           first
            | focus (simp; done)
            | omega
            | focus (simp; omega)); (
           first
            | rfl
            | focus (simp; done)
            | focus (exact List.take_of_length_le (by
             first
              | (simp; done)
              | (simp; omega)))))
          | focus (apply bbox; (repeat (
            first
             | exact List.mem_cons_self
             | apply List.mem_cons_of_mem)); (repeat (
            first
             | exact sget_here
             | (apply sget_next; (
              first
               | assumption
               | (apply Nq.en; assumption)
               | omega
               | (simp only [Nq] at *; omega))))); rfl; rfl; (repeat (
            first
             | exact BorL.nil
             | (apply BorL.cons; (
              first
               | exact Bor.refl _
               | exact Bor.le VLe.any
               | exact Bor.le VLe.empty
               | (apply bown; (repeat (
                 first
                  | exact List.mem_cons_self
                  | apply List.mem_cons_of_mem)); (repeat (
                 first
                  | exact sget_here
                  | (apply sget_next; (
                   first
                    | assumption
                    | (apply Nq.en; assumption)
                    | omega
                    | (simp only [Nq] at *; omega))))); (
                first
                 | focus (simp; done)
                 | omega); (
                first
                 | rfl
                 | focus (simp; done)
                 | focus (exact List.take_of_length_le (by
                  first
                   | (simp; done)
                   | (simp; omega)))))
               | focus (apply Bor.le; apply VLe.of_eq; simp; done))))); done)
          | focus (apply bagg; (repeat (
            first
             | exact BorL.nil
             | (apply BorL.cons; (
              first
               | exact Bor.refl _
               | exact Bor.le VLe.any
               | exact Bor.le VLe.empty
               | (apply bown; (repeat (
                 first
                  | exact List.mem_cons_self
                  | apply List.mem_cons_of_mem)); (repeat (
                 first
                  | exact sget_here
                  | (apply sget_next; (
                   first
                    | assumption
                    | (apply Nq.en; assumption)
                    | omega
                    | (simp only [Nq] at *; omega))))); (
                first
                 | focus (simp; done)
                 | omega); (
                first
                 | rfl
                 | focus (simp; done)
                 | focus (exact List.take_of_length_le (by
                  first
                   | (simp; done)
                   | (simp; omega)))))
               | focus (apply Bor.le; apply VLe.of_eq; simp; done))))); done)
          | focus (apply Bor.le; apply VLe.of_eq; simp; done)))))
  refine lo (lop_move (E rfl)) rfl ?_
  refine lo (lop_extract (E rfl) rfl) rfl ?_
  refine lo (lop_extract (E rfl) rfl) rfl ?_
  refine lo (lop_assign (E rfl)) rfl ?_
  refine lo (lop_assign (E rfl)) rfl ?_
  apply le; (repeat (first | (apply KeepIs.take; rfl) | (apply KeepIs.skip; rfl) | exact KeepIs.nil))
  (repeat (first | refine cs ?_ | refine cb ?_ | refine ck ?_ | refine cx ?_ | refine cr ?_ | refine an ?_ | refine ae ?_ | refine ar ?_ | refine bn ?_ | refine bh ?_ | refine be rfl ?_ | refine br ?_ | refine ct rfl ?_ | refine cf rfl ?_))
  first | refine sw_seq_region ?_ | refine sw_region ?_
  refine lo (lop_move (E rfl)) rfl ?_
  refine pu [m, q, e] Try.call14 (mem_load_no b 16 dl (by omega) hbb (-1) 1 rfl) rfl ?_ (by repeat (first | exact NoF.int | exact NoF.bool | exact NoF.nilp | exact NoF.nil | exact NoF.own | exact NoF.ptr | exact NoF.str | exact nofl_nil | apply NoF.tup | apply NoF.agg | apply nofl_cons)) ?_
  · (repeat (
       first
        | exact ArgsIf.nil
        | (apply ArgsIf.cons; (
         first
          | exact W rfl id
          | exact W rfl (fun _ => rfl)
          | exact E rfl); (
         first
          | exact Bor.refl _
          | exact Bor.le VLe.any
          | exact Bor.le VLe.empty
          | (apply bown; (repeat (
            first
             | exact List.mem_cons_self
             | apply List.mem_cons_of_mem)); (repeat (
            first
             | exact sget_here
             | (apply sget_next; (
              first
               | assumption
               | (apply Nq.en; assumption)
               | omega
               | (simp only [Nq] at *; omega))))); (
           first
            | focus (simp; done)
            | omega
            | focus (simp; omega)); (
           first
            | rfl
            | focus (simp; done)
            | focus (exact List.take_of_length_le (by
             first
              | (simp; done)
              | (simp; omega)))))
          | focus (apply bbox; (repeat (
            first
             | exact List.mem_cons_self
             | apply List.mem_cons_of_mem)); (repeat (
            first
             | exact sget_here
             | (apply sget_next; (
              first
               | assumption
               | (apply Nq.en; assumption)
               | omega
               | (simp only [Nq] at *; omega))))); rfl; rfl; (repeat (
            first
             | exact BorL.nil
             | (apply BorL.cons; (
              first
               | exact Bor.refl _
               | exact Bor.le VLe.any
               | exact Bor.le VLe.empty
               | (apply bown; (repeat (
                 first
                  | exact List.mem_cons_self
                  | apply List.mem_cons_of_mem)); (repeat (
                 first
                  | exact sget_here
                  | (apply sget_next; (
                   first
                    | assumption
                    | (apply Nq.en; assumption)
                    | omega
                    | (simp only [Nq] at *; omega))))); (
                first
                 | focus (simp; done)
                 | omega); (
                first
                 | rfl
                 | focus (simp; done)
                 | focus (exact List.take_of_length_le (by
                  first
                   | (simp; done)
                   | (simp; omega)))))
               | focus (apply Bor.le; apply VLe.of_eq; simp; done))))); done)
          | focus (apply bagg; (repeat (
            first
             | exact BorL.nil
             | (apply BorL.cons; (
              first
               | exact Bor.refl _
               | exact Bor.le VLe.any
               | exact Bor.le VLe.empty
               | (apply bown; (repeat (
                 first
                  | exact List.mem_cons_self
                  | apply List.mem_cons_of_mem)); (repeat (
                 first
                  | exact sget_here
                  | (apply sget_next; (
                   first
                    | assumption
                    | (apply Nq.en; assumption)
                    | omega
                    | (simp only [Nq] at *; omega))))); (
                first
                 | focus (simp; done)
                 | omega); (
                first
                 | rfl
                 | focus (simp; done)
                 | focus (exact List.take_of_length_le (by
                  first
                   | (simp; done)
                   | (simp; omega)))))
               | focus (apply Bor.le; apply VLe.of_eq; simp; done))))); done)
          | focus (apply Bor.le; apply VLe.of_eq; simp; done)))))
  refine lo (lop_move (E rfl)) rfl ?_
  refine lo (lop_extract (E rfl) rfl) rfl ?_
  refine lo (lop_extract (E rfl) rfl) rfl ?_
  refine lo (lop_assign (E rfl)) rfl ?_
  refine lo (lop_assign (E rfl)) rfl ?_
  apply le; (repeat (first | (apply KeepIs.take; rfl) | (apply KeepIs.skip; rfl) | exact KeepIs.nil))
  (repeat (first | refine cs ?_ | refine cb ?_ | refine ck ?_ | refine cx ?_ | refine cr ?_ | refine an ?_ | refine ae ?_ | refine ar ?_ | refine bn ?_ | refine bh ?_ | refine be rfl ?_ | refine br ?_ | refine ct rfl ?_ | refine cf rfl ?_))
  first | refine sw_seq_region ?_ | refine sw_region ?_
  refine lo (lop_move (E rfl)) rfl ?_
  refine lo (lop_not (E rfl)) rfl ?_
  refine lo (lop_move (E rfl)) rfl ?_
  first | refine ln rfl rfl rfl rfl ?_ | refine lg rfl rfl (lop_move (E rfl)) rfl ?_
  first | refine ln rfl rfl rfl rfl ?_ | refine lg rfl rfl (lop_not (W rfl id)) rfl ?_
  first | refine lo (lop_pick_t (E rfl) (W rfl (by simp))) rfl ?_ | refine lo (lop_pick_f (E rfl) (E rfl)) rfl ?_ | refine lo (lop_pick (E rfl) (W rfl (by simp)) (E rfl)) rfl ?_
  refine lo (lop_assign (E rfl)) rfl ?_
  apply le; (repeat (first | (apply KeepIs.take; rfl) | (apply KeepIs.skip; rfl) | exact KeepIs.nil))
  (repeat (first | refine cs ?_ | refine cb ?_ | refine ck ?_ | refine cx ?_ | refine cr ?_ | refine an ?_ | refine ae ?_ | refine ar ?_ | refine bn ?_ | refine bh ?_ | refine be rfl ?_ | refine br ?_ | refine ct rfl ?_ | refine cf rfl ?_))
  (apply aend; (repeat (first | exact ResL.nil | (apply ResL.tmp; rfl) | (apply ResL.cell; rfl; infer_instance; rfl; (repeat (first | exact sget_here | (apply sget_next; (first | assumption | (apply Nq.en; assumption) | omega | (simp only [Nq] at *; omega))))); rfl) | (apply ResL.cells; rfl; infer_instance; infer_instance; rfl; (repeat (first | exact sget_here | (apply sget_next; (first | assumption | (apply Nq.en; assumption) | omega | (simp only [Nq] at *; omega))))); exact Nat.le_of_ble_eq_true rfl))))
  · rfl
  · exact no_mem
end Go.Proofs.Ytemehfolglcleaa
