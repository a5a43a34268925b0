/-
  Package extent: Free, Take, Copy.
-/
import Derived.Test.YtpdgnenffiphcaaExtentB
namespace Go.Proofs.Ytpdgnenffiphcaa
open Go.RowKit Go.ChangeShapes Go.WideShapes Go.ChangeAt Go.Deep
set_option linter.unusedSimpArgs false
set_option linter.unusedVariables false
attribute [local irreducible] SW RS RD AThen ABlock

theorem spans_bd {at_ : Int} {fr : List Bool} : (spans at_ fr).length ≤ fr.length ∧ ∀ p ∈ spans at_ fr, at_ ≤ p.1 ∧ p.1 ≤ at_ + fr.length ∧ 1 ≤ p.2 ∧ p.2 ≤ fr.length := by
  have ok := spOk at_ fr fr.length (Nat.le_refl _)
  rw [← spS_all]
  exact ⟨ok.len, ok.bd⟩
def sumL (l : List (Int × Int)) : Int := (l.map (·.2)).sum
theorem sumL_snoc {l : List (Int × Int)} {j : Nat} {p : Int × Int} (h : l[j]? = some p) : sumL (l.take (j + 1)) = sumL (l.take j) + p.2 := by
  unfold sumL
  rw [List.take_add_one, h]
  simp
theorem sumL_bd {l : List (Int × Int)} {m : Nat} (h : ∀ p ∈ l, 0 ≤ p.2 ∧ p.2 ≤ (m : Int)) : 0 ≤ sumL l ∧ sumL l ≤ (l.length : Int) * m := by
  induction l with
  | nil => simp [sumL]
  | cons a t ih =>
    have := ih (fun p hp => h p (by simp [hp]))
    have ha := h a (by simp)
    have e1 : sumL (a :: t) = a.2 + sumL t := by simp [sumL]
    have e2 : (((a :: t).length : Nat) : Int) * m = (t.length : Int) * m + m := by simp [Int.add_mul]
    omega
def takP (at_ : Int) (fr : List Bool) (n : Int) : Option (Int × Int) := (spans at_ fr).find? fun p => decide (1 ≤ n) && decide (n ≤ p.2)
def takV (at_ : Int) (fr : List Bool) (n : Int) : AV := match takP at_ fr n with
  | some p => .tup [.agg [.int .i64 p.1, .int .i64 n], .bool (allB at_ fr p.1 n true)]
  | none => .tup [.agg [.int .i64 0, .int .i64 0], .bool false]
def takF (at_ : Int) (fr : List Bool) (n : Int) : List Bool := match takP at_ fr n with
  | some p => setF at_ fr p.1 n false
  | none => fr
theorem takF_len (at_ : Int) (fr : List Bool) (n : Int) : (takF at_ fr n).length = fr.length := by
  unfold takF
  split
  · exact setF_len ..
  · rfl
section
variable {s q : Nat}
set_option maxRecDepth 100000 in
theorem extent_free (h1 : Nq q s) (at_ : Int) (fr : List Bool) (h0 : 0 ≤ at_) (h0' : at_ ≤ 1000000) (hf : fr.length ≤ 100000) : SCall Try.prog 30 [.ptr s 0] [(s, .box 83 [.int .i64 at_, .own q 0 fr.length]), (q, .arr 4 1 (fr.map encB))]
    (fun x σ => x = .int .i64 (sumL (spans at_ fr)) ∧ σ = [(s, .box 83 [.int .i64 at_, .own q 0 fr.length]), (q, .arr 4 1 (fr.map encB))]) := by
  refine scall_of (n := 19) (ks := [0, 2, 3, 5, 7, 8, 9, 10]) Try.func30 rfl rfl (Nat.le_of_ble_eq_true rfl) ?_
  (repeat (first | refine cs ?_ | refine cb ?_ | refine ck ?_ | refine cx ?_ | refine cr ?_ | refine an ?_ | refine ae ?_ | refine ar ?_ | refine bn ?_ | refine bh ?_ | refine be rfl ?_ | refine br ?_ | refine ct rfl ?_ | refine cf rfl ?_))
  first | refine sw_seq_region ?_ | refine sw_region ?_
  refine lo (lop_assign (E rfl)) rfl ?_
  apply le; (repeat (first | (apply KeepIs.take; rfl) | (apply KeepIs.skip; rfl) | exact KeepIs.nil))
  (repeat (first | refine cs ?_ | refine cb ?_ | refine ck ?_ | refine cx ?_ | refine cr ?_ | refine an ?_ | refine ae ?_ | refine ar ?_ | refine bn ?_ | refine bh ?_ | refine be rfl ?_ | refine br ?_ | refine ct rfl ?_ | refine cf rfl ?_))
  first | refine sw_seq_region ?_ | refine sw_region ?_
  refine lo (lop_assign (E rfl)) rfl ?_
  apply le; (repeat (first | (apply KeepIs.take; rfl) | (apply KeepIs.skip; rfl) | exact KeepIs.nil))
  (repeat (first | refine cs ?_ | refine cb ?_ | refine ck ?_ | refine cx ?_ | refine cr ?_ | refine an ?_ | refine ae ?_ | refine ar ?_ | refine bn ?_ | refine bh ?_ | refine be rfl ?_ | refine br ?_ | refine ct rfl ?_ | refine cf rfl ?_))
  first | refine sw_seq_region ?_ | refine sw_region ?_
  refine lo (lop_move (E rfl)) rfl ?_
  refine cw [(s, .box 83 [.int .i64 at_, .own q 0 fr.length]), (q, .arr 4 1 (fr.map encB))] Try.call29 (extent_spans h1 at_ fr h0 h0' hf) rfl ?_ ?_ ?_
  · (repeat (first | exact ArgsLe.nil | (apply ArgsLe.cons; rfl; first | exact VLe.refl _ | exact VLe.when rfl | exact VLe.any | exact VLe.empty | exact VLe.of_eq (by simp))))
  · (first | exact no_mem | (apply StLe.mem; (repeat (first | exact StLe.nil | (apply StLe.cons; (repeat (first | exact List.mem_cons_self | apply List.mem_cons_of_mem)); first | rfl | focus (congr 1; done) | focus (simp; done) | (simp; rfl))))))
  rintro x σ' ⟨l, ⟨hl1, hl2⟩, rfl, rfl⟩ hl
  replace hl := (hl _ List.mem_cons_self).resolve_left (by simp only [List.mem_cons, List.not_mem_nil, or_false, exists_eq_or_imp, exists_eq_left, not_or]; (repeat' (first | apply And.intro | (first | assumption | (apply Nq.en; assumption) | omega | (simp only [Nq] at *; omega)))); done); simp only [fresh_cons, fresh_nil, and_true] at hl; (repeat (rcases hl with ⟨_, hl⟩))
  (apply rs_sto; (first | (simp (disch := (first | (simp only [List.mem_cons, List.not_mem_nil, true_or, or_true, or_false]; done) | (focus (simp only [List.mem_cons, List.not_mem_nil, or_false, not_or]; (repeat' (first | apply And.intro | (first | assumption | (apply Nq.en; assumption) | omega | (simp only [Nq] at *; omega)))); done)) | omega)) only [↓put_σ, ↓mk_σ, AV.cells, sset, sdrop_none, sdrop_nil, sdrop_in, sdrop_out, List.nil_append, List.cons_append, List.append_nil, List.map_nil, List.map_cons, List.take_succ_cons, List.take_zero, List.drop_succ_cons, List.drop_zero, take_len', take_map_len, Nat.zero_add, Nat.add_zero, ofCell, ofConst]; rfl) | rfl))
  first | refine lo (lop_len_map (E rfl)) rfl ?_ | refine lo (lop_len_ro (E rfl)) rfl ?_ | refine lo (lop_len_own (E rfl)) rfl ?_
  refine lo (lop_move (E rfl)) rfl ?_
  apply le; (repeat (first | (apply KeepIs.take; rfl) | (apply KeepIs.skip; rfl) | exact KeepIs.nil))
  (repeat (first | refine cs ?_ | refine cb ?_ | refine ck ?_ | refine cx ?_ | refine cr ?_ | refine an ?_ | refine ae ?_ | refine ar ?_ | refine bn ?_ | refine bh ?_ | refine be rfl ?_ | refine br ?_ | refine ct rfl ?_ | refine cf rfl ?_))
  have hbd := spans_bd (at_ := at_) (fr := fr)
  obtain ⟨S, hS⟩ : ∃ S, S = spans at_ fr := ⟨_, rfl⟩
  rw [← hS] at hbd ⊢
  refine lp (β := Nat) (fun j => ⟨[(3, .int .i64 (sumL (S.take j))), (7, .own l 0 S.length), (8, .int .i64 S.length), (9, .int .i64 j)], [(l, .arr 65 2 (S.map encP)), (s, .box 83 [.int .i64 at_, .own q 0 fr.length]), (q, .arr 4 1 (fr.map encB))]⟩) (fun j => j ≤ S.length) (fun j => S.length - j) 0 ?_ (Nat.zero_le _) ?_
  · rw [show sumL (S.take 0) = 0 from rfl]
    (refine sgo_st ?_ ?_ <;> (repeat (first | exact FrLe.nil | (apply FrLe.cons; rfl; first | exact VLe.refl _ | exact VLe.any | exact VLe.empty | exact VLe.of_eq (by simp) | exact VLe.of_eq (by congr 1; omega)) | exact StLe.nil | (apply StLe.cons; (repeat (first | exact List.mem_cons_self | apply List.mem_cons_of_mem)); first | rfl | focus (congr 1; done) | focus (simp; done) | (simp; rfl)))))
  rintro j hj
  (repeat (first | refine cs ?_ | refine cb ?_ | refine ck ?_ | refine cx ?_ | refine cr ?_ | refine an ?_ | refine ae ?_ | refine ar ?_ | refine bn ?_ | refine bh ?_ | refine be rfl ?_ | refine br ?_ | refine ct rfl ?_ | refine cf rfl ?_))
  first | refine sw_seq_region ?_ | refine sw_region ?_
  refine lo (lop_lss (E rfl) (E rfl)) rfl ?_
  apply le; (repeat (first | (apply KeepIs.take; rfl) | (apply KeepIs.skip; rfl) | exact KeepIs.nil))
  (repeat (first | refine cs ?_ | refine cb ?_ | refine ck ?_ | refine cx ?_ | refine cr ?_ | refine an ?_ | refine ae ?_ | refine ar ?_ | refine bn ?_ | refine bh ?_ | refine be rfl ?_ | refine br ?_ | refine ct rfl ?_ | refine cf rfl ?_))
  refine sw_cond rfl (fun h2 => ?_) (fun h2 => ?_)
  · have hlt : j < S.length := by simp at h2; omega
    obtain ⟨p, hp⟩ : ∃ p, S[j]? = some p := ⟨_, List.getElem?_eq_getElem hlt⟩
    have hpm := hbd.2 p (List.mem_of_getElem? hp)
    have hsm := sumL_bd (l := S.take j) (m := 100000) (fun p hp => by have := hbd.2 p (List.mem_of_mem_take hp); omega)
    have hsl : (S.take j).length = j := by simp; omega
    rw [hsl] at hsm
    have hj2 : (j : Int) ≤ 100000 := by have := hbd.1; omega
    have hp2 : ((S.map encP)[(j : Int).toNat]?) = some (encP p) := by rw [Int.toNat_natCast, List.getElem?_map, hp]; rfl
    (repeat (first | refine cs ?_ | refine cb ?_ | refine ck ?_ | refine cx ?_ | refine cr ?_ | refine an ?_ | refine ae ?_ | refine ar ?_ | refine bn ?_ | refine bh ?_ | refine be rfl ?_ | refine br ?_ | refine ct rfl ?_ | refine cf rfl ?_))
    first | refine sw_seq_region ?_ | refine sw_region ?_
    first | refine lo (lop_index_ro (E rfl) (E rfl) (fun hc => by (simp only [List.length_map]; omega))) rfl ?_ | refine lo (lop_index_own0 (E rfl) (by repeat (first | exact sget_here | refine sget_next (by (first | assumption | (apply Nq.en; assumption) | omega | (simp only [Nq] at *; omega))) ?_)) (E rfl) (fun hc => by omega)) rfl ?_ | refine lo (lop_index_own (E rfl) (by repeat (first | exact sget_here | refine sget_next (by (first | assumption | (apply Nq.en; assumption) | omega | (simp only [Nq] at *; omega))) ?_)) (E rfl) (fun hc => by omega)) rfl ?_
    first | refine lo (lop_load_el_agg (E rfl) rfl (fun hc => by first | rfl | exact get_map (by assumption) | assumption | exact get_map (at_bang (by omega))) (fun _ => Nat.le_of_ble_eq_true rfl)) rfl ?_ | refine lo (lop_load_ow_agg (E rfl) rfl (by repeat (first | exact sget_here | refine sget_next (by (first | assumption | (apply Nq.en; assumption) | omega | (simp only [Nq] at *; omega))) ?_)) (fun hc => by first | rfl | exact get_map (by assumption) | assumption | exact get_map (at_bang (by omega))) (fun _ => Nat.le_of_ble_eq_true rfl)) rfl ?_
    apply al; rfl; (first | (simp only [Value.cells, AV.cells, List.map_cons, List.map_nil, ofConst, ofCell]; rfl) | rfl); intro r5 h5; simp only [fresh_cons, fresh_nil, and_true] at h5; (repeat (rcases h5 with ⟨_, h5⟩))
    apply stp; rfl; rfl; rfl; rfl; (repeat (first | (apply SPut.here; (repeat (first | exact Put.done | apply Put.put | apply Put.skip)); (repeat (first | exact Fresh.nil | (apply Fresh.cons; (first | assumption | (apply Nq.en; assumption) | omega | (simp only [Nq] at *; omega)))))) | (apply SPut.next; (first | assumption | (apply Nq.en; assumption) | omega | (simp only [Nq] at *; omega)))))
    apply le; (repeat (first | (apply KeepIs.take; rfl) | (apply KeepIs.skip; rfl) | exact KeepIs.nil))
    (repeat (first | refine cs ?_ | refine cb ?_ | refine ck ?_ | refine cx ?_ | refine cr ?_ | refine an ?_ | refine ae ?_ | refine ar ?_ | refine bn ?_ | refine bh ?_ | refine be rfl ?_ | refine br ?_ | refine ct rfl ?_ | refine cf rfl ?_))
    first | refine sw_seq_region ?_ | refine sw_region ?_
    refine lo (lop_move (E rfl)) rfl ?_
    refine lo (lop_field_ptr (E rfl) rfl (by decide)) rfl ?_
    refine lo (lop_load_ptr (E rfl) rfl (by repeat (first | exact sget_here | refine sget_next (by (first | assumption | (apply Nq.en; assumption) | omega | (simp only [Nq] at *; omega))) ?_)) (fun _ => rfl)) rfl ?_
    first | refine lo (lop_add64 (E rfl) (E rfl) (by omega) (by omega)) rfl ?_ | refine lo (lop_add (E rfl) (E rfl)) rfl ?_
    refine lo (lop_assign (E rfl)) rfl ?_
    apply le; (repeat (first | (apply KeepIs.take; rfl) | (apply KeepIs.skip; rfl) | exact KeepIs.nil))
    (repeat (first | refine cs ?_ | refine cb ?_ | refine ck ?_ | refine cx ?_ | refine cr ?_ | refine an ?_ | refine ae ?_ | refine ar ?_ | refine bn ?_ | refine bh ?_ | refine be rfl ?_ | refine br ?_ | refine ct rfl ?_ | refine cf rfl ?_))
    first | refine sw_seq_region ?_ | refine sw_region ?_
    first | refine lo (lop_add64 (E rfl) (E rfl) (by omega) (by omega)) rfl ?_ | refine lo (lop_add (E rfl) (E rfl)) rfl ?_
    refine lo (lop_move (E rfl)) rfl ?_
    apply le; (repeat (first | (apply KeepIs.take; rfl) | (apply KeepIs.skip; rfl) | exact KeepIs.nil))
    (repeat (first | refine cs ?_ | refine cb ?_ | refine ck ?_ | refine cx ?_ | refine cr ?_ | refine an ?_ | refine ae ?_ | refine ar ?_ | refine bn ?_ | refine bh ?_ | refine be rfl ?_ | refine br ?_ | refine ct rfl ?_ | refine cf rfl ?_))
    refine ⟨j + 1, hlt, by show S.length - (j + 1) < S.length - j; omega, ?_⟩
    rw [sumL_snoc hp]
    (refine sgo_st ?_ ?_ <;> (repeat (first | exact FrLe.nil | (apply FrLe.cons; rfl; first | exact VLe.refl _ | exact VLe.any | exact VLe.empty | exact VLe.of_eq (by simp) | exact VLe.of_eq (by congr 1; omega)) | exact StLe.nil | (apply StLe.cons; (repeat (first | exact List.mem_cons_self | apply List.mem_cons_of_mem)); first | rfl | focus (congr 1; done) | focus (simp; done) | (simp; rfl)))))
  obtain rfl : j = S.length := by simp at h2; omega
  rw [List.take_length]
  (repeat (first | refine cs ?_ | refine cb ?_ | refine ck ?_ | refine cx ?_ | refine cr ?_ | refine an ?_ | refine ae ?_ | refine ar ?_ | refine bn ?_ | refine bh ?_ | refine be rfl ?_ | refine br ?_ | refine ct rfl ?_ | refine cf rfl ?_))
  first | refine sw_seq_region ?_ | refine sw_region ?_
  refine lo (lop_move (E rfl)) rfl ?_
  refine lo (lop_assign (E rfl)) rfl ?_
  apply le; (repeat (first | (apply KeepIs.take; rfl) | (apply KeepIs.skip; rfl) | exact KeepIs.nil))
  (repeat (first | refine cs ?_ | refine cb ?_ | refine ck ?_ | refine cx ?_ | refine cr ?_ | refine an ?_ | refine ae ?_ | refine ar ?_ | refine bn ?_ | refine bh ?_ | refine be rfl ?_ | refine br ?_ | refine ct rfl ?_ | refine cf rfl ?_))
  (apply aend; (repeat (first | exact ResL.nil | (apply ResL.tmp; rfl) | (apply ResL.cell; rfl; infer_instance; rfl; (repeat (first | exact sget_here | (apply sget_next; (first | assumption | (apply Nq.en; assumption) | omega | (simp only [Nq] at *; omega))))); rfl) | (apply ResL.cells; rfl; infer_instance; infer_instance; rfl; (repeat (first | exact sget_here | (apply sget_next; (first | assumption | (apply Nq.en; assumption) | omega | (simp only [Nq] at *; omega))))); exact Nat.le_of_ble_eq_true rfl))))
  · exact ⟨rfl, rfl⟩
  · (first | exact no_mem | (apply StLe.mem; (repeat (first | exact StLe.nil | (apply StLe.cons; (repeat (first | exact List.mem_cons_self | apply List.mem_cons_of_mem)); first | rfl | focus (congr 1; done) | focus (simp; done) | (simp; rfl))))))
set_option maxRecDepth 100000 in
theorem extent_take (h1 : Nq q s) (at_ : Int) (fr : List Bool) (h0 : 0 ≤ at_) (h0' : at_ ≤ 1000000) (hf : fr.length ≤ 100000) (n : Int) : SCall Try.prog 25 [.ptr s 0, .int .i64 n] [(s, .box 83 [.int .i64 at_, .own q 0 fr.length]), (q, .arr 4 1 (fr.map encB))]
    (fun x σ => x = takV at_ fr n ∧ σ = [(s, .box 83 [.int .i64 at_, .own q 0 (takF at_ fr n).length]), (q, .arr 4 1 ((takF at_ fr n).map encB))]) := by
  refine scall_of (n := 31) (ks := [0, 1, 4, 5, 7, 9, 10, 11, 12, 22]) Try.func25 rfl rfl (Nat.le_of_ble_eq_true rfl) ?_
  (repeat (first | refine cs ?_ | refine cb ?_ | refine ck ?_ | refine cx ?_ | refine cr ?_ | refine an ?_ | refine ae ?_ | refine ar ?_ | refine bn ?_ | refine bh ?_ | refine be rfl ?_ | refine br ?_ | refine ct rfl ?_ | refine cf rfl ?_))
  first | refine sw_seq_region ?_ | refine sw_region ?_
  apply al; rfl; (first | (simp only [Value.cells, AV.cells, List.map_cons, List.map_nil, ofConst, ofCell]; rfl) | rfl); intro r4 h4; simp only [fresh_cons, fresh_nil, and_true] at h4; (repeat (rcases h4 with ⟨_, h4⟩))
  refine lo (lop_assign (E rfl)) rfl ?_
  apply le; (repeat (first | (apply KeepIs.take; rfl) | (apply KeepIs.skip; rfl) | exact KeepIs.nil))
  (repeat (first | refine cs ?_ | refine cb ?_ | refine ck ?_ | refine cx ?_ | refine cr ?_ | refine an ?_ | refine ae ?_ | refine ar ?_ | refine bn ?_ | refine bh ?_ | refine be rfl ?_ | refine br ?_ | refine ct rfl ?_ | refine cf rfl ?_))
  first | refine sw_seq_region ?_ | refine sw_region ?_
  refine lo (lop_move (E rfl)) rfl ?_
  refine cw [(s, .box 83 [.int .i64 at_, .own q 0 fr.length]), (q, .arr 4 1 (fr.map encB))] Try.call29 (extent_spans h1 at_ fr h0 h0' hf) rfl ?_ ?_ ?_
  · (repeat (first | exact ArgsLe.nil | (apply ArgsLe.cons; rfl; first | exact VLe.refl _ | exact VLe.when rfl | exact VLe.any | exact VLe.empty | exact VLe.of_eq (by simp))))
  · (first | exact no_mem | (apply StLe.mem; (repeat (first | exact StLe.nil | (apply StLe.cons; (repeat (first | exact List.mem_cons_self | apply List.mem_cons_of_mem)); first | rfl | focus (congr 1; done) | focus (simp; done) | (simp; rfl))))))
  rintro x σ' ⟨l, ⟨hl1, hl2⟩, rfl, rfl⟩ hl
  replace hl := (hl _ List.mem_cons_self).resolve_left (by simp only [List.mem_cons, List.not_mem_nil, or_false, exists_eq_or_imp, exists_eq_left, not_or]; (repeat' (first | apply And.intro | (first | assumption | (apply Nq.en; assumption) | omega | (simp only [Nq] at *; omega)))); done); simp only [fresh_cons, fresh_nil, and_true] at hl; (repeat (rcases hl with ⟨_, hl⟩))
  (apply rs_sto; (first | (simp (disch := (first | (simp only [List.mem_cons, List.not_mem_nil, true_or, or_true, or_false]; done) | (focus (simp only [List.mem_cons, List.not_mem_nil, or_false, not_or]; (repeat' (first | apply And.intro | (first | assumption | (apply Nq.en; assumption) | omega | (simp only [Nq] at *; omega)))); done)) | omega)) only [↓put_σ, ↓mk_σ, AV.cells, sset, sdrop_none, sdrop_nil, sdrop_in, sdrop_out, List.nil_append, List.cons_append, List.append_nil, List.map_nil, List.map_cons, List.take_succ_cons, List.take_zero, List.drop_succ_cons, List.drop_zero, take_len', take_map_len, Nat.zero_add, Nat.add_zero, ofCell, ofConst]; rfl) | rfl))
  first | refine lo (lop_len_map (E rfl)) rfl ?_ | refine lo (lop_len_ro (E rfl)) rfl ?_ | refine lo (lop_len_own (E rfl)) rfl ?_
  refine lo (lop_move (E rfl)) rfl ?_
  apply le; (repeat (first | (apply KeepIs.take; rfl) | (apply KeepIs.skip; rfl) | exact KeepIs.nil))
  (repeat (first | refine cs ?_ | refine cb ?_ | refine ck ?_ | refine cx ?_ | refine cr ?_ | refine an ?_ | refine ae ?_ | refine ar ?_ | refine bn ?_ | refine bh ?_ | refine be rfl ?_ | refine br ?_ | refine ct rfl ?_ | refine cf rfl ?_))
  have hbd := spans_bd (at_ := at_) (fr := fr)
  obtain ⟨S, hS⟩ : ∃ S, S = spans at_ fr := ⟨_, rfl⟩
  rw [← hS] at hbd ⊢
  refine lp (β := Nat) (fun j => ⟨[(0, .ptr s 0), (1, .int .i64 n), (4, .ptr r4 0), (5, .bool false), (9, .own l 0 S.length), (10, .int .i64 S.length), (11, .int .i64 j)], [(r4, .box 65 [.int .i64 0, .int .i64 0]), (l, .arr 65 2 (S.map encP)), (s, .box 83 [.int .i64 at_, .own q 0 fr.length]), (q, .arr 4 1 (fr.map encB))]⟩) (fun j => j ≤ S.length ∧ (S.take j).find? (fun p => decide (1 ≤ n) && decide (n ≤ p.2)) = none) (fun j => S.length - j) 0 ?_ ⟨Nat.zero_le _, rfl⟩ ?_
  · (refine sgo_st ?_ ?_ <;> (repeat (first | exact FrLe.nil | (apply FrLe.cons; rfl; first | exact VLe.refl _ | exact VLe.any | exact VLe.empty | exact VLe.of_eq (by simp) | exact VLe.of_eq (by congr 1; omega)) | exact StLe.nil | (apply StLe.cons; (repeat (first | exact List.mem_cons_self | apply List.mem_cons_of_mem)); first | rfl | focus (congr 1; done) | focus (simp; done) | (simp; rfl)))))
  rintro j ⟨hj, hno⟩
  (repeat (first | refine cs ?_ | refine cb ?_ | refine ck ?_ | refine cx ?_ | refine cr ?_ | refine an ?_ | refine ae ?_ | refine ar ?_ | refine bn ?_ | refine bh ?_ | refine be rfl ?_ | refine br ?_ | refine ct rfl ?_ | refine cf rfl ?_))
  first | refine sw_seq_region ?_ | refine sw_region ?_
  refine lo (lop_lss (E rfl) (E rfl)) rfl ?_
  apply le; (repeat (first | (apply KeepIs.take; rfl) | (apply KeepIs.skip; rfl) | exact KeepIs.nil))
  (repeat (first | refine cs ?_ | refine cb ?_ | refine ck ?_ | refine cx ?_ | refine cr ?_ | refine an ?_ | refine ae ?_ | refine ar ?_ | refine bn ?_ | refine bh ?_ | refine be rfl ?_ | refine br ?_ | refine ct rfl ?_ | refine cf rfl ?_))
  refine sw_cond rfl (fun h2 => ?_) (fun h2 => ?_)
  · have hlt : j < S.length := by simp at h2; omega
    obtain ⟨p, hp⟩ : ∃ p, S[j]? = some p := ⟨_, List.getElem?_eq_getElem hlt⟩
    have hpm := hbd.2 p (List.mem_of_getElem? hp)
    have hp2 : ((S.map encP)[(j : Int).toNat]?) = some (encP p) := by rw [Int.toNat_natCast, List.getElem?_map, hp]; rfl
    (repeat (first | refine cs ?_ | refine cb ?_ | refine ck ?_ | refine cx ?_ | refine cr ?_ | refine an ?_ | refine ae ?_ | refine ar ?_ | refine bn ?_ | refine bh ?_ | refine be rfl ?_ | refine br ?_ | refine ct rfl ?_ | refine cf rfl ?_))
    first | refine sw_seq_region ?_ | refine sw_region ?_
    first | refine lo (lop_index_ro (E rfl) (E rfl) (fun hc => by (simp only [List.length_map]; omega))) rfl ?_ | refine lo (lop_index_own0 (E rfl) (by repeat (first | exact sget_here | refine sget_next (by (first | assumption | (apply Nq.en; assumption) | omega | (simp only [Nq] at *; omega))) ?_)) (E rfl) (fun hc => by omega)) rfl ?_ | refine lo (lop_index_own (E rfl) (by repeat (first | exact sget_here | refine sget_next (by (first | assumption | (apply Nq.en; assumption) | omega | (simp only [Nq] at *; omega))) ?_)) (E rfl) (fun hc => by omega)) rfl ?_
    first | refine lo (lop_load_el_agg (E rfl) rfl (fun hc => by first | rfl | exact get_map (by assumption) | assumption | exact get_map (at_bang (by omega))) (fun _ => Nat.le_of_ble_eq_true rfl)) rfl ?_ | refine lo (lop_load_ow_agg (E rfl) rfl (by repeat (first | exact sget_here | refine sget_next (by (first | assumption | (apply Nq.en; assumption) | omega | (simp only [Nq] at *; omega))) ?_)) (fun hc => by first | rfl | exact get_map (by assumption) | assumption | exact get_map (at_bang (by omega))) (fun _ => Nat.le_of_ble_eq_true rfl)) rfl ?_
    apply al; rfl; (first | (simp only [Value.cells, AV.cells, List.map_cons, List.map_nil, ofConst, ofCell]; rfl) | rfl); intro r7 h7; simp only [fresh_cons, fresh_nil, and_true] at h7; (repeat (rcases h7 with ⟨_, h7⟩))
    apply stp; rfl; rfl; rfl; rfl; (repeat (first | (apply SPut.here; (repeat (first | exact Put.done | apply Put.put | apply Put.skip)); (repeat (first | exact Fresh.nil | (apply Fresh.cons; (first | assumption | (apply Nq.en; assumption) | omega | (simp only [Nq] at *; omega)))))) | (apply SPut.next; (first | assumption | (apply Nq.en; assumption) | omega | (simp only [Nq] at *; omega)))))
    apply le; (repeat (first | (apply KeepIs.take; rfl) | (apply KeepIs.skip; rfl) | exact KeepIs.nil))
    (repeat (first | refine cs ?_ | refine cb ?_ | refine ck ?_ | refine cx ?_ | refine cr ?_ | refine an ?_ | refine ae ?_ | refine ar ?_ | refine bn ?_ | refine bh ?_ | refine be rfl ?_ | refine br ?_ | refine ct rfl ?_ | refine cf rfl ?_))
    first | refine sw_seq_region ?_ | refine sw_region ?_
    refine lo (lop_move (E rfl)) rfl ?_
    refine lo (lop_geq (E rfl) (E rfl)) rfl ?_
    refine lo (lop_move (E rfl)) rfl ?_
    first | refine ln rfl rfl rfl rfl ?_ | refine lg rfl rfl (lop_field_ptr (E rfl) rfl (by decide)) rfl ?_
    first | refine ln rfl rfl rfl rfl ?_ | refine lg rfl rfl (lop_load_ptr (W rfl id) rfl (by repeat (first | exact sget_here | refine sget_next (by (first | assumption | (apply Nq.en; assumption) | omega | (simp only [Nq] at *; omega))) ?_)) (fun _ => rfl)) rfl ?_
    first | refine ln rfl rfl rfl rfl ?_ | refine lg rfl rfl (lop_move (E rfl)) rfl ?_
    first | refine ln rfl rfl rfl rfl ?_ | refine lg rfl rfl (lop_geq (W rfl id) (W rfl id)) rfl ?_
    first | refine lo (lop_pick_t (E rfl) (W rfl (by simp))) rfl ?_ | refine lo (lop_pick_f (E rfl) (E rfl)) rfl ?_ | refine lo (lop_pick (E rfl) (W rfl (by simp)) (E rfl)) rfl ?_
    apply le; (repeat (first | (apply KeepIs.take; rfl) | (apply KeepIs.skip; rfl) | exact KeepIs.nil))
    (repeat (first | refine cs ?_ | refine cb ?_ | refine ck ?_ | refine cx ?_ | refine cr ?_ | refine an ?_ | refine ae ?_ | refine ar ?_ | refine bn ?_ | refine bh ?_ | refine be rfl ?_ | refine br ?_ | refine ct rfl ?_ | refine cf rfl ?_))
    refine sw_cond rfl (fun h3 => ?_) (fun h3 => ?_)
    · have h4 : 1 ≤ n ∧ n ≤ p.2 := by simpa using h3
      have htk : takP at_ fr n = some p := by
        unfold takP
        rw [← hS, ← List.take_append_drop j S, List.find?_append, hno, ← List.getElem_cons_drop hlt]
        have : S[j] = p := by rw [List.getElem?_eq_getElem hlt] at hp; exact Option.some.inj hp
        rw [this]
        simp [h4.1, h4.2]
      (repeat (first | refine cs ?_ | refine cb ?_ | refine ck ?_ | refine cx ?_ | refine cr ?_ | refine an ?_ | refine ae ?_ | refine ar ?_ | refine bn ?_ | refine bh ?_ | refine be rfl ?_ | refine br ?_ | refine ct rfl ?_ | refine cf rfl ?_))
      first | refine sw_seq_region ?_ | refine sw_region ?_
      refine lo (lop_move (E rfl)) rfl ?_
      refine lo (lop_field_ptr (E rfl) rfl (by decide)) rfl ?_
      apply stp; rfl; rfl; rfl; rfl; (repeat (first | (apply SPut.here; (repeat (first | exact Put.done | apply Put.put | apply Put.skip)); (repeat (first | exact Fresh.nil | (apply Fresh.cons; (first | assumption | (apply Nq.en; assumption) | omega | (simp only [Nq] at *; omega)))))) | (apply SPut.next; (first | assumption | (apply Nq.en; assumption) | omega | (simp only [Nq] at *; omega)))))
      apply le; (repeat (first | (apply KeepIs.take; rfl) | (apply KeepIs.skip; rfl) | exact KeepIs.nil))
      (repeat (first | refine cs ?_ | refine cb ?_ | refine ck ?_ | refine cx ?_ | refine cr ?_ | refine an ?_ | refine ae ?_ | refine ar ?_ | refine bn ?_ | refine bh ?_ | refine be rfl ?_ | refine br ?_ | refine ct rfl ?_ | refine cf rfl ?_))
      first | refine sw_seq_drawn [(0, true), (1, true), (2, true), (3, false), (4, false), (5, true)] mixed (by kernel_rfl) (by kernel_rfl) ?_ | refine sw_region_drawn [(0, true), (1, true), (2, true), (3, false), (4, false), (5, true)] mixed (by kernel_rfl) (by kernel_rfl) ?_
      refine dlo rfl (lop_load_ptr_agg (E rfl) rfl (by repeat (first | exact sget_here | refine sget_next (by (first | assumption | (apply Nq.en; assumption) | omega | (simp only [Nq] at *; omega))) ?_)) (fun _ => Nat.le_of_ble_eq_true rfl)) rfl ?_
      refine dlo rfl (lop_move (E rfl)) rfl ?_
      refine dlo rfl (lop_load_ptr_agg (E rfl) rfl (by repeat (first | exact sget_here | refine sget_next (by (first | assumption | (apply Nq.en; assumption) | omega | (simp only [Nq] at *; omega))) ?_)) (fun _ => Nat.le_of_ble_eq_true rfl)) rfl ?_
      refine dcw [(s, .box 83 [.int .i64 at_, .own q 0 fr.length]), (q, .arr 4 1 (fr.map encB))] rfl Try.call26 (extent_Use h1 at_ fr h0 hf p.1 n (by omega) (by omega)) rfl ?_ ?_ ?_ ?_
      · (repeat (first | exact ArgsLe.nil | (apply ArgsLe.cons; rfl; first | exact VLe.refl _ | exact VLe.when rfl | exact VLe.any | exact VLe.empty | exact VLe.of_eq (by simp))))
      · (first | exact no_mem | (apply StLe.mem; (repeat (first | exact StLe.nil | (apply StLe.cons; (repeat (first | exact List.mem_cons_self | apply List.mem_cons_of_mem)); first | rfl | focus (congr 1; done) | focus (simp; done) | (simp; rfl))))))
      · (repeat (first | exact HB.nil | apply HB.none | (apply HB.ok; focus (simp only [List.mem_cons, List.not_mem_nil, or_false, List.map_cons, List.map_nil, forall_eq_or_imp, forall_eq, true_or, or_true, true_and, not_or]; (repeat' (first | apply And.intro | (first | assumption | (apply Nq.en; assumption) | omega | (simp only [Nq] at *; omega)))); done)) | (apply HB.waits; kernel_rfl)))
      rintro x σ' ⟨rfl, rfl⟩ -
      (apply rd_sto; (first | (simp (disch := (first | (simp only [List.mem_cons, List.not_mem_nil, true_or, or_true, or_false]; done) | (focus (simp only [List.mem_cons, List.not_mem_nil, or_false, not_or]; (repeat' (first | apply And.intro | (first | assumption | (apply Nq.en; assumption) | omega | (simp only [Nq] at *; omega)))); done)) | omega)) only [↓put_σ, ↓mk_σ, AV.cells, sset, sdrop_none, sdrop_nil, sdrop_in, sdrop_out, List.nil_append, List.cons_append, List.append_nil, List.map_nil, List.map_cons, List.take_succ_cons, List.take_zero, List.drop_succ_cons, List.drop_zero, take_len', take_map_len, Nat.zero_add, Nat.add_zero, ofCell, ofConst]; rfl) | rfl))
      apply dstp; rfl; infer_instance; rfl; rfl; rfl; rfl; (repeat (first | (apply SPut.here; (repeat (first | exact Put.done | apply Put.put | apply Put.skip)); (repeat (first | exact Fresh.nil | (apply Fresh.cons; (first | assumption | (apply Nq.en; assumption) | omega | (simp only [Nq] at *; omega)))))) | (apply SPut.next; (first | assumption | (apply Nq.en; assumption) | omega | (simp only [Nq] at *; omega))))); (repeat (first | exact HB.nil | apply HB.none | (apply HB.ok; focus (simp only [List.mem_cons, List.not_mem_nil, or_false, List.map_cons, List.map_nil, forall_eq_or_imp, forall_eq, true_or, or_true, true_and, not_or]; (repeat' (first | apply And.intro | (first | assumption | (apply Nq.en; assumption) | omega | (simp only [Nq] at *; omega)))); done)) | (apply HB.waits; kernel_rfl)))
      refine dlo rfl (lop_assign (E rfl)) rfl ?_
      apply de; (repeat (first | (apply KeepIs.take; rfl) | (apply KeepIs.skip; rfl) | exact KeepIs.nil))
      (repeat (first | refine cs ?_ | refine cb ?_ | refine ck ?_ | refine cx ?_ | refine cr ?_ | refine an ?_ | refine ae ?_ | refine ar ?_ | refine bn ?_ | refine bh ?_ | refine be rfl ?_ | refine br ?_ | refine ct rfl ?_ | refine cf rfl ?_))
      (apply aend; (repeat (first | exact ResL.nil | (apply ResL.tmp; rfl) | (apply ResL.cell; rfl; infer_instance; rfl; (repeat (first | exact sget_here | (apply sget_next; (first | assumption | (apply Nq.en; assumption) | omega | (simp only [Nq] at *; omega))))); rfl) | (apply ResL.cells; rfl; infer_instance; infer_instance; rfl; (repeat (first | exact sget_here | (apply sget_next; (first | assumption | (apply Nq.en; assumption) | omega | (simp only [Nq] at *; omega))))); exact Nat.le_of_ble_eq_true rfl))))
      · refine ⟨?_, rfl⟩
        simp [takV, htk, resAV]
      · rw [takF_len]
        simp only [takF, htk]
        rw [setF_len]
        (first | exact no_mem | (apply StLe.mem; (repeat (first | exact StLe.nil | (apply StLe.cons; (repeat (first | exact List.mem_cons_self | apply List.mem_cons_of_mem)); first | rfl | focus (congr 1; done) | focus (simp; done) | (simp; rfl))))))
    · (repeat (first | refine cs ?_ | refine cb ?_ | refine ck ?_ | refine cx ?_ | refine cr ?_ | refine an ?_ | refine ae ?_ | refine ar ?_ | refine bn ?_ | refine bh ?_ | refine be rfl ?_ | refine br ?_ | refine ct rfl ?_ | refine cf rfl ?_))
      first | refine sw_seq_region ?_ | refine sw_region ?_
      first | refine lo (lop_add64 (E rfl) (E rfl) (by omega) (by omega)) rfl ?_ | refine lo (lop_add (E rfl) (E rfl)) rfl ?_
      refine lo (lop_move (E rfl)) rfl ?_
      apply le; (repeat (first | (apply KeepIs.take; rfl) | (apply KeepIs.skip; rfl) | exact KeepIs.nil))
      (repeat (first | refine cs ?_ | refine cb ?_ | refine ck ?_ | refine cx ?_ | refine cr ?_ | refine an ?_ | refine ae ?_ | refine ar ?_ | refine bn ?_ | refine bh ?_ | refine be rfl ?_ | refine br ?_ | refine ct rfl ?_ | refine cf rfl ?_))
      refine ⟨j + 1, ⟨hlt, ?_⟩, by show S.length - (j + 1) < S.length - j; omega, ?_⟩
      · rw [List.take_add_one, hp, List.find?_append, hno]
        have h4 : (decide (1 ≤ n) && decide (n ≤ p.2)) = false := by
          have h5 : ¬ (1 ≤ n ∧ n ≤ p.2) := by
            intro h6
            simp [h6.1, h6.2] at h3
          simp only [Bool.and_eq_false_iff, decide_eq_false_iff_not]
          omega
        simp only [Option.toList, List.find?, h4, Option.none_or]
      · (refine sgo_st ?_ ?_ <;> (repeat (first | exact FrLe.nil | (apply FrLe.cons; rfl; first | exact VLe.refl _ | exact VLe.any | exact VLe.empty | exact VLe.of_eq (by simp) | exact VLe.of_eq (by congr 1; omega)) | exact StLe.nil | (apply StLe.cons; (repeat (first | exact List.mem_cons_self | apply List.mem_cons_of_mem)); first | rfl | focus (congr 1; done) | focus (simp; done) | (simp; rfl)))))
  obtain rfl : j = S.length := by simp at h2; omega
  rw [List.take_length] at hno
  have htk : takP at_ fr n = none := by unfold takP; rw [← hS]; exact hno
  (repeat (first | refine cs ?_ | refine cb ?_ | refine ck ?_ | refine cx ?_ | refine cr ?_ | refine an ?_ | refine ae ?_ | refine ar ?_ | refine bn ?_ | refine bh ?_ | refine be rfl ?_ | refine br ?_ | refine ct rfl ?_ | refine cf rfl ?_))
  first | refine sw_seq_region ?_ | refine sw_region ?_
  refine lo (lop_str (by repeat (first | exact PEvs.nil | (apply PEvs.cons; first | exact W rfl id | exact E rfl))) (by (first | (simp only [Value.cells, AV.cells, List.map_cons, List.map_nil, ofConst, ofCell]; rfl) | rfl)) (by repeat (first | exact Fill.nil | (apply Fill.cons; rfl; rfl; rfl; (repeat (first | exact Put.done | apply Put.put | apply Put.skip)))))) rfl ?_
  apply stp; rfl; rfl; rfl; rfl; (repeat (first | (apply SPut.here; (repeat (first | exact Put.done | apply Put.put | apply Put.skip)); (repeat (first | exact Fresh.nil | (apply Fresh.cons; (first | assumption | (apply Nq.en; assumption) | omega | (simp only [Nq] at *; omega)))))) | (apply SPut.next; (first | assumption | (apply Nq.en; assumption) | omega | (simp only [Nq] at *; omega)))))
  refine lo (lop_assign (E rfl)) rfl ?_
  apply le; (repeat (first | (apply KeepIs.take; rfl) | (apply KeepIs.skip; rfl) | exact KeepIs.nil))
  (repeat (first | refine cs ?_ | refine cb ?_ | refine ck ?_ | refine cx ?_ | refine cr ?_ | refine an ?_ | refine ae ?_ | refine ar ?_ | refine bn ?_ | refine bh ?_ | refine be rfl ?_ | refine br ?_ | refine ct rfl ?_ | refine cf rfl ?_))
  (apply aend; (repeat (first | exact ResL.nil | (apply ResL.tmp; rfl) | (apply ResL.cell; rfl; infer_instance; rfl; (repeat (first | exact sget_here | (apply sget_next; (first | assumption | (apply Nq.en; assumption) | omega | (simp only [Nq] at *; omega))))); rfl) | (apply ResL.cells; rfl; infer_instance; infer_instance; rfl; (repeat (first | exact sget_here | (apply sget_next; (first | assumption | (apply Nq.en; assumption) | omega | (simp only [Nq] at *; omega))))); exact Nat.le_of_ble_eq_true rfl))))
  · refine ⟨?_, rfl⟩
    simp [takV, htk, resAV, ofConst]
  · simp only [takF, htk]
    (first | exact no_mem | (apply StLe.mem; (repeat (first | exact StLe.nil | (apply StLe.cons; (repeat (first | exact List.mem_cons_self | apply List.mem_cons_of_mem)); first | rfl | focus (congr 1; done) | focus (simp; done) | (simp; rfl))))))
set_option maxRecDepth 100000 in
theorem extent_copy (h1 : Nq q s) (at_ : Int) (fr : List Bool) (h0 : 0 ≤ at_) (h0' : at_ ≤ 1000000) (hf : fr.length ≤ 100000) : SCall Try.prog 31 [.ptr s 0] [(s, .box 83 [.int .i64 at_, .own q 0 fr.length]), (q, .arr 4 1 (fr.map encB))]
    (fun x σ => ∃ c d, (Nq c s ∧ Nq c q ∧ Nq d s ∧ Nq d q ∧ Nq d c) ∧ x = .ptr c 0 ∧ σ = [(c, .box 83 [.int .i64 at_, .own d 0 fr.length]), (d, .arr 4 1 (fr.map encB)), (s, .box 83 [.int .i64 at_, .own q 0 fr.length]), (q, .arr 4 1 (fr.map encB))]) := by
  refine scall_of (n := 16) (ks := [0, 2, 4]) Try.func31 rfl rfl (Nat.le_of_ble_eq_true rfl) ?_
  (repeat (first | refine cs ?_ | refine cb ?_ | refine ck ?_ | refine cx ?_ | refine cr ?_ | refine an ?_ | refine ae ?_ | refine ar ?_ | refine bn ?_ | refine bh ?_ | refine be rfl ?_ | refine br ?_ | refine ct rfl ?_ | refine cf rfl ?_))
  first | refine sw_seq_region ?_ | refine sw_region ?_
  refine lo (lop_assign (E rfl)) rfl ?_
  apply le; (repeat (first | (apply KeepIs.take; rfl) | (apply KeepIs.skip; rfl) | exact KeepIs.nil))
  (repeat (first | refine cs ?_ | refine cb ?_ | refine ck ?_ | refine cx ?_ | refine cr ?_ | refine an ?_ | refine ae ?_ | refine ar ?_ | refine bn ?_ | refine bh ?_ | refine be rfl ?_ | refine br ?_ | refine ct rfl ?_ | refine cf rfl ?_))
  first | refine sw_seq_region ?_ | refine sw_region ?_
  refine lo (lop_move (E rfl)) rfl ?_
  first | refine lo (lop_peql (E rfl) (E rfl) (.inl ⟨rfl, rfl⟩)) rfl ?_ | refine lo (lop_peql (E rfl) (E rfl) (.inr (.inl ⟨⟨_, _, rfl⟩, rfl⟩))) rfl ?_ | refine lo (lop_peql (E rfl) (E rfl) (.inr (.inr ⟨⟨_, _, _, rfl⟩, rfl⟩))) rfl ?_
  apply le; (repeat (first | (apply KeepIs.take; rfl) | (apply KeepIs.skip; rfl) | exact KeepIs.nil))
  (repeat (first | refine cs ?_ | refine cb ?_ | refine ck ?_ | refine cx ?_ | refine cr ?_ | refine an ?_ | refine ae ?_ | refine ar ?_ | refine bn ?_ | refine bh ?_ | refine be rfl ?_ | refine br ?_ | refine ct rfl ?_ | refine cf rfl ?_))
  first | refine sw_seq_drawn [(0, true), (1, true), (2, true), (3, true), (4, true), (5, true), (6, true), (7, true), (8, false), (9, true), (10, false), (11, true)] mixed (by kernel_rfl) (by kernel_rfl) ?_ | refine sw_region_drawn [(0, true), (1, true), (2, true), (3, true), (4, true), (5, true), (6, true), (7, true), (8, false), (9, true), (10, false), (11, true)] mixed (by kernel_rfl) (by kernel_rfl) ?_
  refine dlo rfl (lop_move (E rfl)) rfl ?_
  refine dlo rfl (lop_nilCheck (E rfl) (.inl ⟨_, _, rfl⟩)) rfl ?_
  refine dlo rfl (lop_field_ptr (E rfl) rfl (by decide)) rfl ?_
  refine dlo rfl (lop_load_ptr (E rfl) rfl (by repeat (first | exact sget_here | refine sget_next (by (first | assumption | (apply Nq.en; assumption) | omega | (simp only [Nq] at *; omega))) ?_)) (fun _ => rfl)) rfl ?_
  refine dlo rfl (lop_move (E rfl)) rfl ?_
  refine dlo rfl (lop_nilCheck (E rfl) (.inl ⟨_, _, rfl⟩)) rfl ?_
  refine dlo rfl (lop_field_ptr (E rfl) rfl (by decide)) rfl ?_
  refine dlo rfl (lop_load_ptr (E rfl) rfl (by repeat (first | exact sget_here | refine sget_next (by (first | assumption | (apply Nq.en; assumption) | omega | (simp only [Nq] at *; omega))) ?_)) (fun _ => rfl)) rfl ?_
  refine dcl [q] rfl Try.call37 (lib_clone_bool (es := fr.map encB) (by simp; omega)) rfl ?_ ?_ ?_
  · (repeat (first | exact ArgsBor.nil | (apply ArgsBor.cons; rfl; (first | exact Bor.refl _ | exact Bor.le VLe.any | exact Bor.le VLe.empty | (apply bown; (repeat (first | exact List.mem_cons_self | apply List.mem_cons_of_mem)); (repeat (first | exact sget_here | (apply sget_next; (first | assumption | (apply Nq.en; assumption) | omega | (simp only [Nq] at *; omega))))); (first | focus (simp; done) | omega | focus (simp; omega)); (first | rfl | focus (simp; done) | focus (exact List.take_of_length_le (by first | (simp; done) | (simp; omega))))) | focus (apply bagg; (repeat (first | exact BorL.nil | (apply BorL.cons; (first | exact Bor.refl _ | exact Bor.le VLe.any | exact Bor.le VLe.empty | (apply bown; (repeat (first | exact List.mem_cons_self | apply List.mem_cons_of_mem)); (repeat (first | exact sget_here | (apply sget_next; (first | assumption | (apply Nq.en; assumption) | omega | (simp only [Nq] at *; omega))))); (first | focus (simp; done) | omega); (first | rfl | focus (simp; done) | focus (exact List.take_of_length_le (by first | (simp; done) | (simp; omega))))) | focus (apply Bor.le; apply VLe.of_eq; simp; done))))); done) | focus (apply Bor.le; apply VLe.of_eq; simp; done)))))
  · rintro x σ' ⟨r, rfl, rfl⟩
    refine ⟨NoF.own, ?_⟩
    simp only [List.mem_singleton, forall_eq]
    exact bools_noF
  rintro x σ' ⟨d, rfl, rfl⟩ hd
  simp only [List.mem_cons, List.mem_singleton, List.not_mem_nil, or_false, forall_eq_or_imp, forall_eq, fresh_cons, fresh_nil, and_true, and_assoc] at hd; (repeat (rcases hd with ⟨_, hd⟩))
  rw [List.length_map]
  (apply rd_sto; (first | (simp (disch := (first | (simp only [List.mem_cons, List.not_mem_nil, true_or, or_true, or_false]; done) | (focus (simp only [List.mem_cons, List.not_mem_nil, or_false, not_or]; (repeat' (first | apply And.intro | (first | assumption | (apply Nq.en; assumption) | omega | (simp only [Nq] at *; omega)))); done)) | omega)) only [↓put_σ, ↓mk_σ, AV.cells, sset, sdrop_none, sdrop_nil, sdrop_in, sdrop_out, List.nil_append, List.cons_append, List.append_nil, List.map_nil, List.map_cons, List.take_succ_cons, List.take_zero, List.drop_succ_cons, List.drop_zero, take_len', take_map_len, Nat.zero_add, Nat.add_zero, ofCell, ofConst]; rfl) | rfl))
  refine dlo rfl (lop_str (by repeat (first | exact PEvs.nil | (apply PEvs.cons; first | exact W rfl id | exact E rfl))) (by (first | (simp only [Value.cells, AV.cells, List.map_cons, List.map_nil, ofConst, ofCell]; rfl) | rfl)) (by repeat (first | exact Fill.nil | (apply Fill.cons; rfl; rfl; rfl; (repeat (first | exact Put.done | apply Put.put | apply Put.skip)))))) rfl ?_
  apply dbx; rfl; rfl; rfl; (first | (simp only [Value.cells, AV.cells, List.map_cons, List.map_nil, ofConst, ofCell]; rfl) | rfl); rfl; intro r15 h15; simp only [fresh_cons, fresh_nil, and_true] at h15; (repeat (rcases h15 with ⟨_, h15⟩))
  refine dlo rfl (lop_assign (E rfl)) rfl ?_
  apply de; (repeat (first | (apply KeepIs.take; rfl) | (apply KeepIs.skip; rfl) | exact KeepIs.nil))
  (repeat (first | refine cs ?_ | refine cb ?_ | refine ck ?_ | refine cx ?_ | refine cr ?_ | refine an ?_ | refine ae ?_ | refine ar ?_ | refine bn ?_ | refine bh ?_ | refine be rfl ?_ | refine br ?_ | refine ct rfl ?_ | refine cf rfl ?_))
  (apply aend; (repeat (first | exact ResL.nil | (apply ResL.tmp; rfl) | (apply ResL.cell; rfl; infer_instance; rfl; (repeat (first | exact sget_here | (apply sget_next; (first | assumption | (apply Nq.en; assumption) | omega | (simp only [Nq] at *; omega))))); rfl) | (apply ResL.cells; rfl; infer_instance; infer_instance; rfl; (repeat (first | exact sget_here | (apply sget_next; (first | assumption | (apply Nq.en; assumption) | omega | (simp only [Nq] at *; omega))))); exact Nat.le_of_ble_eq_true rfl))))
  · exact ⟨r15, d, ⟨by (first | assumption | (apply Nq.en; assumption) | omega | (simp only [Nq] at *; omega)), by (first | assumption | (apply Nq.en; assumption) | omega | (simp only [Nq] at *; omega)), by (first | assumption | (apply Nq.en; assumption) | omega | (simp only [Nq] at *; omega)), by (first | assumption | (apply Nq.en; assumption) | omega | (simp only [Nq] at *; omega)), by (first | assumption | (apply Nq.en; assumption) | omega | (simp only [Nq] at *; omega))⟩, rfl, rfl⟩
  · (first | exact no_mem | (apply StLe.mem; (repeat (first | exact StLe.nil | (apply StLe.cons; (repeat (first | exact List.mem_cons_self | apply List.mem_cons_of_mem)); first | rfl | focus (congr 1; done) | focus (simp; done) | (simp; rfl))))))
set_option maxRecDepth 100000 in
theorem nil_free : SCall Try.prog 30 [.nilp] [] (fun x σ => x = .int .i64 0 ∧ σ = []) := by
  refine scall_of (n := 19) (ks := [0, 2, 3, 5, 7, 8, 9, 10]) Try.func30 rfl rfl (Nat.le_of_ble_eq_true rfl) ?_
  (repeat (first | refine cs ?_ | refine cb ?_ | refine ck ?_ | refine cx ?_ | refine cr ?_ | refine an ?_ | refine ae ?_ | refine ar ?_ | refine bn ?_ | refine bh ?_ | refine be rfl ?_ | refine br ?_ | refine ct rfl ?_ | refine cf rfl ?_))
  first | refine sw_seq_region ?_ | refine sw_region ?_
  refine lo (lop_assign (E rfl)) rfl ?_
  apply le; (repeat (first | (apply KeepIs.take; rfl) | (apply KeepIs.skip; rfl) | exact KeepIs.nil))
  (repeat (first | refine cs ?_ | refine cb ?_ | refine ck ?_ | refine cx ?_ | refine cr ?_ | refine an ?_ | refine ae ?_ | refine ar ?_ | refine bn ?_ | refine bh ?_ | refine be rfl ?_ | refine br ?_ | refine ct rfl ?_ | refine cf rfl ?_))
  first | refine sw_seq_region ?_ | refine sw_region ?_
  refine lo (lop_assign (E rfl)) rfl ?_
  apply le; (repeat (first | (apply KeepIs.take; rfl) | (apply KeepIs.skip; rfl) | exact KeepIs.nil))
  (repeat (first | refine cs ?_ | refine cb ?_ | refine ck ?_ | refine cx ?_ | refine cr ?_ | refine an ?_ | refine ae ?_ | refine ar ?_ | refine bn ?_ | refine bh ?_ | refine be rfl ?_ | refine br ?_ | refine ct rfl ?_ | refine cf rfl ?_))
  first | refine sw_seq_region ?_ | refine sw_region ?_
  refine lo (lop_move (E rfl)) rfl ?_
  (first | refine pu [] Try.call29 nil_spans rfl (by repeat (first | exact ArgsIf.nil | refine ArgsIf.cons (by first | exact Ev.when rfl (by first | exact id | simp) | exact Ev.here rfl) (by first | exact Bor.refl _ | exact Bor.le VLe.any | exact Bor.le VLe.empty | exact Bor.own (by simp) (by repeat (first | exact sget_here | refine sget_next (by (first | assumption | (apply Nq.en; assumption) | omega | (simp only [Nq] at *; omega))) ?_)) (by simp) | exact Bor.le (VLe.of_eq (by simp))) ?_)) (by repeat (first | exact NoF.int | exact NoF.bool | exact NoF.nilp | exact NoF.nil | exact NoF.own | exact NoF.ptr | exact NoF.str | exact nofl_nil | apply NoF.tup | apply NoF.agg | apply nofl_cons)) ?_ | refine pug [] rfl rfl Try.call29 (fun _ => nil_spans) rfl (by repeat (first | exact ArgsIf.nil | refine ArgsIf.cons (by first | exact Ev.when rfl (by first | exact id | simp) | exact Ev.here rfl) (by first | exact Bor.refl _ | exact Bor.le VLe.any | exact Bor.le VLe.empty | exact Bor.own (by simp) (by repeat (first | exact sget_here | refine sget_next (by (first | assumption | (apply Nq.en; assumption) | omega | (simp only [Nq] at *; omega))) ?_)) (by simp) | exact Bor.le (VLe.of_eq (by simp))) ?_)) (by repeat (first | exact NoF.int | exact NoF.bool | exact NoF.nilp | exact NoF.nil | exact NoF.own | exact NoF.ptr | exact NoF.str | exact nofl_nil | apply NoF.tup | apply NoF.agg | apply nofl_cons)) ?_)
  first | refine lo (lop_len_map (E rfl)) rfl ?_ | refine lo (lop_len_ro (E rfl)) rfl ?_ | refine lo (lop_len_own (E rfl)) rfl ?_
  refine lo (lop_move (E rfl)) rfl ?_
  apply le; (repeat (first | (apply KeepIs.take; rfl) | (apply KeepIs.skip; rfl) | exact KeepIs.nil))
  (repeat (first | refine cs ?_ | refine cb ?_ | refine ck ?_ | refine cx ?_ | refine cr ?_ | refine an ?_ | refine ae ?_ | refine ar ?_ | refine bn ?_ | refine bh ?_ | refine be rfl ?_ | refine br ?_ | refine ct rfl ?_ | refine cf rfl ?_))
  refine lp (β := Unit) (fun _ => ⟨[(3, .int .i64 0), (7, .ro 0 [] .nil), (8, .int .i64 0), (9, .int .i64 0)], []⟩) (fun _ => True) (fun _ => 0) () ?_ trivial ?_
  · (refine sgo_st ?_ ?_ <;> (repeat (first | exact FrLe.nil | (apply FrLe.cons; rfl; first | exact VLe.refl _ | exact VLe.any | exact VLe.empty | exact VLe.of_eq (by simp) | exact VLe.of_eq (by congr 1; omega)) | exact StLe.nil | (apply StLe.cons; (repeat (first | exact List.mem_cons_self | apply List.mem_cons_of_mem)); first | rfl | focus (congr 1; done) | focus (simp; done) | (simp; rfl)))))
  rintro _ _
  (repeat (first | refine cs ?_ | refine cb ?_ | refine ck ?_ | refine cx ?_ | refine cr ?_ | refine an ?_ | refine ae ?_ | refine ar ?_ | refine bn ?_ | refine bh ?_ | refine be rfl ?_ | refine br ?_ | refine ct rfl ?_ | refine cf rfl ?_))
  first | refine sw_seq_region ?_ | refine sw_region ?_
  refine lo (lop_lss (E rfl) (E rfl)) rfl ?_
  apply le; (repeat (first | (apply KeepIs.take; rfl) | (apply KeepIs.skip; rfl) | exact KeepIs.nil))
  (repeat (first | refine cs ?_ | refine cb ?_ | refine ck ?_ | refine cx ?_ | refine cr ?_ | refine an ?_ | refine ae ?_ | refine ar ?_ | refine bn ?_ | refine bh ?_ | refine be rfl ?_ | refine br ?_ | refine ct rfl ?_ | refine cf rfl ?_))
  first | refine sw_seq_region ?_ | refine sw_region ?_
  refine lo (lop_move (E rfl)) rfl ?_
  refine lo (lop_assign (E rfl)) rfl ?_
  apply le; (repeat (first | (apply KeepIs.take; rfl) | (apply KeepIs.skip; rfl) | exact KeepIs.nil))
  (repeat (first | refine cs ?_ | refine cb ?_ | refine ck ?_ | refine cx ?_ | refine cr ?_ | refine an ?_ | refine ae ?_ | refine ar ?_ | refine bn ?_ | refine bh ?_ | refine be rfl ?_ | refine br ?_ | refine ct rfl ?_ | refine cf rfl ?_))
  (apply aend; (repeat (first | exact ResL.nil | (apply ResL.tmp; rfl) | (apply ResL.cell; rfl; infer_instance; rfl; (repeat (first | exact sget_here | (apply sget_next; (first | assumption | (apply Nq.en; assumption) | omega | (simp only [Nq] at *; omega))))); rfl) | (apply ResL.cells; rfl; infer_instance; infer_instance; rfl; (repeat (first | exact sget_here | (apply sget_next; (first | assumption | (apply Nq.en; assumption) | omega | (simp only [Nq] at *; omega))))); exact Nat.le_of_ble_eq_true rfl))))
  · exact ⟨rfl, rfl⟩
  · (first | exact no_mem | (apply StLe.mem; (repeat (first | exact StLe.nil | (apply StLe.cons; (repeat (first | exact List.mem_cons_self | apply List.mem_cons_of_mem)); first | rfl | focus (congr 1; done) | focus (simp; done) | (simp; rfl))))))
set_option maxRecDepth 100000 in
theorem nil_take (n : Int) : SCall Try.prog 25 [.nilp, .int .i64 n] [] (fun x σ => x = .tup [.agg [.int .i64 0, .int .i64 0], .bool false] ∧ σ = []) := by
  refine scall_of (n := 31) (ks := [0, 1, 4, 5, 7, 9, 10, 11, 12, 22]) Try.func25 rfl rfl (Nat.le_of_ble_eq_true rfl) ?_
  (repeat (first | refine cs ?_ | refine cb ?_ | refine ck ?_ | refine cx ?_ | refine cr ?_ | refine an ?_ | refine ae ?_ | refine ar ?_ | refine bn ?_ | refine bh ?_ | refine be rfl ?_ | refine br ?_ | refine ct rfl ?_ | refine cf rfl ?_))
  first | refine sw_seq_region ?_ | refine sw_region ?_
  apply al; rfl; (first | (simp only [Value.cells, AV.cells, List.map_cons, List.map_nil, ofConst, ofCell]; rfl) | rfl); intro r4 h4; simp only [fresh_cons, fresh_nil, and_true] at h4; (repeat (rcases h4 with ⟨_, h4⟩))
  refine lo (lop_assign (E rfl)) rfl ?_
  apply le; (repeat (first | (apply KeepIs.take; rfl) | (apply KeepIs.skip; rfl) | exact KeepIs.nil))
  (repeat (first | refine cs ?_ | refine cb ?_ | refine ck ?_ | refine cx ?_ | refine cr ?_ | refine an ?_ | refine ae ?_ | refine ar ?_ | refine bn ?_ | refine bh ?_ | refine be rfl ?_ | refine br ?_ | refine ct rfl ?_ | refine cf rfl ?_))
  first | refine sw_seq_region ?_ | refine sw_region ?_
  refine lo (lop_move (E rfl)) rfl ?_
  (first | refine pu [] Try.call29 nil_spans rfl (by repeat (first | exact ArgsIf.nil | refine ArgsIf.cons (by first | exact Ev.when rfl (by first | exact id | simp) | exact Ev.here rfl) (by first | exact Bor.refl _ | exact Bor.le VLe.any | exact Bor.le VLe.empty | exact Bor.own (by simp) (by repeat (first | exact sget_here | refine sget_next (by (first | assumption | (apply Nq.en; assumption) | omega | (simp only [Nq] at *; omega))) ?_)) (by simp) | exact Bor.le (VLe.of_eq (by simp))) ?_)) (by repeat (first | exact NoF.int | exact NoF.bool | exact NoF.nilp | exact NoF.nil | exact NoF.own | exact NoF.ptr | exact NoF.str | exact nofl_nil | apply NoF.tup | apply NoF.agg | apply nofl_cons)) ?_ | refine pug [] rfl rfl Try.call29 (fun _ => nil_spans) rfl (by repeat (first | exact ArgsIf.nil | refine ArgsIf.cons (by first | exact Ev.when rfl (by first | exact id | simp) | exact Ev.here rfl) (by first | exact Bor.refl _ | exact Bor.le VLe.any | exact Bor.le VLe.empty | exact Bor.own (by simp) (by repeat (first | exact sget_here | refine sget_next (by (first | assumption | (apply Nq.en; assumption) | omega | (simp only [Nq] at *; omega))) ?_)) (by simp) | exact Bor.le (VLe.of_eq (by simp))) ?_)) (by repeat (first | exact NoF.int | exact NoF.bool | exact NoF.nilp | exact NoF.nil | exact NoF.own | exact NoF.ptr | exact NoF.str | exact nofl_nil | apply NoF.tup | apply NoF.agg | apply nofl_cons)) ?_)
  first | refine lo (lop_len_map (E rfl)) rfl ?_ | refine lo (lop_len_ro (E rfl)) rfl ?_ | refine lo (lop_len_own (E rfl)) rfl ?_
  refine lo (lop_move (E rfl)) rfl ?_
  apply le; (repeat (first | (apply KeepIs.take; rfl) | (apply KeepIs.skip; rfl) | exact KeepIs.nil))
  (repeat (first | refine cs ?_ | refine cb ?_ | refine ck ?_ | refine cx ?_ | refine cr ?_ | refine an ?_ | refine ae ?_ | refine ar ?_ | refine bn ?_ | refine bh ?_ | refine be rfl ?_ | refine br ?_ | refine ct rfl ?_ | refine cf rfl ?_))
  refine lp (β := Unit) (fun _ => ⟨[(1, .int .i64 n), (4, .ptr r4 0), (9, .ro 0 [] .nil), (10, .int .i64 0), (11, .int .i64 0)], [(r4, .box 65 [.int .i64 0, .int .i64 0])]⟩) (fun _ => True) (fun _ => 0) () ?_ trivial ?_
  · (refine sgo_st ?_ ?_ <;> (repeat (first | exact FrLe.nil | (apply FrLe.cons; rfl; first | exact VLe.refl _ | exact VLe.any | exact VLe.empty | exact VLe.of_eq (by simp) | exact VLe.of_eq (by congr 1; omega)) | exact StLe.nil | (apply StLe.cons; (repeat (first | exact List.mem_cons_self | apply List.mem_cons_of_mem)); first | rfl | focus (congr 1; done) | focus (simp; done) | (simp; rfl)))))
  rintro _ _
  (repeat (first | refine cs ?_ | refine cb ?_ | refine ck ?_ | refine cx ?_ | refine cr ?_ | refine an ?_ | refine ae ?_ | refine ar ?_ | refine bn ?_ | refine bh ?_ | refine be rfl ?_ | refine br ?_ | refine ct rfl ?_ | refine cf rfl ?_))
  first | refine sw_seq_region ?_ | refine sw_region ?_
  refine lo (lop_lss (E rfl) (E rfl)) rfl ?_
  apply le; (repeat (first | (apply KeepIs.take; rfl) | (apply KeepIs.skip; rfl) | exact KeepIs.nil))
  (repeat (first | refine cs ?_ | refine cb ?_ | refine ck ?_ | refine cx ?_ | refine cr ?_ | refine an ?_ | refine ae ?_ | refine ar ?_ | refine bn ?_ | refine bh ?_ | refine be rfl ?_ | refine br ?_ | refine ct rfl ?_ | refine cf rfl ?_))
  first | refine sw_seq_region ?_ | refine sw_region ?_
  refine lo (lop_str (by repeat (first | exact PEvs.nil | (apply PEvs.cons; first | exact W rfl id | exact E rfl))) (by (first | (simp only [Value.cells, AV.cells, List.map_cons, List.map_nil, ofConst, ofCell]; rfl) | rfl)) (by repeat (first | exact Fill.nil | (apply Fill.cons; rfl; rfl; rfl; (repeat (first | exact Put.done | apply Put.put | apply Put.skip)))))) rfl ?_
  apply stp; rfl; rfl; rfl; rfl; (repeat (first | (apply SPut.here; (repeat (first | exact Put.done | apply Put.put | apply Put.skip)); (repeat (first | exact Fresh.nil | (apply Fresh.cons; (first | assumption | (apply Nq.en; assumption) | omega | (simp only [Nq] at *; omega)))))) | (apply SPut.next; (first | assumption | (apply Nq.en; assumption) | omega | (simp only [Nq] at *; omega)))))
  refine lo (lop_assign (E rfl)) rfl ?_
  apply le; (repeat (first | (apply KeepIs.take; rfl) | (apply KeepIs.skip; rfl) | exact KeepIs.nil))
  (repeat (first | refine cs ?_ | refine cb ?_ | refine ck ?_ | refine cx ?_ | refine cr ?_ | refine an ?_ | refine ae ?_ | refine ar ?_ | refine bn ?_ | refine bh ?_ | refine be rfl ?_ | refine br ?_ | refine ct rfl ?_ | refine cf rfl ?_))
  (apply aend; (repeat (first | exact ResL.nil | (apply ResL.tmp; rfl) | (apply ResL.cell; rfl; infer_instance; rfl; (repeat (first | exact sget_here | (apply sget_next; (first | assumption | (apply Nq.en; assumption) | omega | (simp only [Nq] at *; omega))))); rfl) | (apply ResL.cells; rfl; infer_instance; infer_instance; rfl; (repeat (first | exact sget_here | (apply sget_next; (first | assumption | (apply Nq.en; assumption) | omega | (simp only [Nq] at *; omega))))); exact Nat.le_of_ble_eq_true rfl))))
  · exact ⟨rfl, rfl⟩
  · (first | exact no_mem | (apply StLe.mem; (repeat (first | exact StLe.nil | (apply StLe.cons; (repeat (first | exact List.mem_cons_self | apply List.mem_cons_of_mem)); first | rfl | focus (congr 1; done) | focus (simp; done) | (simp; rfl))))))
set_option maxRecDepth 100000 in
theorem nil_copy : SCall Try.prog 31 [.nilp] [] (fun x σ => x = .nilp ∧ σ = []) := by
  refine scall_of (n := 16) (ks := [0, 2, 4]) Try.func31 rfl rfl (Nat.le_of_ble_eq_true rfl) ?_
  (repeat (first | refine cs ?_ | refine cb ?_ | refine ck ?_ | refine cx ?_ | refine cr ?_ | refine an ?_ | refine ae ?_ | refine ar ?_ | refine bn ?_ | refine bh ?_ | refine be rfl ?_ | refine br ?_ | refine ct rfl ?_ | refine cf rfl ?_))
  first | refine sw_seq_region ?_ | refine sw_region ?_
  refine lo (lop_assign (E rfl)) rfl ?_
  apply le; (repeat (first | (apply KeepIs.take; rfl) | (apply KeepIs.skip; rfl) | exact KeepIs.nil))
  (repeat (first | refine cs ?_ | refine cb ?_ | refine ck ?_ | refine cx ?_ | refine cr ?_ | refine an ?_ | refine ae ?_ | refine ar ?_ | refine bn ?_ | refine bh ?_ | refine be rfl ?_ | refine br ?_ | refine ct rfl ?_ | refine cf rfl ?_))
  first | refine sw_seq_region ?_ | refine sw_region ?_
  refine lo (lop_move (E rfl)) rfl ?_
  first | refine lo (lop_peql (E rfl) (E rfl) (.inl ⟨rfl, rfl⟩)) rfl ?_ | refine lo (lop_peql (E rfl) (E rfl) (.inr (.inl ⟨⟨_, _, rfl⟩, rfl⟩))) rfl ?_ | refine lo (lop_peql (E rfl) (E rfl) (.inr (.inr ⟨⟨_, _, _, rfl⟩, rfl⟩))) rfl ?_
  apply le; (repeat (first | (apply KeepIs.take; rfl) | (apply KeepIs.skip; rfl) | exact KeepIs.nil))
  (repeat (first | refine cs ?_ | refine cb ?_ | refine ck ?_ | refine cx ?_ | refine cr ?_ | refine an ?_ | refine ae ?_ | refine ar ?_ | refine bn ?_ | refine bh ?_ | refine be rfl ?_ | refine br ?_ | refine ct rfl ?_ | refine cf rfl ?_))
  first | refine sw_seq_region ?_ | refine sw_region ?_
  refine lo (lop_assign (E rfl)) rfl ?_
  apply le; (repeat (first | (apply KeepIs.take; rfl) | (apply KeepIs.skip; rfl) | exact KeepIs.nil))
  (repeat (first | refine cs ?_ | refine cb ?_ | refine ck ?_ | refine cx ?_ | refine cr ?_ | refine an ?_ | refine ae ?_ | refine ar ?_ | refine bn ?_ | refine bh ?_ | refine be rfl ?_ | refine br ?_ | refine ct rfl ?_ | refine cf rfl ?_))
  (apply aend; (repeat (first | exact ResL.nil | (apply ResL.tmp; rfl) | (apply ResL.cell; rfl; infer_instance; rfl; (repeat (first | exact sget_here | (apply sget_next; (first | assumption | (apply Nq.en; assumption) | omega | (simp only [Nq] at *; omega))))); rfl) | (apply ResL.cells; rfl; infer_instance; infer_instance; rfl; (repeat (first | exact sget_here | (apply sget_next; (first | assumption | (apply Nq.en; assumption) | omega | (simp only [Nq] at *; omega))))); exact Nat.le_of_ble_eq_true rfl))))
  · exact ⟨rfl, rfl⟩
  · (first | exact no_mem | (apply StLe.mem; (repeat (first | exact StLe.nil | (apply StLe.cons; (repeat (first | exact List.mem_cons_self | apply List.mem_cons_of_mem)); first | rfl | focus (congr 1; done) | focus (simp; done) | (simp; rfl))))))
end
end Go.Proofs.Ytpdgnenffiphcaa
