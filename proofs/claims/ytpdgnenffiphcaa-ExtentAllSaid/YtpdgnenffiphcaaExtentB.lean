/-
  Package extent: its free rows.
-/
import Derived.Test.YtpdgnenffiphcaaExtent
namespace Go.Proofs.Ytpdgnenffiphcaa
open Go.RowKit Go.ChangeShapes Go.WideShapes Go.ChangeAt Go.Deep
set_option linter.unusedSimpArgs false
set_option linter.unusedVariables false
attribute [local irreducible] SW RS RD AThen ABlock

def bump (l : List (Int × Int)) : List (Int × Int) := l.set (l.length - 1) (l[l.length - 1]!.1, l[l.length - 1]!.2 + 1)
def stepS (at_ : Int) (st : List (Int × Int) × Nat × Bool) (b : Bool) : List (Int × Int) × Nat × Bool := (if b then (if st.2.2 then bump st.1 else st.1 ++ [(at_ + (st.2.1 : Int), 1)]) else st.1, st.2.1 + 1, b)
def spS (at_ : Int) (fr : List Bool) (i : Nat) : List (Int × Int) × Nat × Bool := (fr.take i).foldl (stepS at_) ([], 0, false)
def spans (at_ : Int) (fr : List Bool) : List (Int × Int) := (fr.foldl (stepS at_) ([], 0, false)).1
theorem spS_all {at_ : Int} {fr : List Bool} : (spS at_ fr fr.length).1 = spans at_ fr := by unfold spS spans; rw [List.take_length]
theorem spS_succ {at_ : Int} {fr : List Bool} {i : Nat} {b : Bool} (h : fr[i]? = some b) : spS at_ fr (i + 1) = stepS at_ (spS at_ fr i) b := by
  unfold spS
  rw [List.take_add_one, h, List.foldl_append]
  rfl
structure SpOk (at_ : Int) (fr : List Bool) (i : Nat) : Prop where
  no : (spS at_ fr i).2.1 = i
  ne : (spS at_ fr i).2.2 = true → (spS at_ fr i).1 ≠ []
  len : (spS at_ fr i).1.length ≤ i
  bd : ∀ p ∈ (spS at_ fr i).1, at_ ≤ p.1 ∧ p.1 ≤ at_ + i ∧ 1 ≤ p.2 ∧ p.2 ≤ i
theorem bang_mem {l : List (Int × Int)} {i : Nat} (h : i < l.length) : l[i]! ∈ l := by
  rw [getElem!_pos l i h]
  exact List.getElem_mem h
theorem spOk (at_ : Int) (fr : List Bool) : ∀ i, i ≤ fr.length → SpOk at_ fr i
  | 0, _ => ⟨rfl, fun h => (by cases h), Nat.le_refl _, fun p hp => (by cases hp)⟩
  | i + 1, h => by
    have ih := spOk at_ fr i (by omega)
    have hb : fr[i]? = some fr[i] := List.getElem?_eq_getElem (by omega)
    have e := spS_succ (at_ := at_) hb
    have hno := ih.no
    refine ⟨by rw [e]; simp only [stepS]; omega, fun hp => ?_, ?_, fun p hp => ?_⟩
    · rw [e] at hp ⊢
      simp only [stepS] at hp ⊢
      rw [hp]
      simp only [if_true]
      split
      · next h2 =>
        have := ih.ne h2
        intro h3
        apply this
        have := congrArg List.length h3
        simpa [bump] using this
      · simp
    · rw [e]
      have := ih.len
      simp only [stepS]
      split
      · split
        · simp [bump]; omega
        · simp; omega
      · omega
    · rw [e] at hp
      simp only [stepS] at hp
      have old : ∀ p ∈ (spS at_ fr i).1, at_ ≤ p.1 ∧ p.1 ≤ at_ + (i + 1 : Nat) ∧ 1 ≤ p.2 ∧ p.2 ≤ (i + 1 : Nat) := fun p hp => by have := ih.bd p hp; omega
      split at hp
      · split at hp
        · next h2 =>
          rcases List.mem_or_eq_of_mem_set hp with hp | rfl
          · exact old p hp
          · have hne := ih.ne h2
            have hl : (spS at_ fr i).1.length - 1 < (spS at_ fr i).1.length := by
              have : (spS at_ fr i).1.length ≠ 0 := fun h => hne (List.length_eq_zero_iff.1 h)
              omega
            have := ih.bd _ (bang_mem hl)
            simp only
            omega
        · rcases List.mem_append.1 hp with hp | hp
          · exact old p hp
          · obtain rfl := List.mem_singleton.1 hp
            rw [hno]
            simp only
            omega
      · exact old p hp
theorem spS_prev {at_ : Int} {fr : List Bool} {i : Nat} (h : i < fr.length) : (spS at_ fr (i + 1)).2.2 = fr[i]! := by
  have hb : fr[i]? = some fr[i] := List.getElem?_eq_getElem h
  rw [spS_succ hb, getElem!_pos fr i h]
  rfl
theorem set_encP {l : List (Int × Int)} {i : Nat} {a b : Int} : (l.map encP).set i [.int .i64 a, .int .i64 b] = (l.set i (a, b)).map encP := by rw [List.map_set]; rfl
theorem snoc_encP {l : List (Int × Int)} {a b : Int} : l.map encP ++ [[.int .i64 a, .int .i64 b]] = (l ++ [(a, b)]).map encP := by rw [List.map_append]; rfl

section
variable {s q : Nat}
set_option maxRecDepth 100000 in
theorem extent_spans (h1 : Nq q s) (at_ : Int) (fr : List Bool) (h0 : 0 ≤ at_) (h0' : at_ ≤ 1000000) (hf : fr.length ≤ 100000) : SCall Try.prog 29 [.ptr s 0] [(s, .box 83 [.int .i64 at_, .own q 0 fr.length]), (q, .arr 4 1 (fr.map encB))]
    (fun x σ => ∃ l, (Nq l s ∧ Nq l q) ∧ x = .own l 0 (spans at_ fr).length ∧ σ = [(l, .arr 65 2 ((spans at_ fr).map encP)), (s, .box 83 [.int .i64 at_, .own q 0 fr.length]), (q, .arr 4 1 (fr.map encB))]) := by
  refine scall_of (n := 56) (ks := [0, 2, 3, 4, 5, 7, 11, 12, 13, 14, 28, 31]) Try.func29 rfl rfl (Nat.le_of_ble_eq_true rfl) ?_
  (repeat (first | refine cs ?_ | refine cb ?_ | refine ck ?_ | refine cx ?_ | refine cr ?_ | refine an ?_ | refine ae ?_ | refine ar ?_ | refine bn ?_ | refine bh ?_ | refine be rfl ?_ | refine br ?_ | refine ct rfl ?_ | refine cf rfl ?_))
  first | refine sw_seq_region ?_ | refine sw_region ?_
  refine lo (lop_assign (E rfl)) rfl ?_
  apply le; (repeat (first | (apply KeepIs.take; rfl) | (apply KeepIs.skip; rfl) | exact KeepIs.nil))
  (repeat (first | refine cs ?_ | refine cb ?_ | refine ck ?_ | refine cx ?_ | refine cr ?_ | refine an ?_ | refine ae ?_ | refine ar ?_ | refine bn ?_ | refine bh ?_ | refine be rfl ?_ | refine br ?_ | refine ct rfl ?_ | refine cf rfl ?_))
  first | refine sw_seq_region ?_ | refine sw_region ?_
  refine lo (lop_move (E rfl)) rfl ?_
  first | refine lo (lop_peql (E rfl) (E rfl) (.inl ⟨rfl, rfl⟩)) rfl ?_ | refine lo (lop_peql (E rfl) (E rfl) (.inr (.inl ⟨⟨_, _, rfl⟩, rfl⟩))) rfl ?_ | refine lo (lop_peql (E rfl) (E rfl) (.inr (.inr ⟨⟨_, _, _, rfl⟩, rfl⟩))) rfl ?_
  apply le; (repeat (first | (apply KeepIs.take; rfl) | (apply KeepIs.skip; rfl) | exact KeepIs.nil))
  (repeat (first | refine cs ?_ | refine cb ?_ | refine ck ?_ | refine cx ?_ | refine cr ?_ | refine an ?_ | refine ae ?_ | refine ar ?_ | refine bn ?_ | refine bh ?_ | refine be rfl ?_ | refine br ?_ | refine ct rfl ?_ | refine cf rfl ?_))
  first | refine sw_seq_region ?_ | refine sw_region ?_
  refine lo (lop_assign (E rfl)) rfl ?_
  apply le; (repeat (first | (apply KeepIs.take; rfl) | (apply KeepIs.skip; rfl) | exact KeepIs.nil))
  (repeat (first | refine cs ?_ | refine cb ?_ | refine ck ?_ | refine cx ?_ | refine cr ?_ | refine an ?_ | refine ae ?_ | refine ar ?_ | refine bn ?_ | refine bh ?_ | refine be rfl ?_ | refine br ?_ | refine ct rfl ?_ | refine cf rfl ?_))
  first | refine sw_seq_region ?_ | refine sw_region ?_
  refine lo (lop_move (E rfl)) rfl ?_
  refine lo (lop_nilCheck (E rfl) (.inl ⟨_, _, rfl⟩)) rfl ?_
  refine lo (lop_field_ptr (E rfl) rfl (by decide)) rfl ?_
  refine lo (lop_load_ptr (E rfl) rfl (by repeat (first | exact sget_here | refine sget_next (by (first | assumption | (apply Nq.en; assumption) | omega | (simp only [Nq] at *; omega))) ?_)) (fun _ => rfl)) rfl ?_
  first | refine lo (lop_len_map (E rfl)) rfl ?_ | refine lo (lop_len_ro (E rfl)) rfl ?_ | refine lo (lop_len_own (E rfl)) rfl ?_
  refine lo (lop_move (E rfl)) rfl ?_
  apply le; (repeat (first | (apply KeepIs.take; rfl) | (apply KeepIs.skip; rfl) | exact KeepIs.nil))
  (repeat (first | refine cs ?_ | refine cb ?_ | refine ck ?_ | refine cx ?_ | refine cr ?_ | refine an ?_ | refine ae ?_ | refine ar ?_ | refine bn ?_ | refine bh ?_ | refine be rfl ?_ | refine br ?_ | refine ct rfl ?_ | refine cf rfl ?_))
  refine sw_virt (ks := [0, 2, 3, 4, 5, 7, 11, 12, 13, 14, 28, 31]) 3 65 2 (by decide) rfl (by decide) fun l0 hl0 => ?_
  simp only [fresh_cons, fresh_nil, and_true] at hl0; (repeat (rcases hl0 with ⟨_, hl0⟩))
  refine lp (β := Nat × Nat) (fun b => ⟨[(0, .ptr s 0), (3, .own b.1 0 (spS at_ fr b.2).1.length), (11, .own q 0 fr.length), (12, .int .i64 fr.length), (13, .int .i64 b.2)], [(b.1, .arr 65 2 ((spS at_ fr b.2).1.map encP)), (s, .box 83 [.int .i64 at_, .own q 0 fr.length]), (q, .arr 4 1 (fr.map encB))]⟩) (fun b => (Nq b.1 s ∧ Nq b.1 q) ∧ b.2 ≤ fr.length) (fun b => fr.length - b.2) (l0, 0) ?_ ⟨⟨by show Nq l0 s; (first | assumption | (apply Nq.en; assumption) | omega | (simp only [Nq] at *; omega)), by show Nq l0 q; (first | assumption | (apply Nq.en; assumption) | omega | (simp only [Nq] at *; omega))⟩, Nat.zero_le _⟩ ?_
  · (refine sgo_st ?_ ?_ <;> (repeat (first | exact FrLe.nil | (apply FrLe.cons; rfl; first | exact VLe.refl _ | exact VLe.any | exact VLe.empty | exact VLe.of_eq (by simp) | exact VLe.of_eq (by congr 1; omega)) | exact StLe.nil | (apply StLe.cons; (repeat (first | exact List.mem_cons_self | apply List.mem_cons_of_mem)); first | rfl | focus (congr 1; done) | focus (simp; done) | (simp; rfl)))))
  rintro ⟨l, k⟩ ⟨⟨hl1, hl2⟩, hk⟩
  simp only at hl1 hl2 hk ⊢
  (repeat (first | refine cs ?_ | refine cb ?_ | refine ck ?_ | refine cx ?_ | refine cr ?_ | refine an ?_ | refine ae ?_ | refine ar ?_ | refine bn ?_ | refine bh ?_ | refine be rfl ?_ | refine br ?_ | refine ct rfl ?_ | refine cf rfl ?_))
  first | refine sw_seq_region ?_ | refine sw_region ?_
  refine lo (lop_lss (E rfl) (E rfl)) rfl ?_
  apply le; (repeat (first | (apply KeepIs.take; rfl) | (apply KeepIs.skip; rfl) | exact KeepIs.nil))
  (repeat (first | refine cs ?_ | refine cb ?_ | refine ck ?_ | refine cx ?_ | refine cr ?_ | refine an ?_ | refine ae ?_ | refine ar ?_ | refine bn ?_ | refine bh ?_ | refine be rfl ?_ | refine br ?_ | refine ct rfl ?_ | refine cf rfl ?_))
  refine sw_cond rfl (fun h2 => ?_) (fun h2 => ?_)
  · have hlt : k < fr.length := by simp at h2; omega
    obtain ⟨b, hb⟩ : ∃ b, fr[k]? = some b := ⟨_, List.getElem?_eq_getElem hlt⟩
    have ok := spOk at_ fr k hk
    have es := spS_succ (at_ := at_) hb
    have e1 := ok.no
    have e2 := ok.len
    (repeat (first | refine cs ?_ | refine cb ?_ | refine ck ?_ | refine cx ?_ | refine cr ?_ | refine an ?_ | refine ae ?_ | refine ar ?_ | refine bn ?_ | refine bh ?_ | refine be rfl ?_ | refine br ?_ | refine ct rfl ?_ | refine cf rfl ?_))
    first | refine sw_seq_region ?_ | refine sw_region ?_
    refine lo (lop_move (E rfl)) rfl ?_
    first | refine lo (lop_index_ro (E rfl) (E rfl) (fun hc => by (simp only [List.length_map]; omega))) rfl ?_ | refine lo (lop_index_own0 (E rfl) (by repeat (first | exact sget_here | refine sget_next (by (first | assumption | (apply Nq.en; assumption) | omega | (simp only [Nq] at *; omega))) ?_)) (E rfl) (fun hc => by omega)) rfl ?_ | refine lo (lop_index_own (E rfl) (by repeat (first | exact sget_here | refine sget_next (by (first | assumption | (apply Nq.en; assumption) | omega | (simp only [Nq] at *; omega))) ?_)) (E rfl) (fun hc => by omega)) rfl ?_
    first | refine lo (lop_load_el (E rfl) rfl (fun hc => by first | rfl | exact get_map (by assumption) | assumption | exact get_map (at_bang (by omega))) (fun _ => rfl)) rfl ?_ | refine lo (lop_load_ow (E rfl) rfl (by repeat (first | exact sget_here | refine sget_next (by (first | assumption | (apply Nq.en; assumption) | omega | (simp only [Nq] at *; omega))) ?_)) (fun hc => by first | rfl | exact get_map (by assumption) | assumption | exact get_map (at_bang (by omega))) (fun _ => rfl)) rfl ?_
    refine lo (lop_assign (E rfl)) rfl ?_
    refine lo (lop_assign (E rfl)) rfl ?_
    apply le; (repeat (first | (apply KeepIs.take; rfl) | (apply KeepIs.skip; rfl) | exact KeepIs.nil))
    (repeat (first | refine cs ?_ | refine cb ?_ | refine ck ?_ | refine cx ?_ | refine cr ?_ | refine an ?_ | refine ae ?_ | refine ar ?_ | refine bn ?_ | refine bh ?_ | refine be rfl ?_ | refine br ?_ | refine ct rfl ?_ | refine cf rfl ?_))
    cases b with
    | false =>
      first | refine sw_seq_region ?_ | refine sw_region ?_
      refine lo (lop_move (E rfl)) rfl ?_
      refine lo (lop_not (E rfl)) rfl ?_
      refine lo (lop_assign (E rfl)) rfl ?_
      apply le; (repeat (first | (apply KeepIs.take; rfl) | (apply KeepIs.skip; rfl) | exact KeepIs.nil))
      (repeat (first | refine cs ?_ | refine cb ?_ | refine ck ?_ | refine cx ?_ | refine cr ?_ | refine an ?_ | refine ae ?_ | refine ar ?_ | refine bn ?_ | refine bh ?_ | refine be rfl ?_ | refine br ?_ | refine ct rfl ?_ | refine cf rfl ?_))
      first | refine sw_seq_region ?_ | refine sw_region ?_
      first | refine lo (lop_add64 (E rfl) (E rfl) (by omega) (by omega)) rfl ?_ | refine lo (lop_add (E rfl) (E rfl)) rfl ?_
      refine lo (lop_move (E rfl)) rfl ?_
      apply le; (repeat (first | (apply KeepIs.take; rfl) | (apply KeepIs.skip; rfl) | exact KeepIs.nil))
      (repeat (first | refine cs ?_ | refine cb ?_ | refine ck ?_ | refine cx ?_ | refine cr ?_ | refine an ?_ | refine ae ?_ | refine ar ?_ | refine bn ?_ | refine bh ?_ | refine be rfl ?_ | refine br ?_ | refine ct rfl ?_ | refine cf rfl ?_))
      refine ⟨(l, k + 1), ⟨⟨by show Nq l s; (first | assumption | (apply Nq.en; assumption) | omega | (simp only [Nq] at *; omega)), by show Nq l q; (first | assumption | (apply Nq.en; assumption) | omega | (simp only [Nq] at *; omega))⟩, hlt⟩, by show fr.length - (k + 1) < fr.length - k; omega, ?_⟩
      rw [show (spS at_ fr k).1 = (spS at_ fr (k + 1)).1 by rw [es]; rfl]
      (refine sgo_st ?_ ?_ <;> (repeat (first | exact FrLe.nil | (apply FrLe.cons; rfl; first | exact VLe.refl _ | exact VLe.any | exact VLe.empty | exact VLe.of_eq (by simp) | exact VLe.of_eq (by congr 1; omega)) | exact StLe.nil | (apply StLe.cons; (repeat (first | exact List.mem_cons_self | apply List.mem_cons_of_mem)); first | rfl | focus (congr 1; done) | focus (simp; done) | (simp; rfl)))))
    | true =>
      first | refine sw_seq_region ?_ | refine sw_region ?_
      refine lo (lop_move (E rfl)) rfl ?_
      refine lo (lop_not (E rfl)) rfl ?_
      refine lo (lop_assign (E rfl)) rfl ?_
      apply le; (repeat (first | (apply KeepIs.take; rfl) | (apply KeepIs.skip; rfl) | exact KeepIs.nil))
      (repeat (first | refine cs ?_ | refine cb ?_ | refine ck ?_ | refine cx ?_ | refine cr ?_ | refine an ?_ | refine ae ?_ | refine ar ?_ | refine bn ?_ | refine bh ?_ | refine be rfl ?_ | refine br ?_ | refine ct rfl ?_ | refine cf rfl ?_))
      first | refine sw_seq_region ?_ | refine sw_region ?_
      refine lo (lop_move (E rfl)) rfl ?_
      refine lo (lop_gtr (E rfl) (E rfl)) rfl ?_
      refine lo (lop_move (E rfl)) rfl ?_
      first | refine ln rfl rfl rfl rfl ?_ | refine lg rfl rfl (lop_move (E rfl)) rfl ?_
      first | refine ln rfl rfl rfl rfl ?_ | refine lg rfl rfl (lop_nilCheck (W rfl id) (.inl ⟨_, _, rfl⟩)) rfl ?_
      first | refine ln rfl rfl rfl rfl ?_ | refine lg rfl rfl (lop_field_ptr (W rfl id) rfl (by decide)) rfl ?_
      first | refine ln rfl rfl rfl rfl ?_ | refine lg rfl rfl (lop_load_ptr (W rfl id) rfl (by repeat (first | exact sget_here | refine sget_next (by (first | assumption | (apply Nq.en; assumption) | omega | (simp only [Nq] at *; omega))) ?_)) (fun _ => rfl)) rfl ?_
      first | refine ln rfl rfl rfl rfl ?_ | refine lg rfl rfl (lop_move (E rfl)) rfl ?_
      first | refine ln rfl rfl rfl rfl ?_ | refine lg rfl rfl (lop_sub64 (W rfl id) (E rfl) (by omega) (by omega)) rfl ?_ | refine lg rfl rfl (lop_sub64c (W rfl id) (E rfl) (fun hc => by simp at hc <;> omega)) rfl ?_ | refine lg rfl rfl (lop_sub (W rfl id) (E rfl)) rfl ?_
      first | refine ln rfl rfl rfl rfl ?_ | refine lg rfl rfl (lop_index_ro (W rfl id) (W rfl id) (fun hc => by (try simp at hc) <;> (simp only [List.length_map]; omega))) rfl ?_ | refine lg rfl rfl (lop_index_own0 (W rfl id) (by repeat (first | exact sget_here | refine sget_next (by (first | assumption | (apply Nq.en; assumption) | omega | (simp only [Nq] at *; omega))) ?_)) (W rfl id) (fun hc => by (try simp at hc) <;> omega)) rfl ?_ | refine lg rfl rfl (lop_index_own (W rfl id) (by repeat (first | exact sget_here | refine sget_next (by (first | assumption | (apply Nq.en; assumption) | omega | (simp only [Nq] at *; omega))) ?_)) (W rfl id) (fun hc => by (try simp at hc) <;> omega)) rfl ?_
      first | refine ln rfl rfl rfl rfl ?_ | refine lg rfl rfl (lop_load_el (W rfl id) rfl (fun hc => by first | rfl | exact get_map (by assumption) | assumption | exact get_map (at_bang (by (try simp at hc) <;> omega))) (fun _ => rfl)) rfl ?_ | refine lg rfl rfl (lop_load_ow (W rfl id) rfl (by repeat (first | exact sget_here | refine sget_next (by (first | assumption | (apply Nq.en; assumption) | omega | (simp only [Nq] at *; omega))) ?_)) (fun hc => by first | rfl | exact get_map (by assumption) | assumption | exact get_map (at_bang (by (try simp at hc) <;> omega))) (fun _ => rfl)) rfl ?_
      first | refine lo (lop_pick_t (E rfl) (W rfl (by simp))) rfl ?_ | refine lo (lop_pick_f (E rfl) (E rfl)) rfl ?_ | refine lo (lop_pick (E rfl) (W rfl (by simp)) (E rfl)) rfl ?_
      refine lo (lop_assign (E rfl)) rfl ?_
      apply le; (repeat (first | (apply KeepIs.take; rfl) | (apply KeepIs.skip; rfl) | exact KeepIs.nil))
      (repeat (first | refine cs ?_ | refine cb ?_ | refine ck ?_ | refine cx ?_ | refine cr ?_ | refine an ?_ | refine ae ?_ | refine ar ?_ | refine bn ?_ | refine bh ?_ | refine be rfl ?_ | refine br ?_ | refine ct rfl ?_ | refine cf rfl ?_))
      refine sw_cond rfl (fun h3 => ?_) (fun h3 => ?_)
      · have h4 : 0 < k ∧ fr[((k : Int) - 1).toNat]! = true := by simpa using h3
        have h5 : (spS at_ fr k).2.2 = true := by
          obtain ⟨j, rfl⟩ : ∃ j, k = j + 1 := ⟨k - 1, by omega⟩
          rw [spS_prev (by omega), ← h4.2]
          congr 1; omega
        have hne : 0 < (spS at_ fr k).1.length := by
          have := ok.ne h5
          exact List.length_pos_iff.2 this
        have hz : (spS at_ fr k).1[(((spS at_ fr k).1.length : Int) - 1).toNat]? = some (spS at_ fr k).1[(spS at_ fr k).1.length - 1]! := by
          rw [show (((spS at_ fr k).1.length : Int) - 1).toNat = (spS at_ fr k).1.length - 1 by omega]
          exact at_bang (by omega)
        have hbd := ok.bd _ (bang_mem (l := (spS at_ fr k).1) (i := (spS at_ fr k).1.length - 1) (by omega))
        (repeat (first | refine cs ?_ | refine cb ?_ | refine ck ?_ | refine cx ?_ | refine cr ?_ | refine an ?_ | refine ae ?_ | refine ar ?_ | refine bn ?_ | refine bh ?_ | refine be rfl ?_ | refine br ?_ | refine ct rfl ?_ | refine cf rfl ?_))
        first | refine sw_seq_region ?_ | refine sw_region ?_
        refine lo (lop_move (E rfl)) rfl ?_
        refine lo (lop_move (E rfl)) rfl ?_
        first | refine lo (lop_len_map (E rfl)) rfl ?_ | refine lo (lop_len_ro (E rfl)) rfl ?_ | refine lo (lop_len_own (E rfl)) rfl ?_
        first | refine lo (lop_sub64 (E rfl) (E rfl) (by omega) (by omega)) rfl ?_ | refine lo (lop_sub (E rfl) (E rfl)) rfl ?_
        first | refine lo (lop_index_ro (E rfl) (E rfl) (fun hc => by (simp only [List.length_map]; omega))) rfl ?_ | refine lo (lop_index_own0 (E rfl) (by repeat (first | exact sget_here | refine sget_next (by (first | assumption | (apply Nq.en; assumption) | omega | (simp only [Nq] at *; omega))) ?_)) (E rfl) (fun hc => by omega)) rfl ?_ | refine lo (lop_index_own (E rfl) (by repeat (first | exact sget_here | refine sget_next (by (first | assumption | (apply Nq.en; assumption) | omega | (simp only [Nq] at *; omega))) ?_)) (E rfl) (fun hc => by omega)) rfl ?_
        first | refine lo (lop_field_el (E rfl) rfl (by decide)) rfl ?_ | refine lo (lop_field_ow (E rfl) rfl (by decide)) rfl ?_
        first | refine lo (lop_load_el (E rfl) rfl (fun hc => by first | rfl | exact get_map (by assumption) | assumption | exact get_map (at_bang (by omega))) (fun _ => rfl)) rfl ?_ | refine lo (lop_load_ow (E rfl) rfl (by repeat (first | exact sget_here | refine sget_next (by (first | assumption | (apply Nq.en; assumption) | omega | (simp only [Nq] at *; omega))) ?_)) (fun hc => by first | rfl | exact get_map (by assumption) | assumption | exact get_map (at_bang (by omega))) (fun _ => rfl)) rfl ?_
        first | refine lo (lop_add64 (E rfl) (E rfl) (by omega) (by omega)) rfl ?_ | refine lo (lop_add (E rfl) (E rfl)) rfl ?_
        first | refine lo (lop_index_ro (E rfl) (E rfl) (fun hc => by (simp only [List.length_map]; omega))) rfl ?_ | refine lo (lop_index_own0 (E rfl) (by repeat (first | exact sget_here | refine sget_next (by (first | assumption | (apply Nq.en; assumption) | omega | (simp only [Nq] at *; omega))) ?_)) (E rfl) (fun hc => by omega)) rfl ?_ | refine lo (lop_index_own (E rfl) (by repeat (first | exact sget_here | refine sget_next (by (first | assumption | (apply Nq.en; assumption) | omega | (simp only [Nq] at *; omega))) ?_)) (E rfl) (fun hc => by omega)) rfl ?_
        first | refine lo (lop_field_el (E rfl) rfl (by decide)) rfl ?_ | refine lo (lop_field_ow (E rfl) rfl (by decide)) rfl ?_
        apply sto; rfl; rfl; rfl; rfl; (repeat (first | (apply SSet.here; (repeat (first | exact Fresh.nil | (apply Fresh.cons; (first | assumption | (apply Nq.en; assumption) | omega | (simp only [Nq] at *; omega)))))) | (apply SSet.next; (first | assumption | (apply Nq.en; assumption) | omega | (simp only [Nq] at *; omega))))); (first | rfl | exact get_map (by assumption) | assumption); (repeat (first | exact Put.done | apply Put.put | apply Put.skip)); rfl
        apply le; (repeat (first | (apply KeepIs.take; rfl) | (apply KeepIs.skip; rfl) | exact KeepIs.nil))
        (repeat (first | refine cs ?_ | refine cb ?_ | refine ck ?_ | refine cx ?_ | refine cr ?_ | refine an ?_ | refine ae ?_ | refine ar ?_ | refine bn ?_ | refine bh ?_ | refine be rfl ?_ | refine br ?_ | refine ct rfl ?_ | refine cf rfl ?_))
        first | refine sw_seq_region ?_ | refine sw_region ?_
        first | refine lo (lop_add64 (E rfl) (E rfl) (by omega) (by omega)) rfl ?_ | refine lo (lop_add (E rfl) (E rfl)) rfl ?_
        refine lo (lop_move (E rfl)) rfl ?_
        apply le; (repeat (first | (apply KeepIs.take; rfl) | (apply KeepIs.skip; rfl) | exact KeepIs.nil))
        (repeat (first | refine cs ?_ | refine cb ?_ | refine ck ?_ | refine cx ?_ | refine cr ?_ | refine an ?_ | refine ae ?_ | refine ar ?_ | refine bn ?_ | refine bh ?_ | refine be rfl ?_ | refine br ?_ | refine ct rfl ?_ | refine cf rfl ?_))
        refine ⟨(l, k + 1), ⟨⟨by show Nq l s; (first | assumption | (apply Nq.en; assumption) | omega | (simp only [Nq] at *; omega)), by show Nq l q; (first | assumption | (apply Nq.en; assumption) | omega | (simp only [Nq] at *; omega))⟩, hlt⟩, by show fr.length - (k + 1) < fr.length - k; omega, ?_⟩
        have hn : (spS at_ fr (k + 1)).1 = bump (spS at_ fr k).1 := by rw [es]; simp only [stepS, h5, if_true]
        rw [hn]
        rw [show (bump (spS at_ fr k).1).length = (spS at_ fr k).1.length by simp [bump]]
        rw [show (((spS at_ fr k).1.length : Int) - 1).toNat = (spS at_ fr k).1.length - 1 by omega, set_encP]
        (refine sgo_st ?_ ?_ <;> (repeat (first | exact FrLe.nil | (apply FrLe.cons; rfl; first | exact VLe.refl _ | exact VLe.any | exact VLe.empty | exact VLe.of_eq (by simp) | exact VLe.of_eq (by congr 1; omega)) | exact StLe.nil | (apply StLe.cons; (repeat (first | exact List.mem_cons_self | apply List.mem_cons_of_mem)); first | rfl | focus (congr 1; done) | focus (simp; done) | (simp; rfl)))))
      · have h5 : (spS at_ fr k).2.2 = false := by
          cases k with
          | zero => rfl
          | succ j =>
            rw [spS_prev (by omega)]
            have h6 : fr[(((j + 1 : Nat) : Int) - 1).toNat]! = false := by simpa using h3
            rw [← h6]
            congr 1; omega
        have hn : (spS at_ fr (k + 1)).1 = (spS at_ fr k).1 ++ [(at_ + (k : Int), 1)] := by
          rw [es]
          simp only [stepS, h5, if_true, Bool.false_eq_true, if_false, e1]
        (repeat (first | refine cs ?_ | refine cb ?_ | refine ck ?_ | refine cx ?_ | refine cr ?_ | refine an ?_ | refine ae ?_ | refine ar ?_ | refine bn ?_ | refine bh ?_ | refine be rfl ?_ | refine br ?_ | refine ct rfl ?_ | refine cf rfl ?_))
        first | refine sw_seq_region ?_ | refine sw_region ?_
        refine lo (lop_move (E rfl)) rfl ?_
        refine lo (lop_move (E rfl)) rfl ?_
        refine lo (lop_nilCheck (E rfl) (.inl ⟨_, _, rfl⟩)) rfl ?_
        refine lo (lop_field_ptr (E rfl) rfl (by decide)) rfl ?_
        refine lo (lop_load_ptr (E rfl) rfl (by repeat (first | exact sget_here | refine sget_next (by (first | assumption | (apply Nq.en; assumption) | omega | (simp only [Nq] at *; omega))) ?_)) (fun _ => rfl)) rfl ?_
        refine lo (lop_move (E rfl)) rfl ?_
        first | refine lo (lop_add64 (E rfl) (E rfl) (by omega) (by omega)) rfl ?_ | refine lo (lop_add (E rfl) (E rfl)) rfl ?_
        refine lo (lop_str (by repeat (first | exact PEvs.nil | (apply PEvs.cons; first | exact W rfl id | exact E rfl))) (by (first | (simp only [Value.cells, AV.cells, List.map_cons, List.map_nil, ofConst, ofCell]; rfl) | rfl)) (by repeat (first | exact Fill.nil | (apply Fill.cons; rfl; rfl; rfl; (repeat (first | exact Put.done | apply Put.put | apply Put.skip)))))) rfl ?_
        apply bs; (repeat (first | exact AEvs.nil | (apply AEvs.cons; rfl))); rfl; rfl; rfl; rfl; (first | (simp only [Value.cells, AV.cells, List.map_cons, List.map_nil, ofConst, ofCell]; rfl) | rfl); rfl; intro r26 h26; simp only [fresh_cons, fresh_nil, and_true] at h26; (repeat (rcases h26 with ⟨_, h26⟩))
        apply ap (es' := (spS at_ fr (k + 1)).1.map encP) (len' := (spS at_ fr (k + 1)).1.length); rfl; rfl; (repeat (first | exact sget_here | (apply sget_next; (first | assumption | (apply Nq.en; assumption) | omega | (simp only [Nq] at *; omega)))))
        · simp
        · exact .inr (.inr ⟨_, _, _, _, _, rfl, (by repeat (first | exact sget_here | refine sget_next (by (first | assumption | (apply Nq.en; assumption) | omega | (simp only [Nq] at *; omega))) ?_)), by simp, rfl⟩)
        · rw [hn, ← snoc_encP]; rfl
        · rw [hn]; simp
        · rw [hn]; simp [maxLen]; omega
        · rw [hn]; simp; omega
        · rfl
        intro r27 h27; simp (disch := (first | (simp only [List.mem_cons, List.not_mem_nil, true_or, or_true, or_false]; done) | (focus (simp only [List.mem_cons, List.not_mem_nil, or_false, not_or]; (repeat' (first | apply And.intro | (first | assumption | (apply Nq.en; assumption) | omega | (simp only [Nq] at *; omega)))); done)) | omega)) only [fresh_cons, fresh_nil, and_true, sdrop_none, sdrop_nil, sdrop_in, sdrop_out] at h27; (repeat (rcases h27 with ⟨_, h27⟩)); apply Exists.intro; apply And.intro; (repeat (first | (apply SSet.here; (repeat (first | exact Fresh.nil | (apply Fresh.cons; (first | assumption | (apply Nq.en; assumption) | omega | (simp only [Nq] at *; omega)))))) | (apply SSet.next; (first | assumption | (apply Nq.en; assumption) | omega | (simp only [Nq] at *; omega)))))
        refine lo (lop_assign (E rfl)) rfl ?_
        apply le; (repeat (first | (apply KeepIs.take; rfl) | (apply KeepIs.skip; rfl) | exact KeepIs.nil))
        (repeat (first | refine cs ?_ | refine cb ?_ | refine ck ?_ | refine cx ?_ | refine cr ?_ | refine an ?_ | refine ae ?_ | refine ar ?_ | refine bn ?_ | refine bh ?_ | refine be rfl ?_ | refine br ?_ | refine ct rfl ?_ | refine cf rfl ?_))
        first | refine sw_seq_region ?_ | refine sw_region ?_
        first | refine lo (lop_add64 (E rfl) (E rfl) (by omega) (by omega)) rfl ?_ | refine lo (lop_add (E rfl) (E rfl)) rfl ?_
        refine lo (lop_move (E rfl)) rfl ?_
        apply le; (repeat (first | (apply KeepIs.take; rfl) | (apply KeepIs.skip; rfl) | exact KeepIs.nil))
        (repeat (first | refine cs ?_ | refine cb ?_ | refine ck ?_ | refine cx ?_ | refine cr ?_ | refine an ?_ | refine ae ?_ | refine ar ?_ | refine bn ?_ | refine bh ?_ | refine be rfl ?_ | refine br ?_ | refine ct rfl ?_ | refine cf rfl ?_))
        refine ⟨(r27, k + 1), ⟨⟨by show Nq r27 s; (first | assumption | (apply Nq.en; assumption) | omega | (simp only [Nq] at *; omega)), by show Nq r27 q; (first | assumption | (apply Nq.en; assumption) | omega | (simp only [Nq] at *; omega))⟩, hlt⟩, by show fr.length - (k + 1) < fr.length - k; omega, ?_⟩
        (refine sgo_st ?_ ?_ <;> (repeat (first | exact FrLe.nil | (apply FrLe.cons; rfl; first | exact VLe.refl _ | exact VLe.any | exact VLe.empty | exact VLe.of_eq (by simp) | exact VLe.of_eq (by congr 1; omega)) | exact StLe.nil | (apply StLe.cons; (repeat (first | exact List.mem_cons_self | apply List.mem_cons_of_mem)); first | rfl | focus (congr 1; done) | focus (simp; done) | (simp; rfl)))))
  obtain rfl : k = fr.length := by simp at h2; omega
  rw [spS_all]
  (repeat (first | refine cs ?_ | refine cb ?_ | refine ck ?_ | refine cx ?_ | refine cr ?_ | refine an ?_ | refine ae ?_ | refine ar ?_ | refine bn ?_ | refine bh ?_ | refine be rfl ?_ | refine br ?_ | refine ct rfl ?_ | refine cf rfl ?_))
  first | refine sw_seq_region ?_ | refine sw_region ?_
  refine lo (lop_move (E rfl)) rfl ?_
  refine lo (lop_assign (E rfl)) rfl ?_
  apply le; (repeat (first | (apply KeepIs.take; rfl) | (apply KeepIs.skip; rfl) | exact KeepIs.nil))
  (repeat (first | refine cs ?_ | refine cb ?_ | refine ck ?_ | refine cx ?_ | refine cr ?_ | refine an ?_ | refine ae ?_ | refine ar ?_ | refine bn ?_ | refine bh ?_ | refine be rfl ?_ | refine br ?_ | refine ct rfl ?_ | refine cf rfl ?_))
  (apply aend; (repeat (first | exact ResL.nil | (apply ResL.tmp; rfl) | (apply ResL.cell; rfl; infer_instance; rfl; (repeat (first | exact sget_here | (apply sget_next; (first | assumption | (apply Nq.en; assumption) | omega | (simp only [Nq] at *; omega))))); rfl) | (apply ResL.cells; rfl; infer_instance; infer_instance; rfl; (repeat (first | exact sget_here | (apply sget_next; (first | assumption | (apply Nq.en; assumption) | omega | (simp only [Nq] at *; omega))))); exact Nat.le_of_ble_eq_true rfl))))
  · exact ⟨l, ⟨hl1, hl2⟩, rfl, rfl⟩
  · (first | exact no_mem | (apply StLe.mem; (repeat (first | exact StLe.nil | (apply StLe.cons; (repeat (first | exact List.mem_cons_self | apply List.mem_cons_of_mem)); first | rfl | focus (congr 1; done) | focus (simp; done) | (simp; rfl))))))
set_option maxRecDepth 100000 in
theorem nil_spans : SCall Try.prog 29 [.nilp] [] (fun x σ => x = .ro 0 [] .nil ∧ σ = []) := by
  refine scall_of (n := 56) (ks := [0, 2, 3, 4, 5, 7, 11, 12, 13, 14, 28, 31]) Try.func29 rfl rfl (Nat.le_of_ble_eq_true rfl) ?_
  (repeat (first | refine cs ?_ | refine cb ?_ | refine ck ?_ | refine cx ?_ | refine cr ?_ | refine an ?_ | refine ae ?_ | refine ar ?_ | refine bn ?_ | refine bh ?_ | refine be rfl ?_ | refine br ?_ | refine ct rfl ?_ | refine cf rfl ?_))
  first | refine sw_seq_region ?_ | refine sw_region ?_
  refine lo (lop_assign (E rfl)) rfl ?_
  apply le; (repeat (first | (apply KeepIs.take; rfl) | (apply KeepIs.skip; rfl) | exact KeepIs.nil))
  (repeat (first | refine cs ?_ | refine cb ?_ | refine ck ?_ | refine cx ?_ | refine cr ?_ | refine an ?_ | refine ae ?_ | refine ar ?_ | refine bn ?_ | refine bh ?_ | refine be rfl ?_ | refine br ?_ | refine ct rfl ?_ | refine cf rfl ?_))
  first | refine sw_seq_region ?_ | refine sw_region ?_
  refine lo (lop_move (E rfl)) rfl ?_
  first | refine lo (lop_peql (E rfl) (E rfl) (.inl ⟨rfl, rfl⟩)) rfl ?_ | refine lo (lop_peql (E rfl) (E rfl) (.inr (.inl ⟨⟨_, _, rfl⟩, rfl⟩))) rfl ?_ | refine lo (lop_peql (E rfl) (E rfl) (.inr (.inr ⟨⟨_, _, _, rfl⟩, rfl⟩))) rfl ?_
  apply le; (repeat (first | (apply KeepIs.take; rfl) | (apply KeepIs.skip; rfl) | exact KeepIs.nil))
  (repeat (first | refine cs ?_ | refine cb ?_ | refine ck ?_ | refine cx ?_ | refine cr ?_ | refine an ?_ | refine ae ?_ | refine ar ?_ | refine bn ?_ | refine bh ?_ | refine be rfl ?_ | refine br ?_ | refine ct rfl ?_ | refine cf rfl ?_))
  first | refine sw_seq_region ?_ | refine sw_region ?_
  refine lo (lop_assign (E rfl)) rfl ?_
  apply le; (repeat (first | (apply KeepIs.take; rfl) | (apply KeepIs.skip; rfl) | exact KeepIs.nil))
  (repeat (first | refine cs ?_ | refine cb ?_ | refine ck ?_ | refine cx ?_ | refine cr ?_ | refine an ?_ | refine ae ?_ | refine ar ?_ | refine bn ?_ | refine bh ?_ | refine be rfl ?_ | refine br ?_ | refine ct rfl ?_ | refine cf rfl ?_))
  (apply aend; (repeat (first | exact ResL.nil | (apply ResL.tmp; rfl) | (apply ResL.cell; rfl; infer_instance; rfl; (repeat (first | exact sget_here | (apply sget_next; (first | assumption | (apply Nq.en; assumption) | omega | (simp only [Nq] at *; omega))))); rfl) | (apply ResL.cells; rfl; infer_instance; infer_instance; rfl; (repeat (first | exact sget_here | (apply sget_next; (first | assumption | (apply Nq.en; assumption) | omega | (simp only [Nq] at *; omega))))); exact Nat.le_of_ble_eq_true rfl))))
  · exact ⟨rfl, rfl⟩
  · (first | exact no_mem | (apply StLe.mem; (repeat (first | exact StLe.nil | (apply StLe.cons; (repeat (first | exact List.mem_cons_self | apply List.mem_cons_of_mem)); first | rfl | focus (congr 1; done) | focus (simp; done) | (simp; rfl))))))
end
end Go.Proofs.Ytpdgnenffiphcaa
