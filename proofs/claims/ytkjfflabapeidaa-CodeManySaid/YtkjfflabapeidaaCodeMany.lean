/-
  CodeMany.
-/
import Derived.Test.YtkjfflabapeidaaM7
namespace Go.Proofs.Ytkjfflabapeidaa
open Go.RowKit Go.ChangeShapes Go.WideShapes Go.ChangeAt Go.Deep
set_option linter.unusedSimpArgs false
set_option linter.unusedVariables false
attribute [local irreducible] SW RS RD AThen ABlock

theorem bodyN_le (l : List Ins) (n : Nat) : (bodyN l n).length ≤ n := by unfold bodyN; simp; omega
theorem may_next {L : List Ins} {j : Nat} {x : Ins} (h : ∀ y ∈ L.take j, mayN y = true) (hx : L[j]? = some x) (hm : mayN x = true) : ∀ y ∈ L.take (j + 1), mayN y = true := by
  intro y hy
  rw [List.take_add_one, hx] at hy
  rcases List.mem_append.1 hy with hy | hy
  · exact h y hy
  · rw [show y = x by simpa using hy]; exact hm
def encB (L : List Ins) : List AV := [.ro 4 (L.map (iv .any)) .any]
/-- the bodies' bytes, from one on -/
def rB (M : List (List Ins)) (i : Nat) : List Nat := (M.drop i).flatMap putL
def lB (M : List (List Ins)) (i : Nat) : List Nat := (M.take i).flatMap putL
theorem lB_next {M : List (List Ins)} {i : Nat} {L : List Ins} (h : M[i]? = some L) : lB M (i + 1) = lB M i ++ putL L := by
  unfold lB; rw [List.take_add_one, h, List.flatMap_append]; simp
theorem rB_next {M : List (List Ins)} {i : Nat} {L : List Ins} (h : M[i]? = some L) : rB M i = putL L ++ rB M (i + 1) := by
  obtain ⟨hj, hx⟩ := List.getElem?_eq_some_iff.1 h
  unfold rB; rw [List.drop_eq_getElem_cons hj, hx, List.flatMap_cons]
def BOk (L : List Ins) : Prop := okN (opsOf L) = true ∧ ∀ x ∈ L, x.Ok ∧ mayN x = true
theorem bytes_le : ∀ {M : List (List Ins)}, (∀ L ∈ M, L.length ≤ 30 ∧ ∀ x ∈ L, x.Ok ∧ mayN x = true) → (M.flatMap putL).length ≤ 6001 * M.length ∧ ∀ b ∈ M.flatMap putL, b < 256
  | [], _ => by simp
  | L :: M, h => by
    obtain ⟨h1, h2⟩ := h L List.mem_cons_self
    obtain ⟨i1, i2⟩ := bytes_le (M := M) fun K hK => h K (List.mem_cons_of_mem _ hK)
    have := putL_len h2
    rw [List.flatMap_cons]
    refine ⟨by rw [List.length_append, List.length_cons]; omega, lt_app (putL_lt h2) i2⟩
theorem BOk.next {M : List (List Ins)} {i : Nat} {L : List Ins} (h : ∀ K ∈ M.take i, BOk K) (hx : M[i]? = some L) (hL : BOk L) : ∀ K ∈ M.take (i + 1), BOk K := by
  intro K hK
  rw [List.take_add_one, hx] at hK
  rcases List.mem_append.1 hK with hK | hK
  · exact h K hK
  · rw [show K = L by simpa using hK]; exact hL
set_option maxRecDepth 100000 in
theorem law_codeMany (a b c : List Ins) (ha : a.length ≤ maxLen ∧ ∀ x ∈ a, x.Wf) (hb : b.length ≤ maxLen ∧ ∀ x ∈ b, x.Wf) (hc : c.length ≤ maxLen ∧ ∀ x ∈ c, x.Wf) : SCall Try.prog 12 [.ro 4 (a.map (iv .any)) .any, .ro 4 (b.map (iv .any)) .any, .ro 4 (c.map (iv .any)) .any] [] (fun x _ => x = .bool true) := by
  refine scall_of (n := 99) (ks := [0, 1, 2, 6, 7, 8, 9, 10, 12, 13, 14, 15, 16, 17, 20, 29, 41, 48, 59, 67, 92]) Try.func12 rfl rfl (Nat.le_of_ble_eq_true rfl) ?_
  (refine ctlT ?_)
  refine rgT ?_
  refine lo (lop_assign (E rfl)) rfl ?_
  refine leT ?_
  (refine ctlT ?_)
  refine rgT ?_
  refine puA Try.call29 law_begun6 rfl pargsT nofT ?_
  refine lo (lop_assign (E rfl)) rfl ?_
  refine leT ?_
  (refine ctlT ?_)
  refine rgT ?_
  refine lo (lop_move (E rfl)) rfl ?_
  refine lo (lop_not (E rfl)) rfl ?_
  refine leT ?_
  (refine ctlT ?_)
  refine rgT ?_
  refine lo (lop_move (E rfl)) rfl ?_
  refine cw [] Try.call28 (law_body a ha.1 (fun x hx => (ha.2 x hx).2.2.2.1) 30 (by decide)) rfl argsleT stleT ?_
  rintro _ σ' ⟨q4, rfl, rfl⟩ h22
  (apply rs_sto; (exact nflT))
  refine fzv (j := 22) rfl sdelT (bor_own sgT (by simp)) ?_
  refine lo (lop_move (E rfl)) rfl ?_
  refine cw [] Try.call28 (law_body b hb.1 (fun x hx => (hb.2 x hx).2.2.2.1) 30 (by decide)) rfl argsleT stleT ?_
  rintro _ σ' ⟨q5, rfl, rfl⟩ h24
  (apply rs_sto; (exact nflT))
  refine fzv (j := 24) rfl sdelT (bor_own sgT (by simp)) ?_
  refine lo (lop_move (E rfl)) rfl ?_
  refine cw [] Try.call28 (law_body c hc.1 (fun x hx => (hc.2 x hx).2.2.2.1) 30 (by decide)) rfl argsleT stleT ?_
  rintro _ σ' ⟨q6, rfl, rfl⟩ h26
  (apply rs_sto; (exact nflT))
  refine fzv (j := 26) rfl sdelT (bor_own sgT (by simp)) ?_
  refine z1 ?_; refine freshT fun r27 h27 => ?_; (repeat (rcases h27 with ⟨_, h27⟩))
  refine lo (lop_assign (E rfl)) rfl ?_
  refine leT ?_
  (refine ctlT ?_)
  obtain ⟨M, hM⟩ : ∃ M, M = [bodyN a 30, bodyN b 30, bodyN c 30] := ⟨_, rfl⟩
  have hMl : M.length = 3 := by rw [hM]; rfl
  have hMo : ∀ L ∈ M, L.length ≤ 30 ∧ ∀ x ∈ L, x.Ok := by
    rw [hM]
    intro L hL
    simp only [List.mem_cons, List.not_mem_nil, or_false] at hL
    rcases hL with rfl | rfl | rfl
    · exact ⟨bodyN_le a 30, body_ok ha.2 30⟩
    · exact ⟨bodyN_le b 30, body_ok hb.2 30⟩
    · exact ⟨bodyN_le c 30, body_ok hc.2 30⟩
  rw [show ([[AV.ro 4 ((bodyN a 30).map (iv .any)) .any], [AV.ro 4 ((bodyN b 30).map (iv .any)) .any], [AV.ro 4 ((bodyN c 30).map (iv .any)) .any]] : List (List AV)) = M.map encB by rw [hM]; rfl]
  refine fzvs (j := 8) (v' := .ro 1 (M.map encB) .any) rfl sdelT (bor_own sgT (by simp [hMl])) ?_
  refine rgT ?_
  refine lo (lop_assign (E rfl)) rfl ?_
  refine leT ?_
  (refine ctlT ?_)
  refine sw_virt 9 5 1 (by decide) rfl (by decide) (freshT fun q0 hq0 => ?_); (repeat (rcases hq0 with ⟨_, hq0⟩))
  refine rgT ?_
  refine lo (lop_assign (E rfl)) rfl ?_
  refine leT ?_
  (refine ctlT ?_)
  refine lp (β := Nat × Nat) (fun b => ⟨[(8, .ro 1 (M.map encB) .any), (9, .own b.1 0 (lB M b.2).length), (10, .int .i64 b.2)], [(b.1, .arr 5 1 ((lB M b.2).map encU))]⟩) (fun b => b.2 ≤ 3 ∧ ∀ K ∈ M.take b.2, BOk K) (fun b => 3 - b.2) (q0, 0) sgoT ⟨Nat.zero_le _, by simp⟩ ?_
  rintro ⟨q, i⟩ ⟨hi, hbo⟩
  have hbl : (lB M i).length ≤ 6001 * (M.take i).length := (bytes_le fun K hK => ⟨(hMo K (List.mem_of_mem_take hK)).1, (hbo K hK).2⟩).1
  rw [List.length_take, hMl] at hbl
  dsimp only at hi hbo ⊢
  (refine ctlT ?_)
  refine rgT ?_
  refine lo (lop_move (E rfl)) rfl ?_
  refine lo (lop_lss (E rfl) (E rfl)) rfl ?_
  refine leT ?_
  (refine ctlT ?_)
  refine sw_cond rfl (fun g7 => ?_) (fun g7 => ?_)
  · have hlt : i < M.length := by simp at g7; omega
    obtain ⟨L, hL⟩ : ∃ L, M[i]? = some L := ⟨_, List.getElem?_eq_getElem hlt⟩
    obtain ⟨hLl, hLo⟩ := hMo L (List.mem_of_getElem? hL)
    (refine ctlT ?_)
    refine rgT ?_
    refine lo (lop_move (E rfl)) rfl ?_
    refine lo (lop_move (E rfl)) rfl ?_
    refine z15 ?_
    refine z16 ?_
    refine cw [] Try.call31 (ref_match L (by omega)) rfl argsleT stleT ?_
    rintro _ σ' ⟨q7, rfl, rfl⟩ h37
    replace h37 := cnewT h37; (repeat (rcases h37 with ⟨_, h37⟩))
    (apply rs_sto; (exact nflT))
    refine lo (lop_move (E rfl)) rfl ?_
    refine lo (lop_extract (E rfl) rfl) rfl ?_
    refine lo (lop_extract (E rfl) rfl) rfl ?_
    refine lo (lop_assign (E rfl)) rfl ?_
    refine lo (lop_assign (E rfl)) rfl ?_
    refine leT ?_
    (refine ctlT ?_)
    refine rgT ?_
    refine lo (lop_move (E rfl)) rfl ?_
    refine lo (lop_not (E rfl)) rfl ?_
    refine leT ?_
    (refine ctlT ?_)
    refine sw_cond rfl (fun g10 => ?_) (fun g10 => ?_)
    · (refine ctlT ?_)
      refine rgT ?_
      refine lo (lop_assign (E rfl)) rfl ?_
      refine leT ?_
      (refine ctlT ?_)
      (apply aend; (exact resT))
      · rfl
      · (exact stleT)
    have hok : okN (opsOf L) = true := by simpa using g10
    (refine ctlT ?_)
    refine rgT ?_
    refine lo (lop_assign (E rfl)) rfl ?_
    refine leT ?_
    (refine ctlT ?_)
    refine lp (β := Nat) (fun j => ⟨[(8, .ro 1 (M.map encB) .any), (9, .own q 0 (lB M i).length), (10, .int .i64 i), (13, .int .i64 j)], [(q, .arr 5 1 ((lB M i).map encU))]⟩) (fun j => j ≤ L.length ∧ ∀ y ∈ L.take j, mayN y = true) (fun j => L.length - j) 0 sgoT ⟨Nat.zero_le _, by simp⟩ ?_
    intro j ⟨hj, hjm⟩
    (refine ctlT ?_)
    refine rgT ?_
    refine lo (lop_move (E rfl)) rfl ?_
    refine lo (lop_move (E rfl)) rfl ?_
    refine lo (lop_move (E rfl)) rfl ?_
    refine z15 ?_
    refine z16 ?_
    refine z14 ?_
    refine lo (lop_lss (E rfl) (E rfl)) rfl ?_
    refine leT ?_
    (refine ctlT ?_)
    refine sw_cond rfl (fun g13 => ?_) (fun g13 => ?_)
    · have hlt2 : j < L.length := by simp at g13; omega
      obtain ⟨x, hx⟩ : ∃ x, L[j]? = some x := ⟨_, List.getElem?_eq_getElem hlt2⟩
      have hxo := hLo x (List.mem_of_getElem? hx)
      (refine ctlT ?_)
      refine rgT ?_
      refine lo (lop_move (E rfl)) rfl ?_
      refine lo (lop_move (E rfl)) rfl ?_
      refine z15 ?_
      refine z16 ?_
      refine lo (lop_move (E rfl)) rfl ?_
      refine z15 ?_
      first | refine lo (lop_load_el_agg (E rfl) rfl (fun hc => by first | rfl | exact get_map (by assumption) | assumption | exact get_map (at_bang (by omega))) (fun _ => Nat.le_of_ble_eq_true rfl)) rfl ?_ | refine lo (lop_load_ow_agg (E rfl) rfl sgT (fun hc => by first | rfl | exact get_map (by assumption) | assumption | exact get_map (at_bang (by omega))) (fun _ => Nat.le_of_ble_eq_true rfl)) rfl ?_
      refine puA Try.call19 (ref_mayInstr .any x hxo) rfl pargsT nofT ?_
      refine lo (lop_not (E rfl)) rfl ?_
      refine leT ?_
      (refine ctlT ?_)
      refine sw_cond rfl (fun g15 => ?_) (fun g15 => ?_)
      · (refine ctlT ?_)
        refine rgT ?_
        refine lo (lop_assign (E rfl)) rfl ?_
        refine leT ?_
        (refine ctlT ?_)
        (apply aend; (exact resT))
        · rfl
        · (exact stleT)
      (refine ctlT ?_)
      refine rgT ?_
      refine lo (lop_move (E rfl)) rfl ?_
      refine z17 ?_
      refine lo (lop_assign (E rfl)) rfl ?_
      refine leT ?_
      (refine ctlT ?_)
      refine ⟨j + 1, ⟨hlt2, may_next hjm hx (by simpa using g15)⟩, by show L.length - (j + 1) < L.length - j; omega, ?_⟩
      (exact sgoT)
    obtain rfl : j = L.length := by simp at g13; omega
    have hm : ∀ x ∈ L, x.Ok ∧ mayN x = true := fun x hx => ⟨hLo x hx, hjm x (by rw [List.take_length]; exact hx)⟩
    (refine ctlT ?_)
    refine rgT ?_
    refine lo (lop_move (E rfl)) rfl ?_
    refine lo (lop_move (E rfl)) rfl ?_
    refine lo (lop_move (E rfl)) rfl ?_
    refine z15 ?_
    refine z16 ?_
    refine cw [(q, .arr 5 1 ((lB M i).map encU))] Try.call35 (code_put q (lB M i) (by omega) L (by omega) hm) rfl argsleT stleT ?_
    rintro _ σ' ⟨r65, rfl, rfl⟩ h65
    have k65 := rest1T h65; (repeat (rcases k65 with ⟨_, k65⟩))
    (apply rs_sto; (exact nflT))
    refine lo (lop_assign (E rfl)) rfl ?_
    refine leT ?_
    (refine ctlT ?_)
    refine rgT ?_
    refine lo (lop_move (E rfl)) rfl ?_
    refine z17 ?_
    refine lo (lop_assign (E rfl)) rfl ?_
    refine leT ?_
    (refine ctlT ?_)
    refine ⟨(r65, i + 1), ⟨by show i + 1 ≤ 3; omega, BOk.next hbo hL ⟨hok, hm⟩⟩, by show 3 - (i + 1) < 3 - i; omega, ?_⟩
    dsimp only
    rw [lB_next hL]
    (exact sgoT)
  obtain rfl : i = 3 := by simp at g7; omega
  have hall : ∀ K ∈ M, BOk K := by rw [← hMl, List.take_length] at hbo; exact hbo
  have hr0 : lB M 3 = rB M 0 := by unfold lB rB; rw [← hMl, List.take_length]; rfl
  rw [hr0]
  refine fzvs (j := 9) rfl sdelT (bor_own sgT (by simp)) ?_
  (refine ctlT ?_)
  refine rgT ?_
  refine lo (lop_assign (E rfl)) rfl ?_
  refine leT ?_
  (refine ctlT ?_)
  refine lp (β := Nat) (fun k => ⟨[(8, .ro 1 (M.map encB) .any), (9, .ro 1 ((rB M k).map encU) .any), (14, .int .i64 k)], []⟩) (fun k => k ≤ 3) (fun k => 3 - k) 0 sgoT (by decide) ?_
  intro k hk
  (refine ctlT ?_)
  refine rgT ?_
  refine lo (lop_move (E rfl)) rfl ?_
  refine lo (lop_lss (E rfl) (E rfl)) rfl ?_
  refine leT ?_
  (refine ctlT ?_)
  refine sw_cond rfl (fun g19 => ?_) (fun g19 => ?_)
  · have hlt : k < M.length := by simp at g19; omega
    obtain ⟨L, hL⟩ : ∃ L, M[k]? = some L := ⟨_, List.getElem?_eq_getElem hlt⟩
    obtain ⟨hLl, hLo⟩ := hMo L (List.mem_of_getElem? hL)
    obtain ⟨hok, hm⟩ := hall L (List.mem_of_getElem? hL)
    have hrn := rB_next hL
    obtain ⟨hrl, hrt⟩ : (rB M k).length ≤ 6001 * (M.drop k).length ∧ ∀ b ∈ rB M k, b < 256 := bytes_le fun K hK => ⟨(hMo K (List.mem_of_mem_drop hK)).1, (hall K (List.mem_of_mem_drop hK)).2⟩
    rw [List.length_drop, hMl] at hrl
    have hget : getC (rB M k) = (L, (putL L).length, 0) := by rw [hrn]; exact getC_back hm hok _
    have hle : (putL L).length ≤ (rB M k).length := by rw [hrn]; simp
    have hdrop : (rB M k).drop (putL L).length = rB M (k + 1) := by rw [hrn]; simp
    (refine ctlT ?_)
    refine rgT ?_
    refine lo (lop_move (E rfl)) rfl ?_
    refine cw [] Try.call37 (code_get (rB M k) (by omega) hrt) rfl argsleT stleT ?_
    rintro _ σ' ⟨q8, rfl, rfl⟩ h72
    rw [hget]
    dsimp only
    (apply rs_sto; (exact nflT))
    refine lo (lop_move (E rfl)) rfl ?_
    refine lo (lop_extract (E rfl) rfl) rfl ?_
    refine lo (lop_extract (E rfl) rfl) rfl ?_
    refine lo (lop_extract (E rfl) rfl) rfl ?_
    refine lo (lop_assign (E rfl)) rfl ?_
    refine lo (lop_assign (E rfl)) rfl ?_
    refine lo (lop_assign (E rfl)) rfl ?_
    refine leT ?_
    (refine ctlT ?_)
    refine rgT ?_
    refine lo (lop_move (E rfl)) rfl ?_
    refine lo (lop_neq (E rfl) (E rfl)) rfl ?_
    refine lo (lop_move (E rfl)) rfl ?_
    first | refine ln rfl rfl rfl rfl ?_ | (refine gy rfl rfl ?_; refine lo (lop_move (E rfl)) rfl ?_) | refine lg rfl rfl (lop_move (E rfl)) rfl ?_
    first | refine ln rfl rfl rfl rfl ?_ | (refine gy rfl rfl ?_; refine lo (lop_move (E rfl)) rfl ?_) | refine lg rfl rfl (lop_move (E rfl)) rfl ?_
    first | refine ln rfl rfl rfl rfl ?_ | (refine gy rfl rfl ?_; (first | refine lo (lop_len_map (by first | exact W rfl id | exact E rfl)) rfl ?_ | refine lo (lop_len_ro (by first | exact W rfl id | exact E rfl)) rfl ?_ | refine lo (lop_len_own (by first | exact W rfl id | exact E rfl)) rfl ?_)) | refine lg rfl rfl (lop_len_map (by first | exact W rfl id | exact E rfl)) rfl ?_ | refine lg rfl rfl (lop_len_ro (by first | exact W rfl id | exact E rfl)) rfl ?_ | refine lg rfl rfl (lop_len_own (by first | exact W rfl id | exact E rfl)) rfl ?_
    first | refine ln rfl rfl rfl rfl ?_ | (refine gy rfl rfl ?_; refine lo (lop_gtr (by first | exact W rfl id | exact E rfl) (by first | exact W rfl id | exact E rfl)) rfl ?_) | refine lg rfl rfl (lop_gtr (by first | exact W rfl id | exact E rfl) (by first | exact W rfl id | exact E rfl)) rfl ?_
    rw [decide_eq_false (show ¬ ((rB M k).length : Int) < ((putL L).length : Int) by omega)]
    first | refine lo (lop_pick_t (E rfl) (E rfl)) rfl ?_ | refine lo (lop_pick_f (E rfl) (by first | exact W rfl (by simp) | exact E rfl)) rfl ?_ | refine lo (lop_pick (E rfl) (E rfl) (by first | exact W rfl (by simp) | exact E rfl)) rfl ?_
    refine lo (lop_move (E rfl)) rfl ?_
    first | refine ln rfl rfl rfl rfl ?_ | (refine gy rfl rfl ?_; refine lo (lop_move (E rfl)) rfl ?_) | refine lg rfl rfl (lop_move (E rfl)) rfl ?_
    first | refine ln rfl rfl rfl rfl ?_ | (refine gy rfl rfl ?_; refine lo (lop_move (E rfl)) rfl ?_) | refine lg rfl rfl (lop_move (E rfl)) rfl ?_
    first | refine ln rfl rfl rfl rfl ?_ | (refine gy rfl rfl ?_; refine lo (lop_move (E rfl)) rfl ?_) | refine lg rfl rfl (lop_move (E rfl)) rfl ?_
    first | refine ln rfl rfl rfl rfl ?_ | (refine gy rfl rfl ?_; (first | refine lo (lop_index_ro (by first | exact W rfl id | exact E rfl) (by first | exact W rfl id | exact E rfl) (fun hc => by (simp only [List.length_map]; omega))) rfl ?_ | refine lo (lop_index_own0 (by first | exact W rfl id | exact E rfl) sgT (by first | exact W rfl id | exact E rfl) (fun hc => by omega)) rfl ?_ | refine lo (lop_index_own (by first | exact W rfl id | exact E rfl) sgT (by first | exact W rfl id | exact E rfl) (fun hc => by omega)) rfl ?_)) | refine lg rfl rfl (lop_index_ro (by first | exact W rfl id | exact E rfl) (by first | exact W rfl id | exact E rfl) (fun hc => by (try simp at hc) <;> (simp only [List.length_map]; omega))) rfl ?_ | refine lg rfl rfl (lop_index_own0 (by first | exact W rfl id | exact E rfl) sgT (by first | exact W rfl id | exact E rfl) (fun hc => by (try simp at hc) <;> omega)) rfl ?_ | refine lg rfl rfl (lop_index_own (by first | exact W rfl id | exact E rfl) sgT (by first | exact W rfl id | exact E rfl) (fun hc => by (try simp at hc) <;> omega)) rfl ?_
    first | refine ln rfl rfl rfl rfl ?_ | (refine gy rfl rfl ?_; (first | refine lo (lop_load_el (by first | exact W rfl id | exact E rfl) rfl (fun hc => by first | rfl | exact get_map (by assumption) | assumption | exact get_map (at_bang (by omega))) (fun _ => rfl)) rfl ?_ | refine lo (lop_load_ow (by first | exact W rfl id | exact E rfl) rfl sgT (fun hc => by first | rfl | exact get_map (by assumption) | assumption | exact get_map (at_bang (by omega))) (fun _ => rfl)) rfl ?_)) | refine lg rfl rfl (lop_load_el (by first | exact W rfl id | exact E rfl) rfl (fun hc => by first | rfl | exact get_map (by assumption) | assumption | exact get_map (at_bang (by (try simp at hc) <;> omega))) (fun _ => rfl)) rfl ?_ | refine lg rfl rfl (lop_load_ow (by first | exact W rfl id | exact E rfl) rfl sgT (fun hc => by first | rfl | exact get_map (by assumption) | assumption | exact get_map (at_bang (by (try simp at hc) <;> omega))) (fun _ => rfl)) rfl ?_
    refine gy rfl rfl ?_
    refine puA Try.call38 (ref_eqBody .any .any L L (by omega) (by omega)) rfl pargsT nofT ?_
    rw [show eqB L L = true by simp [eqB]]
    first | refine ln rfl rfl rfl rfl ?_ | (refine gy rfl rfl ?_; refine lo (lop_not (by first | exact W rfl id | exact E rfl)) rfl ?_) | refine lg rfl rfl (lop_not (by first | exact W rfl id | exact E rfl)) rfl ?_
    first | refine lo (lop_pick_t (E rfl) (E rfl)) rfl ?_ | refine lo (lop_pick_f (E rfl) (by first | exact W rfl (by simp) | exact E rfl)) rfl ?_ | refine lo (lop_pick (E rfl) (E rfl) (by first | exact W rfl (by simp) | exact E rfl)) rfl ?_
    refine leT ?_
    (refine ctlT ?_)
    refine rgT ?_
    refine lo (lop_move (E rfl)) rfl ?_
    refine lo (lop_move (E rfl)) rfl ?_
    first | refine lo (lop_slice_ro (E rfl) (OB.some (E rfl) (fun _ => by first | rfl | exact (Int.toNat_of_nonneg (by omega)).symm)) OB.none (fun _ => by first | (simp only [List.length_map]; omega) | omega)) rfl ?_ | refine lo (lop_slice_own (E rfl) sgT (OB.some (E rfl) (fun _ => by first | rfl | exact (Int.toNat_of_nonneg (by omega)).symm)) OB.none (fun _ => by first | (simp only [List.length_map]; omega) | omega)) rfl ?_
    refine lo (lop_assign (E rfl)) rfl ?_
    refine leT ?_
    (refine ctlT ?_)
    rw [take_sub, hdrop]
    refine rgT ?_
    refine lo (lop_move (E rfl)) rfl ?_
    refine z17 ?_
    refine lo (lop_assign (E rfl)) rfl ?_
    refine leT ?_
    (refine ctlT ?_)
    refine ⟨k + 1, by omega, by show 3 - (k + 1) < 3 - k; omega, ?_⟩
    (exact sgoT)
  obtain rfl : k = 3 := by simp at g19; omega
  have he : rB M 3 = [] := by unfold rB; rw [← hMl, List.drop_length]; rfl
  rw [he]
  (refine ctlT ?_)
  refine rgT ?_
  refine lo (lop_move (E rfl)) rfl ?_
  refine z14 ?_
  refine lo (lop_eql (E rfl) (E rfl)) rfl ?_
  refine lo (lop_assign (E rfl)) rfl ?_
  refine leT ?_
  (refine ctlT ?_)
  (apply aend; (exact resT))
  · rfl
  · (exact stleT)
end Go.Proofs.Ytkjfflabapeidaa
