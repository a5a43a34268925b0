/-
  CodeBack.
-/
import Derived.Test.YtkjfflabapeidaaM7
namespace Go.Proofs.Ytkjfflabapeidaa
open Go.RowKit Go.ChangeShapes Go.WideShapes Go.ChangeAt Go.Deep
set_option linter.unusedSimpArgs false
set_option linter.unusedVariables false
attribute [local irreducible] SW RS RD AThen ABlock

theorem bodyN_le (l : List Ins) (n : Nat) : (bodyN l n).length ≤ n := by unfold bodyN; simp; omega
theorem may_next {L : List Ins} {j : Nat} {x : Ins} (h : ∀ y ∈ L.take j, mayN y = true) (hx : L[j]? = some x) (hm : mayN x = true) : ∀ y ∈ L.take (j + 1), mayN y = true := by
  intro y hy
  rw [List.take_add_one, hx] at hy
  rcases List.mem_append.1 hy with hy | hy
  · exact h y hy
  · rw [show y = x by simpa using hy]; exact hm
set_option maxRecDepth 100000 in
theorem law_codeBack (l : List Ins) (hl : l.length ≤ maxLen) (hw : ∀ x ∈ l, x.Wf) (h0 r0 : List Nat) (hh : h0.length ≤ maxLen) (hht : ∀ x ∈ h0, x < 256) (hr : r0.length ≤ maxLen) (hrt : ∀ x ∈ r0, x < 256) :
    SCall Try.prog 10 [.ro 4 (l.map (iv .any)) .any, .ro 1 (h0.map encU) .any, .ro 1 (r0.map encU) .any] [] (fun x _ => x = .bool true) := by
  refine scall_of (n := 84) (ks := [0, 1, 2, 6, 7, 8, 10, 11, 12, 13, 14, 17, 27, 35, 42, 55]) Try.func10 rfl rfl (Nat.le_of_ble_eq_true rfl) ?_
  (refine ctlT ?_)
  refine rgT ?_
  refine lo (lop_assign (E rfl)) rfl ?_
  refine leT ?_
  (refine ctlT ?_)
  refine rgT ?_
  refine puA Try.call29 law_begun6 rfl pargsT nofT ?_
  refine lo (lop_assign (E rfl)) rfl ?_
  refine leT ?_
  (refine ctlT ?_)
  refine rgT ?_
  refine lo (lop_move (E rfl)) rfl ?_
  refine lo (lop_not (E rfl)) rfl ?_
  refine leT ?_
  (refine ctlT ?_)
  refine rgT ?_
  refine lo (lop_move (E rfl)) rfl ?_
  refine cw [] Try.call28 (law_body l hl (fun x hx => (hw x hx).2.2.2.1) 80 (by decide)) rfl argsleT stleT ?_
  rintro _ σ' ⟨q4, rfl, rfl⟩ h19
  (apply rs_sto; (exact nflT))
  refine fzv (j := 19) rfl sdelT (bor_own sgT (by simp)) ?_
  refine lo (lop_move (E rfl)) rfl ?_
  refine cw [] Try.call18 (law_short h0 hh 8) rfl argsleT stleT ?_
  rintro _ σ' ⟨rfl, rfl⟩ h21
  (apply rs_sto; (exact nflT))
  refine lo (lop_move (E rfl)) rfl ?_
  refine cw [] Try.call18 (law_short r0 hr 8) rfl argsleT stleT ?_
  rintro _ σ' ⟨rfl, rfl⟩ h23
  (apply rs_sto; (exact nflT))
  refine lo (lop_assign (E rfl)) rfl ?_
  refine lo (lop_assign (E rfl)) rfl ?_
  refine lo (lop_assign (E rfl)) rfl ?_
  refine leT ?_
  (refine ctlT ?_)
  have hLl := bodyN_le l 80
  have hLo := body_ok hw 80
  generalize bodyN l 80 = L at hLl hLo ⊢
  have hol : (opsOf L).length = L.length := by simp [opsOf]
  obtain ⟨u, hu⟩ : ∃ u, u = h0.take 8 := ⟨_, rfl⟩
  have hut : ∀ x ∈ u, x < 256 := by rw [hu]; exact fun x hx => hht x (List.mem_of_mem_take hx)
  have hul : u.length ≤ 8 := by rw [hu]; simp; omega
  obtain ⟨v, hv⟩ : ∃ v, v = r0.take 8 := ⟨_, rfl⟩
  have hvl : v.length ≤ 8 := by rw [hv]; simp; omega
  have hvt : ∀ x ∈ v, x < 256 := by rw [hv]; exact fun x hx => hrt x (List.mem_of_mem_take hx)
  rw [← hu, ← hv]
  refine rgT ?_
  refine lo (lop_assign (E rfl)) rfl ?_
  refine leT ?_
  (refine ctlT ?_)
  refine lp (β := Nat) (fun j => ⟨[(0, .ro 4 (L.map (iv .any)) .any), (1, .ro 1 (u.map encU) .any), (2, .ro 1 (v.map encU) .any), (8, .int .i64 j)], []⟩) (fun j => j ≤ L.length ∧ ∀ y ∈ L.take j, mayN y = true) (fun j => L.length - j) 0 sgoT ⟨Nat.zero_le _, by simp⟩ ?_
  intro j ⟨hj, hjm⟩
  (refine ctlT ?_)
  refine rgT ?_
  refine lo (lop_move (E rfl)) rfl ?_
  refine lo (lop_move (E rfl)) rfl ?_
  refine z14 ?_
  refine lo (lop_lss (E rfl) (E rfl)) rfl ?_
  refine leT ?_
  (refine ctlT ?_)
  refine sw_cond rfl (fun g6 => ?_) (fun g6 => ?_)
  · have hlt : j < L.length := by simp at g6; omega
    obtain ⟨x, hx⟩ : ∃ x, L[j]? = some x := ⟨_, List.getElem?_eq_getElem hlt⟩
    have hxo := hLo x (List.mem_of_getElem? hx)
    (refine ctlT ?_)
    refine rgT ?_
    refine lo (lop_move (E rfl)) rfl ?_
    refine lo (lop_move (E rfl)) rfl ?_
    refine z15 ?_
    first | refine lo (lop_load_el_agg (E rfl) rfl (fun hc => by first | rfl | exact get_map (by assumption) | assumption | exact get_map (at_bang (by omega))) (fun _ => Nat.le_of_ble_eq_true rfl)) rfl ?_ | refine lo (lop_load_ow_agg (E rfl) rfl sgT (fun hc => by first | rfl | exact get_map (by assumption) | assumption | exact get_map (at_bang (by omega))) (fun _ => Nat.le_of_ble_eq_true rfl)) rfl ?_
    refine puA Try.call19 (ref_mayInstr .any x hxo) rfl pargsT nofT ?_
    refine lo (lop_not (E rfl)) rfl ?_
    refine leT ?_
    (refine ctlT ?_)
    refine sw_cond rfl (fun g8 => ?_) (fun g8 => ?_)
    · (refine ctlT ?_)
      refine rgT ?_
      refine lo (lop_assign (E rfl)) rfl ?_
      refine leT ?_
      (refine ctlT ?_)
      (apply aend; (exact resT))
      · rfl
      · (exact stleT)
    (refine ctlT ?_)
    refine rgT ?_
    refine lo (lop_move (E rfl)) rfl ?_
    refine z17 ?_
    refine lo (lop_assign (E rfl)) rfl ?_
    refine leT ?_
    (refine ctlT ?_)
    refine ⟨j + 1, ⟨hlt, may_next hjm hx (by simpa using g8)⟩, by show L.length - (j + 1) < L.length - j; omega, ?_⟩
    (exact sgoT)
  obtain rfl : j = L.length := by simp at g6; omega
  have hm : ∀ x ∈ L, x.Ok ∧ mayN x = true := fun x hx => ⟨hLo x hx, hjm x (by rw [List.take_length]; exact hx)⟩
  (refine ctlT ?_)
  refine rgT ?_
  refine lo (lop_move (E rfl)) rfl ?_
  refine cw [] Try.call31 (ref_match L (by omega)) rfl argsleT stleT ?_
  rintro _ σ' ⟨q5, rfl, rfl⟩ h38
  (apply rs_sto; (exact nflT))
  refine lo (lop_move (E rfl)) rfl ?_
  refine lo (lop_extract (E rfl) rfl) rfl ?_
  refine lo (lop_extract (E rfl) rfl) rfl ?_
  refine lo (lop_assign (E rfl)) rfl ?_
  refine lo (lop_assign (E rfl)) rfl ?_
  refine leT ?_
  (refine ctlT ?_)
  refine rgT ?_
  refine lo (lop_move (E rfl)) rfl ?_
  refine lo (lop_not (E rfl)) rfl ?_
  refine leT ?_
  (refine ctlT ?_)
  refine sw_cond rfl (fun g11 => ?_) (fun g11 => ?_)
  · (refine ctlT ?_)
    refine rgT ?_
    refine lo (lop_assign (E rfl)) rfl ?_
    refine leT ?_
    (refine ctlT ?_)
    (apply aend; (exact resT))
    · rfl
    · (exact stleT)
  have hok : okN (opsOf L) = true := by simpa using g11
  have hpl := putL_len hm
  have hpt := putL_lt hm
  have hback := getC_back hm hok v
  (refine ctlT ?_)
  refine rgT ?_
  refine lo (lop_move (E rfl)) rfl ?_
  refine anA ((u).map encU) (u).length ?_
  refine freshT fun r44 h44 => ?_; (repeat (rcases h44 with ⟨_, h44⟩))
  refine lo (lop_move (E rfl)) rfl ?_
  refine cw [(r44, .arr 5 1 (u.map encU))] Try.call35 (code_put r44 u (by omega) L (by omega) hm) rfl argsleT stleT ?_
  rintro _ σ' ⟨r46, rfl, rfl⟩ h46
  have k46 := rest1T h46; (repeat (rcases k46 with ⟨_, k46⟩))
  (apply rs_sto; (exact nflT))
  refine lo (lop_assign (E rfl)) rfl ?_
  refine leT ?_
  (refine ctlT ?_)
  refine rgD [(0, true), (1, true), (2, true), (3, true), (4, true), (5, false), (6, true), (7, true), (8, true)] ?_
  refine dlo rfl (lop_move (E rfl)) rfl ?_
  first | refine dlo rfl (lop_bytes_ro (E rfl)) rfl ?_ | refine dlo rfl (lop_text_own (E rfl)) rfl ?_
  refine dlo rfl (lop_move (E rfl)) rfl ?_
  first | refine dlo rfl (lop_bytes_ro (E rfl)) rfl ?_ | refine dlo rfl (lop_text_own (E rfl)) rfl ?_
  refine dlo rfl (lop_move (E rfl)) rfl ?_
  refine dclA rfl Try.call36 (ref_putBody L (by omega) hm) rfl bargsT noT ?_
  rintro _ σ' ⟨r52, rfl, rfl⟩ h52
  replace h52 := lnewT h52; (repeat (rcases h52 with ⟨_, h52⟩))
  (apply rd_sto; (exact nflT))
  generalize hP : putL L = P at hpl hpt hback ⊢
  first | refine dlo rfl (lop_bytes_ro (E rfl)) rfl ?_ | refine dlo rfl (lop_text_own (E rfl)) rfl ?_
  first | refine dlo rfl (lop_tadd (E rfl) (E rfl)) rfl ?_ | refine dlo rfl (lop_sadd (E rfl) (E rfl) (fun _ => by omega)) rfl ?_
  refine dlo rfl (lop_sneq (E rfl) (E rfl)) rfl ?_
  refine deT ?_
  (refine ctlT ?_)
  have hutP := lt_app hut hpt
  rw [strU_inj hutP hutP, decide_eq_true rfl]
  (refine ctlT ?_)
  refine rgT ?_
  refine lo (lop_move (E rfl)) rfl ?_
  refine lo (lop_move (E rfl)) rfl ?_
  refine z14 ?_
  have hlen : (u ++ P).length = u.length + P.length := List.length_append
  first | refine lo (lop_slice_ro (E rfl) (OB.some (E rfl) (fun _ => by first | rfl | exact (Int.toNat_of_nonneg (by omega)).symm)) OB.none (fun _ => by first | (simp only [List.length_map]; omega) | omega)) rfl ?_ | refine lo (lop_slice_own (E rfl) sgT (OB.some (E rfl) (fun _ => by first | rfl | exact (Int.toNat_of_nonneg (by omega)).symm)) OB.none (fun _ => by first | (simp only [List.length_map]; omega) | omega)) rfl ?_
  refine anA (P.map encU) P.length ?_ (he := by rw [List.map_append, List.drop_append_of_le_length (by simp), List.drop_of_length_le (by simp), List.nil_append]; exact List.take_of_length_le (by simp)) (hl := by simp)
  refine freshT fun r61 h61 => ?_; (repeat (rcases h61 with ⟨_, h61⟩))
  refine lo (lop_move (E rfl)) rfl ?_
  refine apA ((P ++ v).map encU) (P ++ v).length ?_
  refine apnT fun r63 h63 => ?_; (repeat (rcases h63 with ⟨_, h63⟩))
  refine fzv (j := 63) rfl sdelT (bor_own sgT (by simp)) ?_
  refine cw [] Try.call37 (code_get (P ++ v) (by simp; omega) (lt_app hpt hvt)) rfl argsleT stleT ?_
  rintro _ σ' ⟨q64, rfl, rfl⟩ h64
  rw [hback]
  dsimp only
  (apply rs_sto; (exact nflT))
  refine lo (lop_move (E rfl)) rfl ?_
  refine lo (lop_extract (E rfl) rfl) rfl ?_
  refine lo (lop_extract (E rfl) rfl) rfl ?_
  refine lo (lop_extract (E rfl) rfl) rfl ?_
  refine lo (lop_assign (E rfl)) rfl ?_
  refine lo (lop_assign (E rfl)) rfl ?_
  refine lo (lop_assign (E rfl)) rfl ?_
  refine leT ?_
  (refine ctlT ?_)
  refine rgT ?_
  refine lo (lop_move (E rfl)) rfl ?_
  refine lo (lop_eql (E rfl) (E rfl)) rfl ?_
  refine lo (lop_move (E rfl)) rfl ?_
  first | refine ln rfl rfl rfl rfl ?_ | (refine gy rfl rfl ?_; refine lo (lop_move (E rfl)) rfl ?_) | refine lg rfl rfl (lop_move (E rfl)) rfl ?_
  first | refine ln rfl rfl rfl rfl ?_ | (refine gy rfl rfl ?_; refine lo (lop_move (E rfl)) rfl ?_) | refine lg rfl rfl (lop_move (E rfl)) rfl ?_
  first | refine ln rfl rfl rfl rfl ?_ | (refine gy rfl rfl ?_; (first | refine lo (lop_len_map (by first | exact W rfl id | exact E rfl)) rfl ?_ | refine lo (lop_len_ro (by first | exact W rfl id | exact E rfl)) rfl ?_ | refine lo (lop_len_own (by first | exact W rfl id | exact E rfl)) rfl ?_)) | refine lg rfl rfl (lop_len_map (by first | exact W rfl id | exact E rfl)) rfl ?_ | refine lg rfl rfl (lop_len_ro (by first | exact W rfl id | exact E rfl)) rfl ?_ | refine lg rfl rfl (lop_len_own (by first | exact W rfl id | exact E rfl)) rfl ?_
  first | refine ln rfl rfl rfl rfl ?_ | (refine gy rfl rfl ?_; refine lo (lop_move (E rfl)) rfl ?_) | refine lg rfl rfl (lop_move (E rfl)) rfl ?_
  first | refine ln rfl rfl rfl rfl ?_ | (refine gy rfl rfl ?_; (first | refine lo (lop_len_map (by first | exact W rfl id | exact E rfl)) rfl ?_ | refine lo (lop_len_ro (by first | exact W rfl id | exact E rfl)) rfl ?_ | refine lo (lop_len_own (by first | exact W rfl id | exact E rfl)) rfl ?_)) | refine lg rfl rfl (lop_len_map (by first | exact W rfl id | exact E rfl)) rfl ?_ | refine lg rfl rfl (lop_len_ro (by first | exact W rfl id | exact E rfl)) rfl ?_ | refine lg rfl rfl (lop_len_own (by first | exact W rfl id | exact E rfl)) rfl ?_
  first | refine ln rfl rfl rfl rfl ?_ | (refine gy rfl rfl ?_; (first | refine lo (lop_sub64 (by first | exact W rfl id | exact E rfl) (by first | exact W rfl id | exact E rfl) (by omega) (by omega)) rfl ?_ | refine lo (lop_sub (by first | exact W rfl id | exact E rfl) (by first | exact W rfl id | exact E rfl)) rfl ?_)) | refine lg rfl rfl (lop_sub64 (by first | exact W rfl id | exact E rfl) (by first | exact W rfl id | exact E rfl) (by omega) (by omega)) rfl ?_ | refine lg rfl rfl (lop_sub64c (by first | exact W rfl id | exact E rfl) (by first | exact W rfl id | exact E rfl) (fun hc => by simp at hc <;> first | omega | (have hov := hov hc; omega))) rfl ?_ | refine lg rfl rfl (lop_sub (by first | exact W rfl id | exact E rfl) (by first | exact W rfl id | exact E rfl)) rfl ?_
  first | refine ln rfl rfl rfl rfl ?_ | (refine gy rfl rfl ?_; refine lo (lop_eql (by first | exact W rfl id | exact E rfl) (by first | exact W rfl id | exact E rfl)) rfl ?_) | refine lg rfl rfl (lop_eql (by first | exact W rfl id | exact E rfl) (by first | exact W rfl id | exact E rfl)) rfl ?_
  rw [show ((((P.length : Nat) : Int)) == (((u ++ P).length : Nat) : Int) - ((u.length : Nat) : Int)) = true by rw [hlen]; simp; omega]
  refine z68 ?_
  refine lo (lop_move (E rfl)) rfl ?_
  first | refine ln rfl rfl rfl rfl ?_ | (refine gy rfl rfl ?_; refine lo (lop_move (E rfl)) rfl ?_) | refine lg rfl rfl (lop_move (E rfl)) rfl ?_
  first | refine ln rfl rfl rfl rfl ?_ | (refine gy rfl rfl ?_; refine lo (lop_move (E rfl)) rfl ?_) | refine lg rfl rfl (lop_move (E rfl)) rfl ?_
  refine gy rfl rfl ?_
  refine puA Try.call38 (ref_eqBody .any .any L L (by omega) (by omega)) rfl pargsT nofT ?_
  rw [show eqB L L = true by simp [eqB]]
  refine z68 ?_
  refine lo (lop_assign (E rfl)) rfl ?_
  refine leT ?_
  (refine ctlT ?_)
  (apply aend; (exact resT))
  · rfl
  · (exact stleT)
theorem law_codeBack2 (l : List Ins) (h r : List Int) (hl : l.length ≤ maxLen ∧ ∀ x ∈ l, x.Wf) (hh : h.length ≤ maxLen ∧ ∀ a ∈ h, U8 a) (hr : r.length ≤ maxLen ∧ ∀ a ∈ r, U8 a) : SCall Try.prog 10 [.ro 4 (l.map (iv .any)) .any, .ro 1 (h.map encU8) .any, .ro 1 (r.map encU8) .any] [] (fun x _ => x = .bool true) := by
  obtain ⟨u, -, h1, h2, h3⟩ := nats hh
  obtain ⟨v, -, k1, k2, k3⟩ := nats hr
  rw [h3, k3]
  exact law_codeBack l hl.1 hl.2 u v h1 h2 k1 k2
end Go.Proofs.Ytkjfflabapeidaa
