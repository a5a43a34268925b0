/-
  InstrOps.
-/
import Derived.Test.YtkjfflabapeidaaInstrO
namespace Go.Proofs.Ytkjfflabapeidaa
open Go.RowKit Go.ChangeShapes Go.WideShapes Go.ChangeAt Go.Deep
set_option linter.unusedSimpArgs false
set_option linter.unusedVariables false
attribute [local irreducible] SW RS RD AThen ABlock

theorem getP_none {op : Nat} {rest : List Nat} (h : formN (op : Int) = 0) : getP ([op] ++ rest) = (ins0, 0, 1) := by
  unfold getP
  rw [rdB_at (r := rest) (b := op) (by rfl)]
  dsimp only
  rw [h]
  rfl
set_option maxRecDepth 100000 in
theorem law_instrOps (op : Int) (hop : -9223372036854775808 ≤ op ∧ op ≤ 9223372036854775807) (rest : List Nat) (hr : rest.length ≤ maxLen) (hrt : ∀ x ∈ rest, x < 256) : SCall Try.prog 5 [.int .i64 op, .ro 1 (rest.map encU) .any] [] (fun x _ => x = .bool true) := by
  refine scall_of (n := 49) (ks := [0, 1, 4, 5, 8, 11, 19]) Try.func5 rfl rfl (Nat.le_of_ble_eq_true rfl) ?_
  (refine ctlT ?_)
  refine rgT ?_
  refine lo (lop_assign (E rfl)) rfl ?_
  refine leT ?_
  (refine ctlT ?_)
  refine rgT ?_
  (first | refine pu [] Try.call16 law_begun5 rfl argsT nofT ?_ | refine pug [] rfl rfl Try.call16 (fun _ => law_begun5) rfl argsT nofT ?_)
  refine lo (lop_assign (E rfl)) rfl ?_
  refine leT ?_
  (refine ctlT ?_)
  refine rgT ?_
  refine lo (lop_move (E rfl)) rfl ?_
  refine lo (lop_not (E rfl)) rfl ?_
  refine leT ?_
  (refine ctlT ?_)
  refine rgT ?_
  refine lo (lop_move (E rfl)) rfl ?_
  refine cw [] Try.call18 (law_short rest hr 20) rfl ?_ ?_ ?_
  · (exact argsleT)
  · (exact stleT)
  rintro _ σ' ⟨rfl, rfl⟩ -
  (apply rs_sto; (exact nflT))
  refine lo (lop_assign (E rfl)) rfl ?_
  refine leT ?_
  (refine ctlT ?_)
  obtain ⟨u, hu⟩ : ∃ u, u = rest.take 20 := ⟨_, rfl⟩
  have hul : u.length ≤ 20 := by rw [hu]; simp; omega
  have hut : ∀ x ∈ u, x < 256 := by rw [hu]; exact fun x hx => hrt x (List.mem_of_mem_take hx)
  rw [← hu]
  refine rgT ?_
  refine lo (lop_move (E rfl)) rfl ?_
  refine lo (lop_lss (E rfl) (E rfl)) rfl ?_
  refine lo (lop_move (E rfl)) rfl ?_
  refine z4 ?_
  refine z18 ?_
  refine z13 ?_
  refine leT ?_
  (refine ctlT ?_)
  refine sw_cond rfl (fun h => ?_) (fun h => ?_)
  · have hm : mayN ⟨op, 0, 0, []⟩ = false := by
      refine may_none ?_
      by_cases h0 : formN op = 0
      · exact h0
      · have := form_op h0
        simp at h
        omega
    (refine ctlT ?_)
    refine rgT ?_
    refine lo (lop_move (E rfl)) rfl ?_
    refine z93 ?_
    refine pu [] Try.call20 (instr_may .any ⟨op, 0, 0, []⟩) rfl ?_ nofT ?_
    · unfold iv; (exact pargsT)
    rw [hm]
    refine lo (lop_not (E rfl)) rfl ?_
    refine lo (lop_assign (E rfl)) rfl ?_
    refine leT ?_
    (refine ctlT ?_)
    (apply aend; (exact resT))
    · rfl
    · (exact stleT)
  have hb : 0 ≤ op ∧ op ≤ 255 := by simp at h; omega
  obtain ⟨o, rfl⟩ := Int.eq_ofNat_of_zero_le hb.1
  have hlen : ([o] ++ u).length ≤ 1000000 := by simp; omega
  have hall : ∀ x ∈ [o] ++ u, x < 256 := by intro x hx; rcases List.mem_append.1 hx with hx | hx; (simp at hx; omega); exact hut x hx
  (refine ctlT ?_)
  refine rgT ?_
  refine lo (lop_move (E rfl)) rfl ?_
  refine z0 ?_
  refine z1 ?_; refine freshT fun r27 h27 => ?_; (repeat (rcases h27 with ⟨_, h27⟩))
  rw [show ([[.int .u8 (o : Int)]] : List (List AV)) = [o].map encU from rfl, show AV.own r27 0 1 = AV.own r27 0 [o].length from rfl]
  refine lo (lop_move (E rfl)) rfl ?_
  apply ap (es' := ([o] ++ u).map encU) (len' := ([o] ++ u).length); rfl; rfl; (exact sgT)
  · simp
  · exact .inl ⟨_, rfl⟩
  · simp [encU]
  · simp; try omega
  · simp [maxLen]; try omega
  · simp; try omega
  · rfl
  refine apnT fun r29 h29 => ?_; (repeat (rcases h29 with ⟨_, h29⟩))
  refine cl [r29] Try.call25 (instr_get ([o] ++ u) hlen hall) rfl ?_ ?_ ?_
  · (exact bargsT)
  · rintro x σ' ⟨q, rfl, rfl⟩
    exact get_noF
  have hne : formN (o : Int) ≠ 0 ∨ (getP ([o] ++ u)).2.2 = 1 := by
    by_cases h0 : formN (o : Int) = 0
    · right; rw [getP_none h0]
    · exact .inl h0
  generalize getP ([o] ++ u) = g at hne ⊢
  obtain ⟨y, n, e⟩ := g
  rintro _ σ' ⟨q, rfl, rfl⟩ hq
  replace hq := lnewT hq; (repeat (rcases hq with ⟨_, hq⟩))
  (apply rs_sto; (exact nflT))
  unfold io
  dsimp only at hne ⊢
  refine lo (lop_move (E rfl)) rfl ?_
  refine lo (lop_extract (E rfl) rfl) rfl ?_
  refine lo (lop_extract (E rfl) rfl) rfl ?_
  refine lo (lop_extract (E rfl) rfl) rfl ?_
  apply al; rfl; (exact zcT); refine freshT fun r6 h6 => ?_; (repeat (rcases h6 with ⟨_, h6⟩))
  apply stp; rfl; rfl; rfl; rfl; (exact sputT)
  refine lo (lop_assign (E rfl)) rfl ?_
  refine lo (lop_assign (E rfl)) rfl ?_
  refine leT ?_
  (refine ctlT ?_)
  refine rgT ?_
  refine lo (lop_move (E rfl)) rfl ?_
  (first | refine pu [] Try.call27 (ref_formN (o : Int) hop) rfl argsT nofT ?_ | refine pug [] rfl rfl Try.call27 (fun _ => (ref_formN (o : Int) hop)) rfl argsT nofT ?_)
  refine lo (lop_neq (E rfl) (E rfl)) rfl ?_
  refine lo (lop_move (E rfl)) rfl ?_
  refine z4 ?_
  refine z6 ?_
  refine z13 ?_
  refine lo (lop_move (E rfl)) rfl ?_
  have ht : (if (formN (o : Int) != 0) = true then true else e == 1) = true := by
    rcases hne with h1 | rfl
    · simp [h1]
    · simp
  rw [ht]
  refine z101 ?_
  refine z107 ?_
  refine z108 ?_; refine freshT fun r44 h44 => ?_; (repeat (rcases h44 with ⟨_, h44⟩))
  refine z101 ?_
  rw [show ([[.int .u8 (o : Int)]] : List (List AV)) = [o].map encU from rfl, show AV.own r44 0 1 = AV.own r44 0 [o].length from rfl]
  refine gy rfl rfl ?_
  apply ap (es' := ([o] ++ u).map encU) (len' := ([o] ++ u).length); rfl; rfl; (exact sgT)
  · simp
  · exact .inl ⟨_, rfl⟩
  · simp [encU]
  · simp; try omega
  · simp [maxLen]; try omega
  · simp; try omega
  · rfl
  refine apnT fun r46 h46 => ?_; (repeat (rcases h46 with ⟨_, h46⟩))
  refine gy rfl rfl ?_
  refine pu [r46] Try.call26 (law_tells ([o] ++ u) hlen hall) rfl ?_ nofT ?_
  · (exact pargsT)
  refine z103 ?_
  refine lo (lop_assign (E rfl)) rfl ?_
  refine leT ?_
  (refine ctlT ?_)
  (apply aend; (exact resT))
  · rfl
  · (exact stleT)
end Go.Proofs.Ytkjfflabapeidaa
