/-
  What the statements of instructions call: begun.
-/
import Derived.Test.YtkjfflabapeidaaInstrN
namespace Go.Proofs.Ytkjfflabapeidaa
open Go.RowKit Go.ChangeShapes Go.WideShapes Go.ChangeAt Go.Deep
set_option linter.unusedSimpArgs false
set_option linter.unusedVariables false
attribute [local irreducible] SW RS RD AThen ABlock

theorem bytes_noF {l : List Nat} : ∀ e ∈ l.map encU, ∀ x ∈ e, NoF x := by
  intro e he x hx
  obtain ⟨n, -, rfl⟩ := List.mem_map.1 he
  simp [encU] at hx
  subst hx
  exact NoF.int
theorem ints_noF {l : List Int} : ∀ e ∈ l.map encI, ∀ x ∈ e, NoF x := by
  intro e he x hx
  obtain ⟨n, -, rfl⟩ := List.mem_map.1 he
  simp [encI] at hx
  subst hx
  exact NoF.int
theorem get_noF {q n : Nat} {x : Ins} {e : Int} : NoF (.tup [.agg (io q x), .int .i64 n, .int .i64 e]) ∧ ∀ p ∈ [(q, Ent.arr 3 1 (x.l.map encI))], ENoF p.2 := by
  refine ⟨?_, ?_⟩
  · unfold io; exact nofT
  · simp only [List.mem_singleton, forall_eq]
    exact ints_noF
def x5 : Ins := ⟨14, 2, 0, [0, 300]⟩
theorem x5_ok : x5.Ok := by unfold x5 Ins.Ok; simp
theorem x5_may : mayN x5 = true := by decide
theorem x5_put : putN x5 = [14, 2, 0, 172, 2, 2] := by
  have h1 : uB 2 = [2] := uB_lo (by decide)
  have h2 : uB 0 = [0] := uB_lo (by decide)
  have h3 : uB 300 = [172, 2] := by rw [uB_hi (by decide), show 300 / 128 = 2 by decide, h1]
  have hf : formN 14 = 4 := by decide
  simp [putN, putT, x5, hf, h1, h2, h3]
theorem get_a : getP [65, 128] = (ins0, 0, 2) := rfl
theorem get_b : getP [6] = (ins0, 0, 1) := rfl
theorem get_c : getP ([14, 2, 0, 172, 2, 2] ++ [9]) = (x5, 6, 0) := by
  have := get_put x5_ok x5_may [9]
  rw [x5_put] at this
  exact this
set_option maxRecDepth 100000 in
theorem law_begun5 : SCall Try.prog 16 [] [] (fun x σ => x = .bool true ∧ σ = []) := by
  refine scall_of (n := 76) (ks := [0, 1, 2, 3, 4, 5, 8, 11]) Try.func16 rfl rfl (Nat.le_of_ble_eq_true rfl) ?_
  (refine ctlT ?_)
  refine rgT ?_
  refine lo (lop_assign (E rfl)) rfl ?_
  refine leT ?_
  (refine ctlT ?_)
  refine rgT ?_
  refine z1 ?_; refine freshT fun r12 h12 => ?_; (repeat (rcases h12 with ⟨_, h12⟩))
  refine z93 ?_
  apply al; rfl; (exact zcT); refine freshT fun r1 h1 => ?_; (repeat (rcases h1 with ⟨_, h1⟩))
  apply stp; rfl; rfl; rfl; rfl; (exact sputT)
  refine leT ?_
  (refine ctlT ?_)
  rw [show ([[.int .i64 0], [.int .i64 300]] : List (List AV)) = [0, 300].map encI from rfl]
  refine rgT ?_
  refine z99 ?_
  refine cl [r12] Try.call23 (nil_put .any x5 x5_ok x5_may) rfl ?_ ?_ ?_
  · unfold iv x5; (exact bargsT)
  · rintro x σ' ⟨r, rfl, rfl⟩
    refine ⟨NoF.own, ?_⟩
    simp only [List.mem_singleton, forall_eq]
    exact bytes_noF
  rintro _ σ' ⟨b, rfl, rfl⟩ hb
  replace hb := lnewT hb; (repeat (rcases hb with ⟨_, hb⟩))
  rw [x5_put]
  (apply rs_sto; (exact nflT))
  refine lo (lop_assign (E rfl)) rfl ?_
  refine leT ?_
  (refine ctlT ?_)
  rw [show [encU 14, encU 2, encU 0, encU 172, encU 2, encU 2] = [14, 2, 0, 172, 2, 2].map encU from rfl, show [encI 0, encI 300] = [0, 300].map encI from rfl]
  refine rgT ?_
  refine lo (lop_move (E rfl)) rfl ?_
  refine rs_heavy (hop_append_new (e := 5) (sz := 1) (ys := [14, 2, 0, 172, 2, 2].map encU) (by decide) rfl (x := .const (.slice none 0 0)) (z := 0) (k := .nil) rfl (by decide) (.inr (.inr ⟨_, _, _, _, _, rfl, sgT, by simp, rfl⟩)) (by simp) (lt_ble rfl) fun r18 h18 => ?_)
  simp only [fresh_cons, fresh_nil, and_true] at h18; (repeat (rcases h18 with ⟨_, h18⟩))
  refine z1 ?_; refine freshT fun r19 h19 => ?_; (repeat (rcases h19 with ⟨_, h19⟩))
  apply ap (es' := ([14, 2, 0, 172, 2, 2] ++ [9]).map encU) (len' := ([14, 2, 0, 172, 2, 2] ++ [9]).length); rfl; rfl; (exact sgT)
  · simp
  · exact .inr (.inr ⟨_, _, _, _, _, rfl, sgT, by simp, rfl⟩)
  · first | (simp [encU]; done) | (simp only [List.drop_zero, List.map_append]; congr 1; exact List.take_of_length_le (by simp))
  · simp; try omega
  · simp [maxLen]; try omega
  · simp; try omega
  · rfl
  refine apnT fun r20 h20 => ?_; (repeat (rcases h20 with ⟨_, h20⟩))

  refine cl [r20] Try.call25 (instr_get ([14, 2, 0, 172, 2, 2] ++ [9]) (by decide) (by decide)) rfl ?_ ?_ ?_
  · (exact bargsT)
  · rintro x σ' ⟨q, rfl, rfl⟩
    exact get_noF
  rw [get_c]
  rintro _ σ' ⟨q, rfl, rfl⟩ hq
  replace hq := lnewT hq; (repeat (rcases hq with ⟨_, hq⟩))
  (apply rs_sto; (exact nflT))
  unfold io x5
  refine lo (lop_move (E rfl)) rfl ?_
  refine lo (lop_extract (E rfl) rfl) rfl ?_
  refine lo (lop_extract (E rfl) rfl) rfl ?_
  refine lo (lop_extract (E rfl) rfl) rfl ?_
  apply al; rfl; (exact zcT); refine freshT fun r3 h3 => ?_; (repeat (rcases h3 with ⟨_, h3⟩))
  apply stp; rfl; rfl; rfl; rfl; (exact sputT)
  refine lo (lop_assign (E rfl)) rfl ?_
  refine lo (lop_assign (E rfl)) rfl ?_
  refine leT ?_
  (refine ctlT ?_)
  refine rgT ?_
  refine z1 ?_; refine freshT fun r26 h26 => ?_; (repeat (rcases h26 with ⟨_, h26⟩))
  rw [show ([[.int .u8 65], [.int .u8 128]] : List (List AV)) = [65, 128].map encU from rfl]
  refine cl [r26] Try.call25 (instr_get [65, 128] (by decide) (by decide)) rfl ?_ ?_ ?_
  · (exact bargsT)
  · rintro x σ' ⟨q, rfl, rfl⟩
    exact get_noF
  rw [get_a]
  rintro _ σ' ⟨q2, rfl, rfl⟩ hq2
  replace hq2 := lnewT hq2; (repeat (rcases hq2 with ⟨_, hq2⟩))
  (apply rs_sto; (exact nflT))
  unfold io ins0
  refine lo (lop_move (E rfl)) rfl ?_
  refine lo (lop_extract (E rfl) rfl) rfl ?_
  refine lo (lop_extract (E rfl) rfl) rfl ?_
  refine lo (lop_extract (E rfl) rfl) rfl ?_
  apply al; rfl; (exact zcT); refine freshT fun r6 h6 => ?_; (repeat (rcases h6 with ⟨_, h6⟩))
  apply stp; rfl; rfl; rfl; rfl; (exact sputT)
  refine lo (lop_assign (E rfl)) rfl ?_
  refine lo (lop_assign (E rfl)) rfl ?_
  refine leT ?_
  (refine ctlT ?_)
  refine rgT ?_
  refine z1 ?_; refine freshT fun r32 h32 => ?_; (repeat (rcases h32 with ⟨_, h32⟩))
  rw [show ([[.int .u8 6]] : List (List AV)) = [6].map encU from rfl]
  refine cl [r32] Try.call25 (instr_get [6] (by decide) (by decide)) rfl ?_ ?_ ?_
  · (exact bargsT)
  · rintro x σ' ⟨q, rfl, rfl⟩
    exact get_noF
  rw [get_b]
  rintro _ σ' ⟨q3, rfl, rfl⟩ hq3
  replace hq3 := lnewT hq3; (repeat (rcases hq3 with ⟨_, hq3⟩))
  (apply rs_sto; (exact nflT))
  unfold io ins0
  refine lo (lop_move (E rfl)) rfl ?_
  refine lo (lop_extract (E rfl) rfl) rfl ?_
  refine lo (lop_extract (E rfl) rfl) rfl ?_
  refine lo (lop_extract (E rfl) rfl) rfl ?_
  apply al; rfl; (exact zcT); refine freshT fun r9 h9 => ?_; (repeat (rcases h9 with ⟨_, h9⟩))
  apply stp; rfl; rfl; rfl; rfl; (exact sputT)
  refine lo (lop_assign (E rfl)) rfl ?_
  refine lo (lop_assign (E rfl)) rfl ?_
  refine leT ?_
  (refine ctlT ?_)
  dsimp only
  rw [show [encI 0, encI 300] = [0, 300].map encI from rfl]
  refine rgT ?_
  refine lo (lop_move (E rfl)) rfl ?_
  refine z14 ?_
  refine lo (lop_eql (E rfl) (E rfl)) rfl ?_
  refine lo (lop_move (E rfl)) rfl ?_
  refine z101 ?_
  refine z102 ?_
  refine z103 ?_
  refine lo (lop_move (E rfl)) rfl ?_
  refine z101 ?_
  refine z102 ?_
  refine z103 ?_
  refine lo (lop_move (E rfl)) rfl ?_
  refine z104 ?_
  refine z104 ?_
  refine gy rfl rfl ?_
  refine pu [r12, q] Try.call21 (instr_eq .any .any x5 x5) rfl ?_ nofT ?_
  · unfold iv x5; (exact pargsT)
  rw [eqN_self]
  refine z103 ?_
  refine lo (lop_move (E rfl)) rfl ?_
  refine z101 ?_
  refine z102 ?_
  refine z103 ?_
  refine lo (lop_move (E rfl)) rfl ?_
  refine z101 ?_
  refine z102 ?_
  refine z103 ?_
  refine lo (lop_move (E rfl)) rfl ?_
  refine z104 ?_
  refine gy rfl rfl ?_
  refine pu [r12] Try.call20 (instr_may .any x5) rfl ?_ nofT ?_
  · unfold iv x5; (exact pargsT)
  rw [x5_may]
  refine z103 ?_
  refine lo (lop_move (E rfl)) rfl ?_
  refine z105 ?_
  refine gy rfl rfl ?_
  refine pu [r12] Try.call20 (instr_may .any ⟨1, 1, 0, []⟩) rfl ?_ nofT ?_
  · unfold iv; (exact pargsT)
  rw [show mayN ⟨1, 1, 0, []⟩ = false by decide]
  refine z106 ?_
  refine z103 ?_
  refine lo (lop_move (E rfl)) rfl ?_
  refine z104 ?_
  refine z105 ?_
  refine gy rfl rfl ?_
  refine pu [r12] Try.call21 (instr_eq .any .any x5 ⟨1, 0, 0, []⟩) rfl ?_ nofT ?_
  · unfold iv x5; (exact pargsT)
  rw [show eqN x5 ⟨1, 0, 0, []⟩ = false by decide]
  refine z106 ?_
  refine z103 ?_
  refine lo (lop_assign (E rfl)) rfl ?_
  refine leT ?_
  (refine ctlT ?_)
  (apply aend; (exact resT))
  · exact ⟨rfl, rfl⟩
  · (exact stleT)
end Go.Proofs.Ytkjfflabapeidaa
