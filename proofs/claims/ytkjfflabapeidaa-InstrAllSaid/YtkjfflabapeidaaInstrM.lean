/-
  What the statements of instructions call: tells.
-/
import Derived.Test.YtkjfflabapeidaaInstrL
namespace Go.Proofs.Ytkjfflabapeidaa
open Go.RowKit Go.ChangeShapes Go.WideShapes Go.ChangeAt Go.Deep
set_option linter.unusedSimpArgs false
set_option linter.unusedVariables false
attribute [local irreducible] SW RS RD AThen ABlock

theorem eqN_self (x : Ins) : eqN x x = true := by unfold eqN; simp
set_option maxRecDepth 100000 in
theorem law_tells (l : List Nat) (hl : l.length ≤ 1000000) (hlt : ∀ x ∈ l, x < 256) : SCall Try.prog 26 [.ro 1 (l.map encU) .any] [] (fun x σ => x = .bool true ∧ σ = []) := by
  refine scall_of (n := 34) (ks := [0, 2, 3, 4, 5, 6, 7, 8]) Try.func26 rfl rfl (Nat.le_of_ble_eq_true rfl) ?_
  have h1 := instr_get l hl hlt
  have h2 := ref_getInstr l hl hlt
  rw [getR_eq] at h2
  generalize getP l = g at h1 h2
  obtain ⟨x, n, e⟩ := g
  (refine ctlT ?_)
  refine rgT ?_
  refine lo (lop_assign (E rfl)) rfl ?_
  refine leT ?_
  (refine ctlT ?_)
  refine rgT ?_
  refine lo (lop_move (E rfl)) rfl ?_
  refine cw [] Try.call25 h1 rfl ?_ ?_ ?_
  · (exact argsleT)
  · (exact stleT)
  rintro _ σ' ⟨q, rfl, rfl⟩ hq
  replace hq := cnewT hq; (repeat (rcases hq with ⟨_, hq⟩))
  (apply rs_sto; (exact nflT))
  unfold io
  refine lo (lop_move (E rfl)) rfl ?_
  refine lo (lop_extract (E rfl) rfl) rfl ?_
  refine lo (lop_extract (E rfl) rfl) rfl ?_
  refine lo (lop_extract (E rfl) rfl) rfl ?_
  apply al; rfl; (exact zcT); refine freshT fun r3 h3 => ?_; (repeat (rcases h3 with ⟨_, h3⟩))
  apply stp; rfl; rfl; rfl; rfl; (exact sputT)
  refine lo (lop_assign (E rfl)) rfl ?_
  refine lo (lop_assign (E rfl)) rfl ?_
  refine leT ?_
  (refine ctlT ?_)
  refine rgT ?_
  refine lo (lop_move (E rfl)) rfl ?_
  refine cw [] Try.call55 h2 rfl ?_ ?_ ?_
  · (exact argsleT)
  · (exact stleT)
  rintro _ σ' ⟨p, rfl, rfl⟩ hp
  replace hp := cnewT hp; (repeat (rcases hp with ⟨_, hp⟩))
  (apply rs_sto; (exact nflT))
  unfold io
  refine lo (lop_move (E rfl)) rfl ?_
  refine lo (lop_extract (E rfl) rfl) rfl ?_
  refine lo (lop_extract (E rfl) rfl) rfl ?_
  refine lo (lop_extract (E rfl) rfl) rfl ?_
  apply al; rfl; (exact zcT); refine freshT fun r6 h6 => ?_; (repeat (rcases h6 with ⟨_, h6⟩))
  apply stp; rfl; rfl; rfl; rfl; (exact sputT)
  refine lo (lop_assign (E rfl)) rfl ?_
  refine lo (lop_assign (E rfl)) rfl ?_
  refine leT ?_
  (refine ctlT ?_)
  refine rgT ?_
  refine z99 ?_
  refine z99 ?_
  refine pu [q, p] Try.call22 (ref_eqInstr .any .any x x) rfl ?_ nofT ?_
  · unfold iv; (exact pargsT)
  rw [eqN_self]
  refine lo (lop_move (E rfl)) rfl ?_
  refine z4 ?_
  refine z4 ?_
  refine z70 ?_
  refine z7 ?_
  refine lo (lop_move (E rfl)) rfl ?_
  refine z4 ?_
  refine z4 ?_
  refine z70 ?_
  refine z7 ?_
  refine lo (lop_assign (E rfl)) rfl ?_
  refine leT ?_
  (refine ctlT ?_)
  (apply aend; (exact resT))
  · refine ⟨?_, rfl⟩
    simp [resAV]
  · (exact stleT)
end Go.Proofs.Ytkjfflabapeidaa
