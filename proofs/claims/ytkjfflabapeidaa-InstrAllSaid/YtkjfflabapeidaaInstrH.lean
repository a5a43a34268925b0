/-
  A block's kind; the program's Get.
-/
import Derived.Test.YtkjfflabapeidaaInstrG
namespace Go.Proofs.Ytkjfflabapeidaa
open Go.RowKit Go.ChangeShapes Go.WideShapes Go.ChangeAt Go.Deep
set_option linter.unusedSimpArgs false
set_option linter.unusedVariables false
attribute [local irreducible] SW RS RD AThen ABlock

def kindI (c : Nat) : Int := idxN [64, 127, 126] c
def rdK (l : List Nat) (n : Nat) (e : Int) : Int × Nat × Int :=
  if (if decide (kindI (rdB l n e).1 < 0) = true then ((rdB l n e).2.2 == 0) else false) = true then (if kindI (rdB l n e).1 < 0 then 0 else kindI (rdB l n e).1, (rdB l n e).2.1, 1) else (if kindI (rdB l n e).1 < 0 then 0 else kindI (rdB l n e).1, (rdB l n e).2.1, (rdB l n e).2.2)
set_option maxRecDepth 100000 in
theorem rdr_kind (r : Nat) (l : List Nat) (hl : l.length ≤ 1000000) (hlt : ∀ x ∈ l, x < 256) (n : Nat) (hn : n ≤ l.length) (e : Int) : SCall Try.prog 51 [.ptr r 0] [(r, .box 81 (rv l n e))]
    (fun x σ => x = .int .i64 (rdK l n e).1 ∧ σ = [(r, .box 81 (rv l (rdK l n e).2.1 (rdK l n e).2.2))]) := by
  refine scall_of (n := 24) (ks := [0, 2, 3, 4, 18]) Try.func51 rfl rfl (Nat.le_of_ble_eq_true rfl) ?_
  unfold rv
  (refine ctlT ?_)
  refine rgT ?_
  refine lo (lop_assign (E rfl)) rfl ?_
  refine leT ?_
  (refine ctlT ?_)
  refine rgT ?_
  refine lo (lop_move (E rfl)) rfl ?_
  refine cw [(r, .box 81 (rv l n e))] Try.call50 (rdr_byte r l hl hlt n hn e) rfl ?_ ?_ ?_
  · (exact argsleT)
  · (exact stleT)
  rintro _ σ' ⟨rfl, rfl⟩ -
  (apply rs_sto; (exact nflT))
  refine lo (lop_assign (E rfl)) rfl ?_
  refine leT ?_
  (refine ctlT ?_)
  unfold rv
  refine rgT ?_
  refine z1 ?_; refine freshT fun r7 h7 => ?_; (repeat (rcases h7 with ⟨_, h7⟩))
  refine lo (lop_move (E rfl)) rfl ?_
  rw [show ([[.int .i64 64], [.int .i64 127], [.int .i64 126]] : List (List AV)) = [64, 127, 126].map encI from rfl]
  refine pu [r7] Try.call62 (lib_index_int (k := .any) [64, 127, 126] ((rdB l n e).1 : Nat)) rfl ?_ nofT ?_
  · (exact pargsT)
  refine lo (lop_assign (E rfl)) rfl ?_
  refine leT ?_
  (refine ctlT ?_)
  rw [show idxN [64, 127, 126] ((rdB l n e).1 : Nat) = kindI (rdB l n e).1 from rfl]
  refine rgT ?_
  refine lo (lop_move (E rfl)) rfl ?_
  refine lo (lop_lss (E rfl) (E rfl)) rfl ?_
  refine lo (lop_move (E rfl)) rfl ?_
  refine z4 ?_
  refine z91 ?_
  refine z92 ?_
  refine z62 ?_
  refine z6 ?_
  refine z7 ?_
  refine leT ?_
  (refine ctlT ?_)
  refine sw_cond rfl (fun g1 => ?_) (fun g1 => ?_)
  · (refine ctlT ?_)
    refine rgT ?_
    refine lo (lop_move (E rfl)) rfl ?_
    refine z76 ?_
    refine z59 ?_
    apply stp; rfl; rfl; rfl; rfl; (exact sputT)
    refine leT ?_
    (refine ctlT ?_)
    refine rgT ?_
    refine lo (lop_move (E rfl)) rfl ?_
    refine lo (lop_max (E rfl) (E rfl)) rfl ?_
    refine lo (lop_assign (E rfl)) rfl ?_
    refine leT ?_
    (refine ctlT ?_)
    (apply aend; (exact resT))
    · (unfold rdK; simp only [g1, if_true, if_false, Bool.false_eq_true]; exact ⟨rfl, rfl⟩)
    · (exact stleT)
  (refine ctlT ?_)
  refine rgT ?_
  refine lo (lop_move (E rfl)) rfl ?_
  refine lo (lop_max (E rfl) (E rfl)) rfl ?_
  refine lo (lop_assign (E rfl)) rfl ?_
  refine leT ?_
  (refine ctlT ?_)
  (apply aend; (exact resT))
  · (unfold rdK; simp only [g1, if_true, if_false, Bool.false_eq_true]; exact ⟨rfl, rfl⟩)
  · (exact stleT)
end Go.Proofs.Ytkjfflabapeidaa
