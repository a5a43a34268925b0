/-
  Instructions: which may be, which are the same.
-/
import Derived.Test.YtkjfflabapeidaaInstrB
namespace Go.Proofs.Ytkjfflabapeidaa
open Go.RowKit Go.ChangeShapes Go.WideShapes Go.ChangeAt Go.Deep
set_option linter.unusedSimpArgs false
set_option linter.unusedVariables false
attribute [local irreducible] SW RS RD AThen ABlock

structure Ins where
  op : Int
  a : Int
  b : Int
  l : List Int
/-- an instruction as parts; its list in words k -/
def iv (k : Rk) (x : Ins) : List AV := [.int .i64 x.op, .int .i64 x.a, .int .i64 x.b, .ro 1 (x.l.map encI) k]
def Ins.Ok (x : Ins) : Prop := -9223372036854775808 ≤ x.op ∧ x.op ≤ 9223372036854775807 ∧ -9223372036854775808 ≤ x.a ∧ x.a ≤ 9223372036854775807 ∧ x.l.length ≤ 1000000
set_option maxRecDepth 100000 in
theorem instr_between (n a b : Int) : SCall Try.prog 41 [.int .i64 n, .int .i64 a, .int .i64 b] [] (fun x σ => x = .bool (bt2 n a b) ∧ σ = []) := by
  refine scall_of (n := 15) (ks := [0, 1, 2, 6]) Try.func41 rfl rfl (Nat.le_of_ble_eq_true rfl) ?_
  (refine ctlT ?_)
  refine rgT ?_
  refine lo (lop_assign (E rfl)) rfl ?_
  refine leT ?_
  (refine ctlT ?_)
  refine rgT ?_
  refine lo (lop_move (E rfl)) rfl ?_
  refine lo (lop_move (E rfl)) rfl ?_
  refine lo (lop_geq (E rfl) (E rfl)) rfl ?_
  refine lo (lop_move (E rfl)) rfl ?_
  refine z4 ?_
  refine z4 ?_
  refine z54 ?_
  refine z7 ?_
  refine lo (lop_assign (E rfl)) rfl ?_
  refine leT ?_
  (refine ctlT ?_)
  (apply aend; (exact resT))
  · exact ⟨rfl, rfl⟩
  · (exact stleT)
set_option maxRecDepth 100000 in
theorem instr_small (n : Int) : SCall Try.prog 42 [.int .i64 n] [] (fun x σ => x = .bool (bt2 n 0 1000) ∧ σ = []) := by
  refine scall_of (n := 5) (ks := [0, 2]) Try.func42 rfl rfl (Nat.le_of_ble_eq_true rfl) ?_
  (refine ctlT ?_)
  refine rgT ?_
  refine lo (lop_assign (E rfl)) rfl ?_
  refine leT ?_
  (refine ctlT ?_)
  refine rgT ?_
  refine lo (lop_move (E rfl)) rfl ?_
  (first | refine ln rfl rfl rfl rfl ?_ | refine lw rfl rfl (lop_no (v := .bool false)) rfl ?_ | refine pu [] Try.call41 (instr_between _ _ _) rfl argsT nofT ?_ | refine pug [] rfl rfl Try.call41 (fun _ => (instr_between _ _ _)) rfl argsT nofT ?_ | refine puw [] rfl rfl Try.call41 (fun _ => (instr_between _ _ _)) rfl argsT nofT ?_)
  refine lo (lop_assign (E rfl)) rfl ?_
  refine leT ?_
  (refine ctlT ?_)
  (apply aend; (exact resT))
  · exact ⟨rfl, rfl⟩
  · (exact stleT)
set_option maxRecDepth 100000 in
theorem instr_not_small : Tells Try.prog 44 [] [] (fun n => !bt2 n 0 1000) := by
  refine ⟨Try.call44, fun n => ?_⟩
  refine scall_of (n := 6) (ks := [0, 2]) Try.func44 rfl rfl (Nat.le_of_ble_eq_true rfl) ?_
  (refine ctlT ?_)
  refine rgT ?_
  refine lo (lop_assign (E rfl)) rfl ?_
  refine leT ?_
  (refine ctlT ?_)
  refine rgT ?_
  refine lo (lop_move (E rfl)) rfl ?_
  (first | refine ln rfl rfl rfl rfl ?_ | refine lw rfl rfl (lop_no (v := .bool false)) rfl ?_ | refine pu [] Try.call42 (instr_small _) rfl argsT nofT ?_ | refine pug [] rfl rfl Try.call42 (fun _ => (instr_small _)) rfl argsT nofT ?_ | refine puw [] rfl rfl Try.call42 (fun _ => (instr_small _)) rfl argsT nofT ?_)
  refine lo (lop_not (E rfl)) rfl ?_
  refine lo (lop_assign (E rfl)) rfl ?_
  refine leT ?_
  (refine ctlT ?_)
  (apply aend; (exact resT))
  · exact ⟨rfl, rfl⟩
  · (exact stleT)
theorem instr_formN (op : Int) : SCall Try.prog 40 [.int .i64 op] [] (fun x σ => x = .int .i64 (formN op) ∧ σ = []) := by
  have := instr_form op
  rwa [kN_ok] at this
theorem ref_formN (op : Int) (h : -9223372036854775808 ≤ op ∧ op ≤ 9223372036854775807) : SCall Try.prog 27 [.int .i64 op] [] (fun x σ => x = .int .i64 (formN op) ∧ σ = []) := by
  have := ref_form op
  rwa [rkN_ok op h] at this
def preN (x : Ins) (f : Int) : Bool := if (if (f != 4) = true then decide (0 < (x.l.length : Int)) else false) = true then true else if (f != 6) = true then (x.b != 0) else false
/-- which instructions may be -/
def mayN (x : Ins) : Bool :=
  if preN x (formN x.op) = true then false
  else if (formN x.op == 1 || formN x.op == 7) = true then (x.a == 0)
  else if (formN x.op == 2) = true then bt2 x.a 0 2
  else if (formN x.op == 3 || formN x.op == 5) = true then bt2 x.a 0 1000
  else if (formN x.op == 4) = true then (if (if bt2 x.a 0 1000 = true then decide ((x.l.length : Int) ≤ 50) else false) = true then !(x.l.any fun n => !bt2 n 0 1000) else false)
  else if (formN x.op == 6) = true then (if bt2 x.a 0 3 = true then bt2 x.b 0 4294967295 else false)
  else if (formN x.op == 8) = true then bt2 x.a (-2147483648) 2147483647
  else (formN x.op == 9)
theorem acc_raw (a b : Int) : (if (if (if decide (0 ≤ a) = true then decide (a ≤ 3) else false) = true then decide (0 ≤ b) else false) = true then decide (b < 4294967296) else false) =
    (if (if decide (0 ≤ a) = true then decide (a ≤ 3) else false) = true then (if decide (0 ≤ b) = true then decide (b ≤ 4294967295) else false) else false) := by
  rw [show decide (b ≤ 4294967295) = decide (b < 4294967296) by rw [decide_eq_decide]; omega]
  generalize (if decide (0 ≤ a) = true then decide (a ≤ 3) else false) = b1
  cases b1 <;> simp
theorem c32_raw (a : Int) : (if decide (-2147483648 ≤ a) = true then decide (a < 2147483648) else false) = (if decide (-2147483648 ≤ a) = true then decide (a ≤ 2147483647) else false) := by
  rw [show decide (a ≤ 2147483647) = decide (a < 2147483648) by rw [decide_eq_decide]; omega]
set_option maxRecDepth 100000 in
theorem instr_may (k : Rk) (x : Ins) : SCall Try.prog 20 [.agg (iv k x)] [] (fun r σ => r = .bool (mayN x) ∧ σ = []) := by
  refine scall_of (n := 76) (ks := [0, 1, 2, 3, 23, 24, 25, 31, 36, 42, 59, 69, 74]) Try.func20 rfl rfl (Nat.le_of_ble_eq_true rfl) ?_
  unfold iv
  (refine ctlT ?_)
  refine rgT ?_
  apply bx; rfl; rfl; (exact zcT); rfl; refine freshT fun r1 h1 => ?_; (repeat (rcases h1 with ⟨_, h1⟩))
  refine lo (lop_assign (E rfl)) rfl ?_
  refine leT ?_
  (refine ctlT ?_)
  refine rgT ?_
  refine z59 ?_
  refine z60 ?_
  (first | refine ln rfl rfl rfl rfl ?_ | refine lw rfl rfl (lop_no (v := .bool false)) rfl ?_ | refine pu [] Try.call40 (instr_formN _) rfl argsT nofT ?_ | refine pug [] rfl rfl Try.call40 (fun _ => (instr_formN _)) rfl argsT nofT ?_ | refine puw [] rfl rfl Try.call40 (fun _ => (instr_formN _)) rfl argsT nofT ?_)
  refine lo (lop_assign (E rfl)) rfl ?_
  refine leT ?_
  (refine ctlT ?_)
  refine rgT ?_
  refine lo (lop_move (E rfl)) rfl ?_
  refine lo (lop_neq (E rfl) (E rfl)) rfl ?_
  refine lo (lop_move (E rfl)) rfl ?_
  refine z61 ?_
  refine z62 ?_
  refine z63 ?_
  refine z18 ?_
  refine z7 ?_
  refine lo (lop_move (E rfl)) rfl ?_
  refine z4 ?_
  refine z64 ?_
  refine z8 ?_
  refine z65 ?_
  refine z66 ?_
  refine z11 ?_
  refine z12 ?_
  refine z13 ?_
  refine leT ?_
  (refine ctlT ?_)
  refine sw_cond rfl (fun g1 => ?_) (fun g1 => ?_)
  · (refine ctlT ?_)
    refine rgT ?_
    refine lo (lop_assign (E rfl)) rfl ?_
    refine leT ?_
    (refine ctlT ?_)
    (apply aend; (exact resT))
    · (unfold mayN preN; simp only [g1, if_true, if_false, Bool.false_eq_true]; exact ⟨rfl, rfl⟩)
    · (exact stleT)
  (refine ctlT ?_)
  refine rgT ?_
  refine lo (lop_move (E rfl)) rfl ?_
  refine leT ?_
  (refine ctlT ?_)
  refine rgT ?_
  refine lo (lop_eql (E rfl) (E rfl)) rfl ?_
  refine lo (lop_assign (E rfl)) rfl ?_
  refine leT ?_
  (refine ctlT ?_)
  apply sw_orr rfl; exact fdelT
  · intro _; (refine ctlT ?_)
    refine rgT ?_
    refine lo (lop_eql (E rfl) (E rfl)) rfl ?_
    refine lo (lop_assign (E rfl)) rfl ?_
    refine leT ?_
    (refine ctlT ?_)
    (exact sgoT)
  (refine ctlT ?_)
  refine sw_cond rfl (fun g2 => ?_) (fun g2 => ?_)
  · (refine ctlT ?_)
    refine rgT ?_
    refine z59 ?_
    refine z60 ?_
    refine lo (lop_eql (E rfl) (E rfl)) rfl ?_
    refine lo (lop_assign (E rfl)) rfl ?_
    refine leT ?_
    (refine ctlT ?_)
    (apply aend; (exact resT))
    · (unfold mayN preN; simp only [g1, g2, if_true, if_false, Bool.false_eq_true]; exact ⟨rfl, rfl⟩)
    · (exact stleT)
  (refine ctlT ?_)
  refine rgT ?_
  refine lo (lop_eql (E rfl) (E rfl)) rfl ?_
  refine lo (lop_assign (E rfl)) rfl ?_
  refine leT ?_
  (refine ctlT ?_)
  refine sw_cond rfl (fun g3 => ?_) (fun g3 => ?_)
  · (refine ctlT ?_)
    refine rgT ?_
    refine z59 ?_
    refine z60 ?_
    (first | refine ln rfl rfl rfl rfl ?_ | refine lw rfl rfl (lop_no (v := .bool false)) rfl ?_ | refine pu [] Try.call41 (instr_between _ _ _) rfl argsT nofT ?_ | refine pug [] rfl rfl Try.call41 (fun _ => (instr_between _ _ _)) rfl argsT nofT ?_ | refine puw [] rfl rfl Try.call41 (fun _ => (instr_between _ _ _)) rfl argsT nofT ?_)
    refine lo (lop_assign (E rfl)) rfl ?_
    refine leT ?_
    (refine ctlT ?_)
    (apply aend; (exact resT))
    · (unfold mayN preN; simp only [g1, g2, g3, if_true, if_false, Bool.false_eq_true]; exact ⟨rfl, rfl⟩)
    · (exact stleT)
  (refine ctlT ?_)
  refine rgT ?_
  refine lo (lop_eql (E rfl) (E rfl)) rfl ?_
  refine lo (lop_assign (E rfl)) rfl ?_
  refine leT ?_
  (refine ctlT ?_)
  apply sw_orr rfl; exact fdelT
  · intro _; (refine ctlT ?_)
    refine rgT ?_
    refine lo (lop_eql (E rfl) (E rfl)) rfl ?_
    refine lo (lop_assign (E rfl)) rfl ?_
    refine leT ?_
    (refine ctlT ?_)
    (exact sgoT)
  (refine ctlT ?_)
  refine sw_cond rfl (fun g4 => ?_) (fun g4 => ?_)
  · (refine ctlT ?_)
    refine rgT ?_
    refine z59 ?_
    refine z60 ?_
    (first | refine ln rfl rfl rfl rfl ?_ | refine lw rfl rfl (lop_no (v := .bool false)) rfl ?_ | refine pu [] Try.call42 (instr_small _) rfl argsT nofT ?_ | refine pug [] rfl rfl Try.call42 (fun _ => (instr_small _)) rfl argsT nofT ?_ | refine puw [] rfl rfl Try.call42 (fun _ => (instr_small _)) rfl argsT nofT ?_)
    refine lo (lop_assign (E rfl)) rfl ?_
    refine leT ?_
    (refine ctlT ?_)
    (apply aend; (exact resT))
    · (unfold mayN preN; simp only [g1, g2, g3, g4, if_true, if_false, Bool.false_eq_true]; exact ⟨rfl, rfl⟩)
    · (exact stleT)
  (refine ctlT ?_)
  refine rgT ?_
  refine lo (lop_eql (E rfl) (E rfl)) rfl ?_
  refine lo (lop_assign (E rfl)) rfl ?_
  refine leT ?_
  (refine ctlT ?_)
  refine sw_cond rfl (fun g5 => ?_) (fun g5 => ?_)
  · (refine ctlT ?_)
    refine rgT ?_
    refine z59 ?_
    refine z60 ?_
    (first | refine ln rfl rfl rfl rfl ?_ | refine lw rfl rfl (lop_no (v := .bool false)) rfl ?_ | refine pu [] Try.call42 (instr_small _) rfl argsT nofT ?_ | refine pug [] rfl rfl Try.call42 (fun _ => (instr_small _)) rfl argsT nofT ?_ | refine puw [] rfl rfl Try.call42 (fun _ => (instr_small _)) rfl argsT nofT ?_)
    refine lo (lop_move (E rfl)) rfl ?_
    refine z61 ?_
    refine z62 ?_
    refine z63 ?_
    refine z55 ?_
    refine z7 ?_
    refine lo (lop_move (E rfl)) rfl ?_
    refine z61 ?_
    refine z62 ?_
    (first | refine ln rfl rfl rfl rfl ?_ | refine lw rfl rfl (lop_no (v := .bool false)) rfl ?_ | refine pu [] Try.call43 (lib_containsFunc instr_not_small x.l) rfl argsT nofT ?_ | refine pug [] rfl rfl Try.call43 (fun _ => (lib_containsFunc instr_not_small x.l)) rfl argsT nofT ?_ | refine puw [] rfl rfl Try.call43 (fun _ => (lib_containsFunc instr_not_small x.l)) rfl argsT nofT ?_)
    refine z67 ?_
    refine z7 ?_
    refine lo (lop_assign (E rfl)) rfl ?_
    refine leT ?_
    (refine ctlT ?_)
    (apply aend; (exact resT))
    · (unfold mayN preN; simp only [g1, g2, g3, g4, g5, if_true, if_false, Bool.false_eq_true]; exact ⟨rfl, rfl⟩)
    · (exact stleT)
  (refine ctlT ?_)
  refine rgT ?_
  refine lo (lop_eql (E rfl) (E rfl)) rfl ?_
  refine lo (lop_assign (E rfl)) rfl ?_
  refine leT ?_
  (refine ctlT ?_)
  refine sw_cond rfl (fun g6 => ?_) (fun g6 => ?_)
  · (refine ctlT ?_)
    refine rgT ?_
    refine z59 ?_
    refine z60 ?_
    (first | refine ln rfl rfl rfl rfl ?_ | refine lw rfl rfl (lop_no (v := .bool false)) rfl ?_ | refine pu [] Try.call41 (instr_between _ _ _) rfl argsT nofT ?_ | refine pug [] rfl rfl Try.call41 (fun _ => (instr_between _ _ _)) rfl argsT nofT ?_ | refine puw [] rfl rfl Try.call41 (fun _ => (instr_between _ _ _)) rfl argsT nofT ?_)
    refine lo (lop_move (E rfl)) rfl ?_
    refine z61 ?_
    refine z62 ?_
    (first | refine ln rfl rfl rfl rfl ?_ | refine lw rfl rfl (lop_no (v := .bool false)) rfl ?_ | refine pu [] Try.call41 (instr_between _ _ _) rfl argsT nofT ?_ | refine pug [] rfl rfl Try.call41 (fun _ => (instr_between _ _ _)) rfl argsT nofT ?_ | refine puw [] rfl rfl Try.call41 (fun _ => (instr_between _ _ _)) rfl argsT nofT ?_)
    refine z68 ?_
    refine lo (lop_assign (E rfl)) rfl ?_
    refine leT ?_
    (refine ctlT ?_)
    (apply aend; (exact resT))
    · (unfold mayN preN; simp only [g1, g2, g3, g4, g5, g6, if_true, if_false, Bool.false_eq_true]; exact ⟨rfl, rfl⟩)
    · (exact stleT)
  (refine ctlT ?_)
  refine rgT ?_
  refine lo (lop_eql (E rfl) (E rfl)) rfl ?_
  refine lo (lop_assign (E rfl)) rfl ?_
  refine leT ?_
  (refine ctlT ?_)
  refine sw_cond rfl (fun g7 => ?_) (fun g7 => ?_)
  · (refine ctlT ?_)
    refine rgT ?_
    refine z59 ?_
    refine z60 ?_
    (first | refine ln rfl rfl rfl rfl ?_ | refine lw rfl rfl (lop_no (v := .bool false)) rfl ?_ | refine pu [] Try.call41 (instr_between _ _ _) rfl argsT nofT ?_ | refine pug [] rfl rfl Try.call41 (fun _ => (instr_between _ _ _)) rfl argsT nofT ?_ | refine puw [] rfl rfl Try.call41 (fun _ => (instr_between _ _ _)) rfl argsT nofT ?_)
    refine lo (lop_assign (E rfl)) rfl ?_
    refine leT ?_
    (refine ctlT ?_)
    (apply aend; (exact resT))
    · (unfold mayN preN; simp only [g1, g2, g3, g4, g5, g6, g7, if_true, if_false, Bool.false_eq_true]; exact ⟨rfl, rfl⟩)
    · (exact stleT)
  (refine ctlT ?_)
  refine rgT ?_
  refine lo (lop_eql (E rfl) (E rfl)) rfl ?_
  refine lo (lop_assign (E rfl)) rfl ?_
  refine leT ?_
  (refine ctlT ?_)
  refine sw_cond rfl (fun g8 => ?_) (fun g8 => ?_)
  · (refine ctlT ?_)
    refine rgT ?_
    refine lo (lop_assign (E rfl)) rfl ?_
    refine leT ?_
    (refine ctlT ?_)
    (apply aend; (exact resT))
    · (unfold mayN preN; simp only [g1, g2, g3, g4, g5, g6, g7, g8, if_true, if_false, Bool.false_eq_true]; exact ⟨rfl, rfl⟩)
    · (exact stleT)
  (refine ctlT ?_)
  refine rgT ?_
  refine lo (lop_assign (E rfl)) rfl ?_
  refine leT ?_
  (refine ctlT ?_)
  (apply aend; (exact resT))
  · (unfold mayN preN; simp only [g1, g2, g3, g4, g5, g6, g7, g8, if_true, if_false, Bool.false_eq_true]; exact ⟨rfl, rfl⟩)
  · (exact stleT)
set_option maxRecDepth 100000 in
theorem ref_mayInstr (k : Rk) (x : Ins) (hx : x.Ok) : SCall Try.prog 19 [.agg (iv k x)] [] (fun r σ => r = .bool (mayN x) ∧ σ = []) := by
  have hop : -9223372036854775808 ≤ x.op ∧ x.op ≤ 9223372036854775807 := ⟨hx.1, hx.2.1⟩
  have hl := hx.2.2.2.2
  refine scall_of (n := 122) (ks := [0, 1, 2, 3, 4, 24, 25, 26, 32, 42, 53, 59, 75, 90, 110]) Try.func19 rfl rfl (Nat.le_of_ble_eq_true rfl) ?_
  unfold iv
  (refine ctlT ?_)
  refine rgT ?_
  apply bx; rfl; rfl; (exact zcT); rfl; refine freshT fun r1 h1 => ?_; (repeat (rcases h1 with ⟨_, h1⟩))
  refine lo (lop_assign (E rfl)) rfl ?_
  refine leT ?_
  (refine ctlT ?_)
  refine rgT ?_
  refine z59 ?_
  refine z60 ?_
  (first | refine ln rfl rfl rfl rfl ?_ | refine lw rfl rfl (lop_no (v := .bool false)) rfl ?_ | refine pu [] Try.call27 (ref_formN _ (by assumption)) rfl argsT nofT ?_ | refine pug [] rfl rfl Try.call27 (fun _ => (ref_formN _ (by assumption))) rfl argsT nofT ?_ | refine puw [] rfl rfl Try.call27 (fun _ => (ref_formN _ (by assumption))) rfl argsT nofT ?_)
  refine lo (lop_assign (E rfl)) rfl ?_
  refine leT ?_
  (refine ctlT ?_)
  refine rgT ?_
  refine lo (lop_move (E rfl)) rfl ?_
  refine lo (lop_neq (E rfl) (E rfl)) rfl ?_
  refine lo (lop_move (E rfl)) rfl ?_
  refine z61 ?_
  refine z62 ?_
  refine z63 ?_
  refine z18 ?_
  refine z7 ?_
  refine lo (lop_move (E rfl)) rfl ?_
  refine z4 ?_
  refine z64 ?_
  refine z8 ?_
  refine z65 ?_
  refine z66 ?_
  refine z11 ?_
  refine z12 ?_
  refine z13 ?_
  refine leT ?_
  (refine ctlT ?_)
  refine sw_cond rfl (fun g1 => ?_) (fun g1 => ?_)
  · (refine ctlT ?_)
    refine rgT ?_
    refine lo (lop_assign (E rfl)) rfl ?_
    refine leT ?_
    (refine ctlT ?_)
    (apply aend; (exact resT))
    · (unfold mayN preN bt2; simp only [g1, if_true, if_false, Bool.false_eq_true]; first | exact ⟨rfl, rfl⟩ | exact ⟨congrArg AV.bool (acc_raw x.a x.b), rfl⟩ | exact ⟨congrArg AV.bool (c32_raw x.a), rfl⟩)
    · (exact stleT)
  (refine ctlT ?_)
  refine rgT ?_
  refine lo (lop_move (E rfl)) rfl ?_
  refine leT ?_
  (refine ctlT ?_)
  refine rgT ?_
  refine lo (lop_eql (E rfl) (E rfl)) rfl ?_
  refine lo (lop_assign (E rfl)) rfl ?_
  refine leT ?_
  (refine ctlT ?_)
  apply sw_orr rfl; exact fdelT
  · intro _; (refine ctlT ?_)
    refine rgT ?_
    refine lo (lop_eql (E rfl) (E rfl)) rfl ?_
    refine lo (lop_assign (E rfl)) rfl ?_
    refine leT ?_
    (refine ctlT ?_)
    (exact sgoT)
  (refine ctlT ?_)
  refine sw_cond rfl (fun g2 => ?_) (fun g2 => ?_)
  · (refine ctlT ?_)
    refine rgT ?_
    refine z59 ?_
    refine z60 ?_
    refine lo (lop_eql (E rfl) (E rfl)) rfl ?_
    refine lo (lop_assign (E rfl)) rfl ?_
    refine leT ?_
    (refine ctlT ?_)
    (apply aend; (exact resT))
    · (unfold mayN preN bt2; simp only [g1, g2, if_true, if_false, Bool.false_eq_true]; first | exact ⟨rfl, rfl⟩ | exact ⟨congrArg AV.bool (acc_raw x.a x.b), rfl⟩ | exact ⟨congrArg AV.bool (c32_raw x.a), rfl⟩)
    · (exact stleT)
  (refine ctlT ?_)
  refine rgT ?_
  refine lo (lop_eql (E rfl) (E rfl)) rfl ?_
  refine lo (lop_assign (E rfl)) rfl ?_
  refine leT ?_
  (refine ctlT ?_)
  refine sw_cond rfl (fun g3 => ?_) (fun g3 => ?_)
  · (refine ctlT ?_)
    refine rgT ?_
    refine z59 ?_
    refine z60 ?_
    refine lo (lop_geq (E rfl) (E rfl)) rfl ?_
    refine lo (lop_move (E rfl)) rfl ?_
    refine z61 ?_
    refine z62 ?_
    refine z55 ?_
    refine z7 ?_
    refine lo (lop_assign (E rfl)) rfl ?_
    refine leT ?_
    (refine ctlT ?_)
    (apply aend; (exact resT))
    · (unfold mayN preN bt2; simp only [g1, g2, g3, if_true, if_false, Bool.false_eq_true]; first | exact ⟨rfl, rfl⟩ | exact ⟨congrArg AV.bool (acc_raw x.a x.b), rfl⟩ | exact ⟨congrArg AV.bool (c32_raw x.a), rfl⟩)
    · (exact stleT)
  (refine ctlT ?_)
  refine rgT ?_
  refine lo (lop_eql (E rfl) (E rfl)) rfl ?_
  refine lo (lop_assign (E rfl)) rfl ?_
  refine leT ?_
  (refine ctlT ?_)
  apply sw_orr rfl; exact fdelT
  · intro _; (refine ctlT ?_)
    refine rgT ?_
    refine lo (lop_eql (E rfl) (E rfl)) rfl ?_
    refine lo (lop_assign (E rfl)) rfl ?_
    refine leT ?_
    (refine ctlT ?_)
    (exact sgoT)
  (refine ctlT ?_)
  refine sw_cond rfl (fun g4 => ?_) (fun g4 => ?_)
  · (refine ctlT ?_)
    refine rgT ?_
    refine z59 ?_
    refine z60 ?_
    refine lo (lop_geq (E rfl) (E rfl)) rfl ?_
    refine lo (lop_move (E rfl)) rfl ?_
    refine z61 ?_
    refine z62 ?_
    refine z55 ?_
    refine z7 ?_
    refine lo (lop_assign (E rfl)) rfl ?_
    refine leT ?_
    (refine ctlT ?_)
    (apply aend; (exact resT))
    · (unfold mayN preN bt2; simp only [g1, g2, g3, g4, if_true, if_false, Bool.false_eq_true]; first | exact ⟨rfl, rfl⟩ | exact ⟨congrArg AV.bool (acc_raw x.a x.b), rfl⟩ | exact ⟨congrArg AV.bool (c32_raw x.a), rfl⟩)
    · (exact stleT)
  (refine ctlT ?_)
  refine rgT ?_
  refine lo (lop_eql (E rfl) (E rfl)) rfl ?_
  refine lo (lop_assign (E rfl)) rfl ?_
  refine leT ?_
  (refine ctlT ?_)
  refine sw_cond rfl (fun g5 => ?_) (fun g5 => ?_)
  · (refine ctlT ?_)
    refine rgT ?_
    refine lo (lop_assign (E rfl)) rfl ?_
    refine leT ?_
    (refine ctlT ?_)
    refine lp (β := Nat) (fun j => ⟨[(1, .ptr r1 0), (4, .int .i64 j)], [(r1, .box 24 [.int .i64 x.op, .int .i64 x.a, .int .i64 x.b, .ro 1 (x.l.map encI) k])]⟩) (fun j => j ≤ x.l.length ∧ (x.l.take j).any (fun n => !bt2 n 0 1000) = false) (fun j => x.l.length - j) 0 (by (exact sgoT)) ⟨Nat.zero_le _, rfl⟩ ?_
    rintro j ⟨hj, ht⟩
    (refine ctlT ?_)
    refine rgT ?_
    refine lo (lop_move (E rfl)) rfl ?_
    refine z59 ?_
    refine z60 ?_
    refine z14 ?_
    refine lo (lop_lss (E rfl) (E rfl)) rfl ?_
    refine leT ?_
    (refine ctlT ?_)
    refine sw_cond rfl (fun h1 => ?_) (fun h1 => ?_)
    · have hlt : j < x.l.length := by simp at h1; omega
      (refine ctlT ?_)
      refine rgT ?_
      refine z59 ?_
      refine z60 ?_
      refine lo (lop_move (E rfl)) rfl ?_
      refine z15 ?_
      refine z16 ?_
      refine lo (lop_lss (E rfl) (E rfl)) rfl ?_
      refine lo (lop_move (E rfl)) rfl ?_
      refine z61 ?_
      refine z62 ?_
      refine z4 ?_
      refine z71 ?_
      refine z72 ?_
      refine z18 ?_
      refine z13 ?_
      refine leT ?_
      (refine ctlT ?_)
      rw [Int.toNat_natCast]
      have hb : (if decide (x.l[j]! < 0) = true then true else decide (1000 < x.l[j]!)) = !bt2 x.l[j]! 0 1000 := by
        rw [bt2_eq]
        generalize x.l[j]! = y
        by_cases h3 : y < 0
        · rw [decide_eq_true h3, if_pos rfl, decide_eq_false (by omega)]; rfl
        · by_cases h4 : 1000 < y
          · rw [decide_eq_false h3, decide_eq_true h4, decide_eq_false (by omega)]; rfl
          · rw [decide_eq_false h3, decide_eq_false h4, decide_eq_true (by omega)]; rfl
      rw [hb]
      refine sw_cond rfl (fun h2 => ?_) (fun h2 => ?_)
      · have ha : (x.l.any fun n => !bt2 n 0 1000) = true := List.any_eq_true.2 ⟨x.l[j]!, by rw [getElem!_pos x.l j hlt]; exact List.getElem_mem hlt, h2⟩
        (refine ctlT ?_)
        refine rgT ?_
        refine lo (lop_assign (E rfl)) rfl ?_
        refine leT ?_
        (refine ctlT ?_)
        (apply aend; (exact resT))
        · unfold mayN preN
          simp only [g1, g2, g3, g4, g5, ha, if_true, if_false, Bool.false_eq_true]
          exact ⟨by simp [resAV, ofConst], rfl⟩
        · (exact stleT)
      · (refine ctlT ?_)
        refine rgT ?_
        refine lo (lop_move (E rfl)) rfl ?_
        refine z17 ?_
        refine lo (lop_assign (E rfl)) rfl ?_
        refine leT ?_
        (refine ctlT ?_)
        refine ⟨j + 1, ⟨by omega, ?_⟩, by omega, ?_⟩
        · rw [List.take_add_one, List.any_append, ht, List.getElem?_eq_getElem hlt]
          rw [getElem!_pos x.l j hlt] at h2
          simp only [Bool.false_or, Option.toList_some, List.any_cons, List.any_nil, Bool.or_false]
          exact h2
        · (exact sgoT)
    · obtain rfl : j = x.l.length := by simp at h1; omega
      rw [List.take_length] at ht
      (refine ctlT ?_)
      refine rgT ?_
      refine z59 ?_
      refine z60 ?_
      refine lo (lop_geq (E rfl) (E rfl)) rfl ?_
      refine lo (lop_move (E rfl)) rfl ?_
      refine z61 ?_
      refine z62 ?_
      refine z55 ?_
      refine z7 ?_
      refine lo (lop_move (E rfl)) rfl ?_
      refine z61 ?_
      refine z62 ?_
      refine z63 ?_
      refine z55 ?_
      refine z7 ?_
      refine lo (lop_assign (E rfl)) rfl ?_
      refine leT ?_
      (refine ctlT ?_)
      (apply aend; (exact resT))
      · unfold mayN preN
        simp only [g1, g2, g3, g4, g5, ht, if_true, if_false, Bool.false_eq_true]
        refine ⟨?_, rfl⟩
        unfold bt2
        show AV.bool _ = AV.bool _
        congr 1
        generalize (if decide (0 ≤ x.a) = true then decide (x.a ≤ 1000) else false) = b1
        cases b1 <;> simp
      · (exact stleT)
  (refine ctlT ?_)
  refine rgT ?_
  refine lo (lop_eql (E rfl) (E rfl)) rfl ?_
  refine lo (lop_assign (E rfl)) rfl ?_
  refine leT ?_
  (refine ctlT ?_)
  refine sw_cond rfl (fun g6 => ?_) (fun g6 => ?_)
  · (refine ctlT ?_)
    refine rgT ?_
    refine z59 ?_
    refine z60 ?_
    refine lo (lop_geq (E rfl) (E rfl)) rfl ?_
    refine lo (lop_move (E rfl)) rfl ?_
    refine z61 ?_
    refine z62 ?_
    refine z55 ?_
    refine z7 ?_
    refine lo (lop_move (E rfl)) rfl ?_
    refine z61 ?_
    refine z62 ?_
    refine z34 ?_
    refine z7 ?_
    refine lo (lop_move (E rfl)) rfl ?_
    refine z61 ?_
    refine z62 ?_
    refine z69 ?_
    refine z7 ?_
    refine lo (lop_assign (E rfl)) rfl ?_
    refine leT ?_
    (refine ctlT ?_)
    (apply aend; (exact resT))
    · (unfold mayN preN bt2; simp only [g1, g2, g3, g4, g5, g6, if_true, if_false, Bool.false_eq_true]; first | exact ⟨rfl, rfl⟩ | exact ⟨congrArg AV.bool (acc_raw x.a x.b), rfl⟩ | exact ⟨congrArg AV.bool (c32_raw x.a), rfl⟩)
    · (exact stleT)
  (refine ctlT ?_)
  refine rgT ?_
  refine lo (lop_eql (E rfl) (E rfl)) rfl ?_
  refine lo (lop_assign (E rfl)) rfl ?_
  refine leT ?_
  (refine ctlT ?_)
  refine sw_cond rfl (fun g7 => ?_) (fun g7 => ?_)
  · (refine ctlT ?_)
    refine rgT ?_
    refine z59 ?_
    refine z60 ?_
    refine lo (lop_geq (E rfl) (E rfl)) rfl ?_
    refine lo (lop_move (E rfl)) rfl ?_
    refine z61 ?_
    refine z62 ?_
    refine z69 ?_
    refine z7 ?_
    refine lo (lop_assign (E rfl)) rfl ?_
    refine leT ?_
    (refine ctlT ?_)
    (apply aend; (exact resT))
    · (unfold mayN preN bt2; simp only [g1, g2, g3, g4, g5, g6, g7, if_true, if_false, Bool.false_eq_true]; first | exact ⟨rfl, rfl⟩ | exact ⟨congrArg AV.bool (acc_raw x.a x.b), rfl⟩ | exact ⟨congrArg AV.bool (c32_raw x.a), rfl⟩)
    · (exact stleT)
  (refine ctlT ?_)
  refine rgT ?_
  refine lo (lop_move (E rfl)) rfl ?_
  refine lo (lop_eql (E rfl) (E rfl)) rfl ?_
  refine lo (lop_assign (E rfl)) rfl ?_
  refine leT ?_
  (refine ctlT ?_)
  (apply aend; (exact resT))
  · (unfold mayN preN bt2; simp only [g1, g2, g3, g4, g5, g6, g7, if_true, if_false, Bool.false_eq_true]; first | exact ⟨rfl, rfl⟩ | exact ⟨congrArg AV.bool (acc_raw x.a x.b), rfl⟩ | exact ⟨congrArg AV.bool (c32_raw x.a), rfl⟩)
  · (exact stleT)
/-- the same, part by part? -/
def eqN (x y : Ins) : Bool := decide (x.op = y.op ∧ x.a = y.a ∧ x.b = y.b ∧ x.l = y.l)
theorem eqN_raw (x y : Ins) : (if (if (if (x.op == y.op) = true then x.a == y.a else false) = true then x.b == y.b else false) = true then decide (x.l = y.l) else false) = eqN x y := by
  unfold eqN
  by_cases h1 : x.op = y.op <;> by_cases h2 : x.a = y.a <;> by_cases h3 : x.b = y.b <;> simp [h1, h2, h3]
set_option maxRecDepth 100000 in
theorem instr_eq (k k2 : Rk) (x y : Ins) : SCall Try.prog 21 [.agg (iv k x), .agg (iv k2 y)] [] (fun r σ => r = .bool (eqN x y) ∧ σ = []) := by
  refine scall_of (n := 31) (ks := [0, 1, 2, 3, 4]) Try.func21 rfl rfl (Nat.le_of_ble_eq_true rfl) ?_
  unfold iv
  (refine ctlT ?_)
  refine rgT ?_
  apply bx; rfl; rfl; (exact zcT); rfl; refine freshT fun r2 h2 => ?_; (repeat (rcases h2 with ⟨_, h2⟩))
  apply bx; rfl; rfl; (exact zcT); rfl; refine freshT fun r3 h3 => ?_; (repeat (rcases h3 with ⟨_, h3⟩))
  refine lo (lop_assign (E rfl)) rfl ?_
  refine leT ?_
  (refine ctlT ?_)
  refine rgT ?_
  refine z59 ?_
  refine z60 ?_
  refine z59 ?_
  refine z60 ?_
  refine lo (lop_eql (E rfl) (E rfl)) rfl ?_
  refine lo (lop_move (E rfl)) rfl ?_
  refine z61 ?_
  refine z62 ?_
  refine z61 ?_
  refine z62 ?_
  refine z70 ?_
  refine z7 ?_
  refine lo (lop_move (E rfl)) rfl ?_
  refine z61 ?_
  refine z62 ?_
  refine z61 ?_
  refine z62 ?_
  refine z70 ?_
  refine z7 ?_
  refine lo (lop_move (E rfl)) rfl ?_
  refine z61 ?_
  refine z62 ?_
  refine z61 ?_
  refine z62 ?_
  (first | refine ln rfl rfl rfl rfl ?_ | refine lw rfl rfl (lop_no (v := .bool false)) rfl ?_ | refine pu [] Try.call45 (lib_equal_int x.l y.l) rfl argsT nofT ?_ | refine pug [] rfl rfl Try.call45 (fun _ => (lib_equal_int x.l y.l)) rfl argsT nofT ?_ | refine puw [] rfl rfl Try.call45 (fun _ => (lib_equal_int x.l y.l)) rfl argsT nofT ?_)
  refine z68 ?_
  refine lo (lop_assign (E rfl)) rfl ?_
  refine leT ?_
  (refine ctlT ?_)
  (apply aend; (exact resT))
  · exact ⟨congrArg AV.bool (eqN_raw x y), rfl⟩
  · (exact stleT)
set_option maxRecDepth 100000 in
theorem ref_eqInstr (k k2 : Rk) (x y : Ins) : SCall Try.prog 22 [.agg (iv k x), .agg (iv k2 y)] [] (fun r σ => r = .bool (eqN x y) ∧ σ = []) := by
  refine scall_of (n := 31) (ks := [0, 1, 2, 3, 4]) Try.func22 rfl rfl (Nat.le_of_ble_eq_true rfl) ?_
  unfold iv
  (refine ctlT ?_)
  refine rgT ?_
  apply bx; rfl; rfl; (exact zcT); rfl; refine freshT fun r2 h2 => ?_; (repeat (rcases h2 with ⟨_, h2⟩))
  apply bx; rfl; rfl; (exact zcT); rfl; refine freshT fun r3 h3 => ?_; (repeat (rcases h3 with ⟨_, h3⟩))
  refine lo (lop_assign (E rfl)) rfl ?_
  refine leT ?_
  (refine ctlT ?_)
  refine rgT ?_
  refine z59 ?_
  refine z60 ?_
  refine z59 ?_
  refine z60 ?_
  refine lo (lop_eql (E rfl) (E rfl)) rfl ?_
  refine lo (lop_move (E rfl)) rfl ?_
  refine z61 ?_
  refine z62 ?_
  refine z61 ?_
  refine z62 ?_
  refine z70 ?_
  refine z7 ?_
  refine lo (lop_move (E rfl)) rfl ?_
  refine z61 ?_
  refine z62 ?_
  refine z61 ?_
  refine z62 ?_
  refine z70 ?_
  refine z7 ?_
  refine lo (lop_move (E rfl)) rfl ?_
  refine z61 ?_
  refine z62 ?_
  refine z61 ?_
  refine z62 ?_
  (first | refine ln rfl rfl rfl rfl ?_ | refine lw rfl rfl (lop_no (v := .bool false)) rfl ?_ | refine pu [] Try.call32 (ref_eqInts x.l y.l) rfl argsT nofT ?_ | refine pug [] rfl rfl Try.call32 (fun _ => (ref_eqInts x.l y.l)) rfl argsT nofT ?_ | refine puw [] rfl rfl Try.call32 (fun _ => (ref_eqInts x.l y.l)) rfl argsT nofT ?_)
  refine z68 ?_
  refine lo (lop_assign (E rfl)) rfl ?_
  refine leT ?_
  (refine ctlT ?_)
  (apply aend; (exact resT))
  · exact ⟨congrArg AV.bool (eqN_raw x y), rfl⟩
  · (exact stleT)
end Go.Proofs.Ytkjfflabapeidaa
