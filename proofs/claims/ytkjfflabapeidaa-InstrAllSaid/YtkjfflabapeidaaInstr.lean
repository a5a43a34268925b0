/-
  Which instructions there are: kinds, forms.
-/
import Derived.Test.YtkjfflabapeidaaLebE
namespace Go.Proofs.Ytkjfflabapeidaa
open Go.RowKit Go.ChangeShapes Go.WideShapes Go.ChangeAt Go.Deep
set_option linter.unusedSimpArgs false
set_option linter.unusedVariables false
attribute [local irreducible] SW RS RD AThen ABlock

def encI (n : Int) : List AV := [.int .i64 n]
def bt2 (n a b : Int) : Bool := if decide (a ≤ n) = true then decide (n ≤ b) else false
set_option maxRecDepth 100000 in
theorem ints_between (n a b : Int) : SCall Try.prog 71 [.int .i64 n, .int .i64 a, .int .i64 b] [] (fun x σ => x = .bool (bt2 n a b) ∧ σ = []) := by
  refine scall_of (n := 15) (ks := [0, 1, 2, 6]) Try.func71 rfl rfl (Nat.le_of_ble_eq_true rfl) ?_
  (refine ctlT ?_)
  refine rgT ?_
  refine lo (lop_assign (E rfl)) rfl ?_
  refine leT ?_
  (refine ctlT ?_)
  refine rgT ?_
  refine lo (lop_move (E rfl)) rfl ?_
  refine lo (lop_move (E rfl)) rfl ?_
  refine lo (lop_geq (E rfl) (E rfl)) rfl ?_
  refine lo (lop_move (E rfl)) rfl ?_
  refine z4 ?_
  refine z4 ?_
  refine z54 ?_
  refine z7 ?_
  refine lo (lop_assign (E rfl)) rfl ?_
  refine leT ?_
  (refine ctlT ?_)
  (apply aend; (exact resT))
  · exact ⟨rfl, rfl⟩
  · (exact stleT)
/-- which it is as one of 32 bits, and its kind; 0: none -/
def ofN (op : Int) : Int × Int :=
  if (bt2 op 69 79 || bt2 op 103 120) = true then (1, op) else if bt2 op 80 90 = true then (2, IntKind.i64.wrap (IntKind.i64.wrap (op - 80) + 69)) else if bt2 op 121 138 = true then (2, IntKind.i64.wrap (IntKind.i64.wrap (op - 121) + 103)) else (0, 0)
set_option maxRecDepth 100000 in
theorem ints_of (op : Int) : SCall Try.prog 70 [.int .i64 op] [] (fun x σ => x = .tup [.int .i64 (ofN op).1, .int .i64 (ofN op).2] ∧ σ = []) := by
  refine scall_of (n := 22) (ks := [0, 2, 3, 4, 10, 16]) Try.func70 rfl rfl (Nat.le_of_ble_eq_true rfl) ?_
  (refine ctlT ?_)
  refine rgT ?_
  refine lo (lop_assign (E rfl)) rfl ?_
  refine lo (lop_assign (E rfl)) rfl ?_
  refine leT ?_
  (refine ctlT ?_)
  refine rgT ?_
  refine lo (lop_move (E rfl)) rfl ?_
  (first | refine ln rfl rfl rfl rfl ?_ | refine lw rfl rfl (lop_no (v := .bool false)) rfl ?_ | refine pu [] Try.call71 (ints_between _ _ _) rfl argsT nofT ?_ | refine pug [] rfl rfl Try.call71 (fun _ => (ints_between _ _ _)) rfl argsT nofT ?_ | refine puw [] rfl rfl Try.call71 (fun _ => (ints_between _ _ _)) rfl argsT nofT ?_)
  refine lo (lop_assign (E rfl)) rfl ?_
  refine leT ?_
  (refine ctlT ?_)
  apply sw_orr rfl; exact fdelT
  · intro _; (refine ctlT ?_)
    refine rgT ?_
    refine lo (lop_move (E rfl)) rfl ?_
    (first | refine ln rfl rfl rfl rfl ?_ | refine lw rfl rfl (lop_no (v := .bool false)) rfl ?_ | refine pu [] Try.call71 (ints_between _ _ _) rfl argsT nofT ?_ | refine pug [] rfl rfl Try.call71 (fun _ => (ints_between _ _ _)) rfl argsT nofT ?_ | refine puw [] rfl rfl Try.call71 (fun _ => (ints_between _ _ _)) rfl argsT nofT ?_)
    refine lo (lop_assign (E rfl)) rfl ?_
    refine leT ?_
    (refine ctlT ?_)
    (exact sgoT)
  (refine ctlT ?_)
  refine sw_cond rfl (fun g1 => ?_) (fun g1 => ?_)
  · (refine ctlT ?_)
    refine rgT ?_
    refine lo (lop_move (E rfl)) rfl ?_
    refine lo (lop_assign (E rfl)) rfl ?_
    refine lo (lop_assign (E rfl)) rfl ?_
    refine leT ?_
    (refine ctlT ?_)
    (apply aend; (exact resT))
    · (unfold ofN; simp only [g1, if_true, if_false, Bool.false_eq_true]; exact ⟨rfl, rfl⟩)
    · (exact stleT)
  (refine ctlT ?_)
  refine rgT ?_
  refine lo (lop_move (E rfl)) rfl ?_
  (first | refine ln rfl rfl rfl rfl ?_ | refine lw rfl rfl (lop_no (v := .bool false)) rfl ?_ | refine pu [] Try.call71 (ints_between _ _ _) rfl argsT nofT ?_ | refine pug [] rfl rfl Try.call71 (fun _ => (ints_between _ _ _)) rfl argsT nofT ?_ | refine puw [] rfl rfl Try.call71 (fun _ => (ints_between _ _ _)) rfl argsT nofT ?_)
  refine lo (lop_assign (E rfl)) rfl ?_
  refine leT ?_
  (refine ctlT ?_)
  refine sw_cond rfl (fun g2 => ?_) (fun g2 => ?_)
  · (refine ctlT ?_)
    refine rgT ?_
    refine lo (lop_move (E rfl)) rfl ?_
    refine z19 ?_
    refine z17 ?_
    refine lo (lop_assign (E rfl)) rfl ?_
    refine lo (lop_assign (E rfl)) rfl ?_
    refine leT ?_
    (refine ctlT ?_)
    (apply aend; (exact resT))
    · (unfold ofN; simp only [g1, g2, if_true, if_false, Bool.false_eq_true]; exact ⟨rfl, rfl⟩)
    · (exact stleT)
  (refine ctlT ?_)
  refine rgT ?_
  refine lo (lop_move (E rfl)) rfl ?_
  (first | refine ln rfl rfl rfl rfl ?_ | refine lw rfl rfl (lop_no (v := .bool false)) rfl ?_ | refine pu [] Try.call71 (ints_between _ _ _) rfl argsT nofT ?_ | refine pug [] rfl rfl Try.call71 (fun _ => (ints_between _ _ _)) rfl argsT nofT ?_ | refine puw [] rfl rfl Try.call71 (fun _ => (ints_between _ _ _)) rfl argsT nofT ?_)
  refine lo (lop_assign (E rfl)) rfl ?_
  refine leT ?_
  (refine ctlT ?_)
  refine sw_cond rfl (fun g3 => ?_) (fun g3 => ?_)
  · (refine ctlT ?_)
    refine rgT ?_
    refine lo (lop_move (E rfl)) rfl ?_
    refine z19 ?_
    refine z17 ?_
    refine lo (lop_assign (E rfl)) rfl ?_
    refine lo (lop_assign (E rfl)) rfl ?_
    refine leT ?_
    (refine ctlT ?_)
    (apply aend; (exact resT))
    · (unfold ofN; simp only [g1, g2, g3, if_true, if_false, Bool.false_eq_true]; exact ⟨rfl, rfl⟩)
    · (exact stleT)
  (refine ctlT ?_)
  refine rgT ?_
  refine lo (lop_assign (E rfl)) rfl ?_
  refine lo (lop_assign (E rfl)) rfl ?_
  refine leT ?_
  (refine ctlT ?_)
  (apply aend; (exact resT))
  · (unfold ofN; simp only [g1, g2, g3, if_true, if_false, Bool.false_eq_true]; exact ⟨rfl, rfl⟩)
  · (exact stleT)
/-- what an instruction takes and makes; is it one? -/
def kN (op : Int) : List Int × Int × Bool :=
  if (op == 167) = true then ([2], 1, true) else if (op == 172 || op == 173) = true then ([1], 2, true)
  else if ((ofN op).1 == 0) = true then ([], 0, false) else if ((ofN op).2 == 69) = true then ([(ofN op).1], 1, true)
  else if bt2 (ofN op).2 70 79 = true then ([(ofN op).1, (ofN op).1], 1, true) else if bt2 (ofN op).2 103 105 = true then ([(ofN op).1], (ofN op).1, true)
  else ([(ofN op).1, (ofN op).1], (ofN op).1, true)
def kindsR (r : List Int × Int × Bool) (x : AV) (σ : Sto) : Prop :=
  if r.2.2 = true then ∃ q, x = .tup [.own q 0 r.1.length, .int .i64 r.2.1, .bool true] ∧ σ = [(q, .arr 3 1 (r.1.map encI))] else x = .tup [.ro 0 [] .nil, .int .i64 0, .bool false] ∧ σ = []
theorem kindsR_yes {l : List Int} {r : Int} {q : Nat} {x : AV} {σ : Sto} (hx : x = .tup [.own q 0 l.length, .int .i64 r, .bool true]) (hs : σ = [(q, .arr 3 1 (l.map encI))]) : kindsR (l, r, true) x σ := by
  unfold kindsR; rw [if_pos rfl]; exact ⟨q, hx, hs⟩
theorem kindsR_no {l : List Int} {r : Int} {x : AV} {σ : Sto} (hx : x = .tup [.ro 0 [] .nil, .int .i64 0, .bool false]) (hs : σ = []) : kindsR (l, r, false) x σ := by
  unfold kindsR; rw [if_neg (by simp)]; exact ⟨hx, hs⟩
set_option maxRecDepth 100000 in
theorem ints_kinds (op : Int) : SCall Try.prog 60 [.int .i64 op] [] (kindsR (kN op)) := by
  refine scall_of (n := 44) (ks := [0, 2, 3, 4, 5, 6, 7, 8, 11, 20, 23, 28, 34]) Try.func60 rfl rfl (Nat.le_of_ble_eq_true rfl) ?_
  (refine ctlT ?_)
  refine rgT ?_
  refine lo (lop_assign (E rfl)) rfl ?_
  refine lo (lop_assign (E rfl)) rfl ?_
  refine lo (lop_assign (E rfl)) rfl ?_
  refine leT ?_
  (refine ctlT ?_)
  refine rgT ?_
  refine lo (lop_move (E rfl)) rfl ?_
  refine leT ?_
  (refine ctlT ?_)
  refine rgT ?_
  refine lo (lop_eql (E rfl) (E rfl)) rfl ?_
  refine lo (lop_assign (E rfl)) rfl ?_
  refine leT ?_
  (refine ctlT ?_)
  refine sw_cond rfl (fun g1 => ?_) (fun g1 => ?_)
  · (refine ctlT ?_)
    refine rgT ?_
    refine z1 ?_; refine freshT fun r10 h10 => ?_; (repeat (rcases h10 with ⟨_, h10⟩))
    refine lo (lop_assign (E rfl)) rfl ?_
    refine lo (lop_assign (E rfl)) rfl ?_
    refine lo (lop_assign (E rfl)) rfl ?_
    refine leT ?_
    (refine ctlT ?_)
    (apply aend; (exact resT))
    · (unfold kN; simp only [g1, if_true, if_false, Bool.false_eq_true]; first | exact kindsR_yes rfl rfl | exact kindsR_no rfl rfl)
    · (exact stleT)
  (refine ctlT ?_)
  refine rgT ?_
  refine lo (lop_eql (E rfl) (E rfl)) rfl ?_
  refine lo (lop_assign (E rfl)) rfl ?_
  refine leT ?_
  (refine ctlT ?_)
  apply sw_orr rfl; exact fdelT
  · intro _; (refine ctlT ?_)
    refine rgT ?_
    refine lo (lop_eql (E rfl) (E rfl)) rfl ?_
    refine lo (lop_assign (E rfl)) rfl ?_
    refine leT ?_
    (refine ctlT ?_)
    (exact sgoT)
  (refine ctlT ?_)
  refine sw_cond rfl (fun g2 => ?_) (fun g2 => ?_)
  · (refine ctlT ?_)
    refine rgT ?_
    refine z1 ?_; refine freshT fun r14 h14 => ?_; (repeat (rcases h14 with ⟨_, h14⟩))
    refine lo (lop_assign (E rfl)) rfl ?_
    refine lo (lop_assign (E rfl)) rfl ?_
    refine lo (lop_assign (E rfl)) rfl ?_
    refine leT ?_
    (refine ctlT ?_)
    (apply aend; (exact resT))
    · (unfold kN; simp only [g1, g2, if_true, if_false, Bool.false_eq_true]; first | exact kindsR_yes rfl rfl | exact kindsR_no rfl rfl)
    · (exact stleT)
  (refine ctlT ?_)
  refine rgT ?_
  refine lo (lop_move (E rfl)) rfl ?_
  (first | refine ln rfl rfl rfl rfl ?_ | refine lw rfl rfl (lop_no (v := .bool false)) rfl ?_ | refine pu [] Try.call70 (ints_of _) rfl argsT nofT ?_ | refine pug [] rfl rfl Try.call70 (fun _ => (ints_of _)) rfl argsT nofT ?_ | refine puw [] rfl rfl Try.call70 (fun _ => (ints_of _)) rfl argsT nofT ?_)
  refine lo (lop_move (E rfl)) rfl ?_
  refine lo (lop_extract (E rfl) rfl) rfl ?_
  refine lo (lop_extract (E rfl) rfl) rfl ?_
  refine lo (lop_assign (E rfl)) rfl ?_
  refine lo (lop_assign (E rfl)) rfl ?_
  refine leT ?_
  (refine ctlT ?_)
  refine rgT ?_
  refine lo (lop_move (E rfl)) rfl ?_
  refine lo (lop_eql (E rfl) (E rfl)) rfl ?_
  refine lo (lop_assign (E rfl)) rfl ?_
  refine leT ?_
  (refine ctlT ?_)
  refine sw_cond rfl (fun g3 => ?_) (fun g3 => ?_)
  · (refine ctlT ?_)
    refine rgT ?_
    refine lo (lop_assign (E rfl)) rfl ?_
    refine lo (lop_assign (E rfl)) rfl ?_
    refine lo (lop_assign (E rfl)) rfl ?_
    refine leT ?_
    (refine ctlT ?_)
    (apply aend; (exact resT))
    · (unfold kN; simp only [g1, g2, g3, if_true, if_false, Bool.false_eq_true]; first | exact kindsR_yes rfl rfl | exact kindsR_no rfl rfl)
    · (exact stleT)
  (refine ctlT ?_)
  refine rgT ?_
  refine lo (lop_move (E rfl)) rfl ?_
  refine lo (lop_eql (E rfl) (E rfl)) rfl ?_
  refine lo (lop_assign (E rfl)) rfl ?_
  refine leT ?_
  (refine ctlT ?_)
  refine sw_cond rfl (fun g4 => ?_) (fun g4 => ?_)
  · (refine ctlT ?_)
    refine rgT ?_
    refine lo (lop_move (E rfl)) rfl ?_
    refine z1 ?_; refine freshT fun r27 h27 => ?_; (repeat (rcases h27 with ⟨_, h27⟩))
    refine lo (lop_assign (E rfl)) rfl ?_
    refine lo (lop_assign (E rfl)) rfl ?_
    refine lo (lop_assign (E rfl)) rfl ?_
    refine leT ?_
    (refine ctlT ?_)
    (apply aend; (exact resT))
    · (unfold kN; simp only [g1, g2, g3, g4, if_true, if_false, Bool.false_eq_true]; first | exact kindsR_yes rfl rfl | exact kindsR_no rfl rfl)
    · (exact stleT)
  (refine ctlT ?_)
  refine rgT ?_
  refine lo (lop_move (E rfl)) rfl ?_
  (first | refine ln rfl rfl rfl rfl ?_ | refine lw rfl rfl (lop_no (v := .bool false)) rfl ?_ | refine pu [] Try.call71 (ints_between _ _ _) rfl argsT nofT ?_ | refine pug [] rfl rfl Try.call71 (fun _ => (ints_between _ _ _)) rfl argsT nofT ?_ | refine puw [] rfl rfl Try.call71 (fun _ => (ints_between _ _ _)) rfl argsT nofT ?_)
  refine lo (lop_assign (E rfl)) rfl ?_
  refine leT ?_
  (refine ctlT ?_)
  refine sw_cond rfl (fun g5 => ?_) (fun g5 => ?_)
  · (refine ctlT ?_)
    refine rgT ?_
    refine lo (lop_move (E rfl)) rfl ?_
    refine lo (lop_move (E rfl)) rfl ?_
    refine z1 ?_; refine freshT fun r33 h33 => ?_; (repeat (rcases h33 with ⟨_, h33⟩))
    refine lo (lop_assign (E rfl)) rfl ?_
    refine lo (lop_assign (E rfl)) rfl ?_
    refine lo (lop_assign (E rfl)) rfl ?_
    refine leT ?_
    (refine ctlT ?_)
    (apply aend; (exact resT))
    · (unfold kN; simp only [g1, g2, g3, g4, g5, if_true, if_false, Bool.false_eq_true]; first | exact kindsR_yes rfl rfl | exact kindsR_no rfl rfl)
    · (exact stleT)
  (refine ctlT ?_)
  refine rgT ?_
  refine lo (lop_move (E rfl)) rfl ?_
  (first | refine ln rfl rfl rfl rfl ?_ | refine lw rfl rfl (lop_no (v := .bool false)) rfl ?_ | refine pu [] Try.call71 (ints_between _ _ _) rfl argsT nofT ?_ | refine pug [] rfl rfl Try.call71 (fun _ => (ints_between _ _ _)) rfl argsT nofT ?_ | refine puw [] rfl rfl Try.call71 (fun _ => (ints_between _ _ _)) rfl argsT nofT ?_)
  refine lo (lop_assign (E rfl)) rfl ?_
  refine leT ?_
  (refine ctlT ?_)
  refine sw_cond rfl (fun g6 => ?_) (fun g6 => ?_)
  · (refine ctlT ?_)
    refine rgT ?_
    refine lo (lop_move (E rfl)) rfl ?_
    refine z1 ?_; refine freshT fun r38 h38 => ?_; (repeat (rcases h38 with ⟨_, h38⟩))
    refine lo (lop_move (E rfl)) rfl ?_
    refine lo (lop_assign (E rfl)) rfl ?_
    refine lo (lop_assign (E rfl)) rfl ?_
    refine lo (lop_assign (E rfl)) rfl ?_
    refine leT ?_
    (refine ctlT ?_)
    (apply aend; (exact resT))
    · (unfold kN; simp only [g1, g2, g3, g4, g5, g6, if_true, if_false, Bool.false_eq_true]; first | exact kindsR_yes rfl rfl | exact kindsR_no rfl rfl)
    · (exact stleT)
  (refine ctlT ?_)
  refine rgT ?_
  refine lo (lop_move (E rfl)) rfl ?_
  refine lo (lop_move (E rfl)) rfl ?_
  refine z1 ?_; refine freshT fun r42 h42 => ?_; (repeat (rcases h42 with ⟨_, h42⟩))
  refine lo (lop_move (E rfl)) rfl ?_
  refine lo (lop_assign (E rfl)) rfl ?_
  refine lo (lop_assign (E rfl)) rfl ?_
  refine lo (lop_assign (E rfl)) rfl ?_
  refine leT ?_
  (refine ctlT ?_)
  (apply aend; (exact resT))
  · (unfold kN; simp only [g1, g2, g3, g4, g5, g6, if_true, if_false, Bool.false_eq_true]; first | exact kindsR_yes rfl rfl | exact kindsR_no rfl rfl)
  · (exact stleT)
def clsN (op : Int) : Int × Int :=
  if (bt2 op 69 79 || bt2 op 103 120) = true then (op, 1) else if bt2 op 80 90 = true then (IntKind.i64.wrap (IntKind.i64.wrap (op - 80) + 69), 2) else if bt2 op 121 138 = true then (IntKind.i64.wrap (IntKind.i64.wrap (op - 121) + 103), 2)
  else if (op == 167) = true then (op, 2) else if (op == 172 || op == 173) = true then (op, 1) else (0, 0)
set_option maxRecDepth 100000 in
theorem ref_class (op : Int) : SCall Try.prog 69 [.int .i64 op] [] (fun x σ => x = .tup [.int .i64 (clsN op).1, .int .i64 (clsN op).2] ∧ σ = []) := by
  refine scall_of (n := 48) (ks := [0, 2, 3, 4, 18, 28, 38, 42]) Try.func69 rfl rfl (Nat.le_of_ble_eq_true rfl) ?_
  (refine ctlT ?_)
  refine rgT ?_
  refine lo (lop_assign (E rfl)) rfl ?_
  refine lo (lop_assign (E rfl)) rfl ?_
  refine leT ?_
  (refine ctlT ?_)
  refine rgT ?_
  refine lo (lop_move (E rfl)) rfl ?_
  refine lo (lop_geq (E rfl) (E rfl)) rfl ?_
  refine lo (lop_move (E rfl)) rfl ?_
  refine z4 ?_
  refine z55 ?_
  refine z7 ?_
  refine lo (lop_assign (E rfl)) rfl ?_
  refine leT ?_
  (refine ctlT ?_)
  apply sw_orr rfl; exact fdelT
  · intro _; (refine ctlT ?_)
    refine rgT ?_
    refine lo (lop_move (E rfl)) rfl ?_
    refine lo (lop_geq (E rfl) (E rfl)) rfl ?_
    refine lo (lop_move (E rfl)) rfl ?_
    refine z4 ?_
    refine z55 ?_
    refine z7 ?_
    refine lo (lop_assign (E rfl)) rfl ?_
    refine leT ?_
    (refine ctlT ?_)
    (exact sgoT)
  (refine ctlT ?_)
  refine sw_cond rfl (fun g1 => ?_) (fun g1 => ?_)
  · (refine ctlT ?_)
    refine rgT ?_
    refine lo (lop_move (E rfl)) rfl ?_
    refine lo (lop_assign (E rfl)) rfl ?_
    refine lo (lop_assign (E rfl)) rfl ?_
    refine leT ?_
    (refine ctlT ?_)
    (apply aend; (exact resT))
    · (unfold clsN bt2; simp only [g1, if_true, if_false, Bool.false_eq_true]; exact ⟨rfl, rfl⟩)
    · (exact stleT)
  (refine ctlT ?_)
  refine rgT ?_
  refine lo (lop_move (E rfl)) rfl ?_
  refine lo (lop_geq (E rfl) (E rfl)) rfl ?_
  refine lo (lop_move (E rfl)) rfl ?_
  refine z4 ?_
  refine z55 ?_
  refine z7 ?_
  refine lo (lop_assign (E rfl)) rfl ?_
  refine leT ?_
  (refine ctlT ?_)
  refine sw_cond rfl (fun g2 => ?_) (fun g2 => ?_)
  · (refine ctlT ?_)
    refine rgT ?_
    refine lo (lop_move (E rfl)) rfl ?_
    refine z19 ?_
    refine z17 ?_
    refine lo (lop_assign (E rfl)) rfl ?_
    refine lo (lop_assign (E rfl)) rfl ?_
    refine leT ?_
    (refine ctlT ?_)
    (apply aend; (exact resT))
    · (unfold clsN bt2; simp only [g1, g2, if_true, if_false, Bool.false_eq_true]; exact ⟨rfl, rfl⟩)
    · (exact stleT)
  (refine ctlT ?_)
  refine rgT ?_
  refine lo (lop_move (E rfl)) rfl ?_
  refine lo (lop_geq (E rfl) (E rfl)) rfl ?_
  refine lo (lop_move (E rfl)) rfl ?_
  refine z4 ?_
  refine z55 ?_
  refine z7 ?_
  refine lo (lop_assign (E rfl)) rfl ?_
  refine leT ?_
  (refine ctlT ?_)
  refine sw_cond rfl (fun g3 => ?_) (fun g3 => ?_)
  · (refine ctlT ?_)
    refine rgT ?_
    refine lo (lop_move (E rfl)) rfl ?_
    refine z19 ?_
    refine z17 ?_
    refine lo (lop_assign (E rfl)) rfl ?_
    refine lo (lop_assign (E rfl)) rfl ?_
    refine leT ?_
    (refine ctlT ?_)
    (apply aend; (exact resT))
    · (unfold clsN bt2; simp only [g1, g2, g3, if_true, if_false, Bool.false_eq_true]; exact ⟨rfl, rfl⟩)
    · (exact stleT)
  (refine ctlT ?_)
  refine rgT ?_
  refine lo (lop_move (E rfl)) rfl ?_
  refine lo (lop_eql (E rfl) (E rfl)) rfl ?_
  refine lo (lop_assign (E rfl)) rfl ?_
  refine leT ?_
  (refine ctlT ?_)
  refine sw_cond rfl (fun g4 => ?_) (fun g4 => ?_)
  · (refine ctlT ?_)
    refine rgT ?_
    refine lo (lop_move (E rfl)) rfl ?_
    refine lo (lop_assign (E rfl)) rfl ?_
    refine lo (lop_assign (E rfl)) rfl ?_
    refine leT ?_
    (refine ctlT ?_)
    (apply aend; (exact resT))
    · (unfold clsN bt2; simp only [g1, g2, g3, g4, if_true, if_false, Bool.false_eq_true]; exact ⟨rfl, rfl⟩)
    · (exact stleT)
  (refine ctlT ?_)
  refine rgT ?_
  refine lo (lop_move (E rfl)) rfl ?_
  refine lo (lop_eql (E rfl) (E rfl)) rfl ?_
  refine lo (lop_assign (E rfl)) rfl ?_
  refine leT ?_
  (refine ctlT ?_)
  apply sw_orr rfl; exact fdelT
  · intro _; (refine ctlT ?_)
    refine rgT ?_
    refine lo (lop_move (E rfl)) rfl ?_
    refine lo (lop_eql (E rfl) (E rfl)) rfl ?_
    refine lo (lop_assign (E rfl)) rfl ?_
    refine leT ?_
    (refine ctlT ?_)
    (exact sgoT)
  (refine ctlT ?_)
  refine sw_cond rfl (fun g5 => ?_) (fun g5 => ?_)
  · (refine ctlT ?_)
    refine rgT ?_
    refine lo (lop_move (E rfl)) rfl ?_
    refine lo (lop_assign (E rfl)) rfl ?_
    refine lo (lop_assign (E rfl)) rfl ?_
    refine leT ?_
    (refine ctlT ?_)
    (apply aend; (exact resT))
    · (unfold clsN bt2; simp only [g1, g2, g3, g4, g5, if_true, if_false, Bool.false_eq_true]; exact ⟨rfl, rfl⟩)
    · (exact stleT)
  (refine ctlT ?_)
  refine rgT ?_
  refine lo (lop_assign (E rfl)) rfl ?_
  refine lo (lop_assign (E rfl)) rfl ?_
  refine leT ?_
  (refine ctlT ?_)
  (apply aend; (exact resT))
  · (unfold clsN bt2; simp only [g1, g2, g3, g4, g5, if_true, if_false, Bool.false_eq_true]; exact ⟨rfl, rfl⟩)
  · (exact stleT)
def rkN (op : Int) : Int × Int × Int × Bool :=
  if ((clsN op).1 == 0) = true then (0, 0, 0, false) else if ((clsN op).1 == 69) = true then (1, (clsN op).2, 1, true) else if decide ((clsN op).1 ≤ 79) = true then (2, (clsN op).2, 1, true)
  else if decide ((clsN op).1 ≤ 105) = true then (1, (clsN op).2, (clsN op).2, true) else if decide ((clsN op).1 ≤ 120) = true then (2, (clsN op).2, (clsN op).2, true)
  else if ((clsN op).1 == 167) = true then (1, (clsN op).2, 1, true) else (1, (clsN op).2, 2, true)
set_option maxRecDepth 100000 in
theorem ref_kinds (op : Int) : SCall Try.prog 56 [.int .i64 op] [] (fun x σ => x = .tup [.int .i64 (rkN op).1, .int .i64 (rkN op).2.1, .int .i64 (rkN op).2.2.1, .bool (rkN op).2.2.2] ∧ σ = []) := by
  refine scall_of (n := 39) (ks := [0, 2, 3, 4, 5, 6, 7, 13, 16, 20, 24, 29, 34]) Try.func56 rfl rfl (Nat.le_of_ble_eq_true rfl) ?_
  (refine ctlT ?_)
  refine rgT ?_
  refine lo (lop_assign (E rfl)) rfl ?_
  refine lo (lop_assign (E rfl)) rfl ?_
  refine lo (lop_assign (E rfl)) rfl ?_
  refine lo (lop_assign (E rfl)) rfl ?_
  refine leT ?_
  (refine ctlT ?_)
  refine rgT ?_
  refine lo (lop_move (E rfl)) rfl ?_
  (first | refine ln rfl rfl rfl rfl ?_ | refine lw rfl rfl (lop_no (v := .bool false)) rfl ?_ | refine pu [] Try.call69 (ref_class _) rfl argsT nofT ?_ | refine pug [] rfl rfl Try.call69 (fun _ => (ref_class _)) rfl argsT nofT ?_ | refine puw [] rfl rfl Try.call69 (fun _ => (ref_class _)) rfl argsT nofT ?_)
  refine lo (lop_move (E rfl)) rfl ?_
  refine lo (lop_extract (E rfl) rfl) rfl ?_
  refine lo (lop_extract (E rfl) rfl) rfl ?_
  refine lo (lop_assign (E rfl)) rfl ?_
  refine lo (lop_assign (E rfl)) rfl ?_
  refine leT ?_
  (refine ctlT ?_)
  refine rgT ?_
  refine lo (lop_move (E rfl)) rfl ?_
  refine lo (lop_eql (E rfl) (E rfl)) rfl ?_
  refine lo (lop_assign (E rfl)) rfl ?_
  refine leT ?_
  (refine ctlT ?_)
  refine sw_cond rfl (fun g1 => ?_) (fun g1 => ?_)
  · (refine ctlT ?_)
    refine rgT ?_
    refine lo (lop_assign (E rfl)) rfl ?_
    refine lo (lop_assign (E rfl)) rfl ?_
    refine lo (lop_assign (E rfl)) rfl ?_
    refine lo (lop_assign (E rfl)) rfl ?_
    refine leT ?_
    (refine ctlT ?_)
    (apply aend; (exact resT))
    · (unfold rkN; simp only [g1, if_true, if_false, Bool.false_eq_true]; exact ⟨rfl, rfl⟩)
    · (exact stleT)
  (refine ctlT ?_)
  refine rgT ?_
  refine lo (lop_move (E rfl)) rfl ?_
  refine lo (lop_eql (E rfl) (E rfl)) rfl ?_
  refine lo (lop_assign (E rfl)) rfl ?_
  refine leT ?_
  (refine ctlT ?_)
  refine sw_cond rfl (fun g2 => ?_) (fun g2 => ?_)
  · (refine ctlT ?_)
    refine rgT ?_
    refine lo (lop_move (E rfl)) rfl ?_
    refine lo (lop_assign (E rfl)) rfl ?_
    refine lo (lop_assign (E rfl)) rfl ?_
    refine lo (lop_assign (E rfl)) rfl ?_
    refine lo (lop_assign (E rfl)) rfl ?_
    refine leT ?_
    (refine ctlT ?_)
    (apply aend; (exact resT))
    · (unfold rkN; simp only [g1, g2, if_true, if_false, Bool.false_eq_true]; exact ⟨rfl, rfl⟩)
    · (exact stleT)
  (refine ctlT ?_)
  refine rgT ?_
  refine lo (lop_move (E rfl)) rfl ?_
  refine lo (lop_leq (E rfl) (E rfl)) rfl ?_
  refine lo (lop_assign (E rfl)) rfl ?_
  refine leT ?_
  (refine ctlT ?_)
  refine sw_cond rfl (fun g3 => ?_) (fun g3 => ?_)
  · (refine ctlT ?_)
    refine rgT ?_
    refine lo (lop_move (E rfl)) rfl ?_
    refine lo (lop_assign (E rfl)) rfl ?_
    refine lo (lop_assign (E rfl)) rfl ?_
    refine lo (lop_assign (E rfl)) rfl ?_
    refine lo (lop_assign (E rfl)) rfl ?_
    refine leT ?_
    (refine ctlT ?_)
    (apply aend; (exact resT))
    · (unfold rkN; simp only [g1, g2, g3, if_true, if_false, Bool.false_eq_true]; exact ⟨rfl, rfl⟩)
    · (exact stleT)
  (refine ctlT ?_)
  refine rgT ?_
  refine lo (lop_move (E rfl)) rfl ?_
  refine lo (lop_leq (E rfl) (E rfl)) rfl ?_
  refine lo (lop_assign (E rfl)) rfl ?_
  refine leT ?_
  (refine ctlT ?_)
  refine sw_cond rfl (fun g4 => ?_) (fun g4 => ?_)
  · (refine ctlT ?_)
    refine rgT ?_
    refine lo (lop_move (E rfl)) rfl ?_
    refine lo (lop_move (E rfl)) rfl ?_
    refine lo (lop_assign (E rfl)) rfl ?_
    refine lo (lop_assign (E rfl)) rfl ?_
    refine lo (lop_assign (E rfl)) rfl ?_
    refine lo (lop_assign (E rfl)) rfl ?_
    refine leT ?_
    (refine ctlT ?_)
    (apply aend; (exact resT))
    · (unfold rkN; simp only [g1, g2, g3, g4, if_true, if_false, Bool.false_eq_true]; exact ⟨rfl, rfl⟩)
    · (exact stleT)
  (refine ctlT ?_)
  refine rgT ?_
  refine lo (lop_move (E rfl)) rfl ?_
  refine lo (lop_leq (E rfl) (E rfl)) rfl ?_
  refine lo (lop_assign (E rfl)) rfl ?_
  refine leT ?_
  (refine ctlT ?_)
  refine sw_cond rfl (fun g5 => ?_) (fun g5 => ?_)
  · (refine ctlT ?_)
    refine rgT ?_
    refine lo (lop_move (E rfl)) rfl ?_
    refine lo (lop_move (E rfl)) rfl ?_
    refine lo (lop_assign (E rfl)) rfl ?_
    refine lo (lop_assign (E rfl)) rfl ?_
    refine lo (lop_assign (E rfl)) rfl ?_
    refine lo (lop_assign (E rfl)) rfl ?_
    refine leT ?_
    (refine ctlT ?_)
    (apply aend; (exact resT))
    · (unfold rkN; simp only [g1, g2, g3, g4, g5, if_true, if_false, Bool.false_eq_true]; exact ⟨rfl, rfl⟩)
    · (exact stleT)
  (refine ctlT ?_)
  refine rgT ?_
  refine lo (lop_move (E rfl)) rfl ?_
  refine lo (lop_eql (E rfl) (E rfl)) rfl ?_
  refine lo (lop_assign (E rfl)) rfl ?_
  refine leT ?_
  (refine ctlT ?_)
  refine sw_cond rfl (fun g6 => ?_) (fun g6 => ?_)
  · (refine ctlT ?_)
    refine rgT ?_
    refine lo (lop_move (E rfl)) rfl ?_
    refine lo (lop_assign (E rfl)) rfl ?_
    refine lo (lop_assign (E rfl)) rfl ?_
    refine lo (lop_assign (E rfl)) rfl ?_
    refine lo (lop_assign (E rfl)) rfl ?_
    refine leT ?_
    (refine ctlT ?_)
    (apply aend; (exact resT))
    · (unfold rkN; simp only [g1, g2, g3, g4, g5, g6, if_true, if_false, Bool.false_eq_true]; exact ⟨rfl, rfl⟩)
    · (exact stleT)
  (refine ctlT ?_)
  refine rgT ?_
  refine lo (lop_move (E rfl)) rfl ?_
  refine lo (lop_assign (E rfl)) rfl ?_
  refine lo (lop_assign (E rfl)) rfl ?_
  refine lo (lop_assign (E rfl)) rfl ?_
  refine lo (lop_assign (E rfl)) rfl ?_
  refine leT ?_
  (refine ctlT ?_)
  (apply aend; (exact resT))
  · (unfold rkN; simp only [g1, g2, g3, g4, g5, g6, if_true, if_false, Bool.false_eq_true]; exact ⟨rfl, rfl⟩)
  · (exact stleT)
def formW (op : Int) (k : Bool) : Int :=
  if (op == 0 || (op == 1 || (op == 5 || (op == 11 || (op == 15 || (op == 26 || op == 27)))))) = true then 1
  else if (op == 2 || (op == 3 || op == 4)) = true then 2
  else if (op == 12 || (op == 13 || (op == 16 || (op == 32 || (op == 33 || (op == 34 || (op == 35 || op == 36))))))) = true then 3
  else if (op == 14) = true then 4 else if (op == 17) = true then 5
  else if (op == 40 || (op == 41 || (op == 44 || (op == 45 || (op == 54 || (op == 55 || op == 58)))))) = true then 6
  else if (op == 63 || op == 64) = true then 7 else if (op == 65) = true then 8 else if (op == 66) = true then 9
  else if k = true then 1 else 0
set_option maxRecDepth 100000 in
theorem ref_form (op : Int) : SCall Try.prog 27 [.int .i64 op] [] (fun x σ => x = .int .i64 (formW op (rkN op).2.2.2) ∧ σ = []) := by
  refine scall_of (n := 56) (ks := [0, 2, 6, 7, 8, 16, 20, 29, 31, 33, 41, 44, 46, 55]) Try.func27 rfl rfl (Nat.le_of_ble_eq_true rfl) ?_
  (refine ctlT ?_)
  refine rgT ?_
  refine lo (lop_assign (E rfl)) rfl ?_
  refine leT ?_
  (refine ctlT ?_)
  refine rgT ?_
  refine lo (lop_move (E rfl)) rfl ?_
  refine leT ?_
  (refine ctlT ?_)
  refine rgT ?_
  refine lo (lop_eql (E rfl) (E rfl)) rfl ?_
  refine lo (lop_assign (E rfl)) rfl ?_
  refine leT ?_
  (refine ctlT ?_)
  apply sw_orr rfl; exact fdelT
  · intro _; (refine ctlT ?_)
    refine rgT ?_
    refine lo (lop_eql (E rfl) (E rfl)) rfl ?_
    refine lo (lop_assign (E rfl)) rfl ?_
    refine leT ?_
    (refine ctlT ?_)
    apply sw_orq rfl; exact fdelT
    · intro _; (refine ctlT ?_)
      refine rgT ?_
      refine lo (lop_eql (E rfl) (E rfl)) rfl ?_
      refine lo (lop_assign (E rfl)) rfl ?_
      refine leT ?_
      (refine ctlT ?_)
      apply sw_orq rfl; exact fdelT
      · intro _; (refine ctlT ?_)
        refine rgT ?_
        refine lo (lop_eql (E rfl) (E rfl)) rfl ?_
        refine lo (lop_assign (E rfl)) rfl ?_
        refine leT ?_
        (refine ctlT ?_)
        apply sw_orq rfl; exact fdelT
        · intro _; (refine ctlT ?_)
          refine rgT ?_
          refine lo (lop_eql (E rfl) (E rfl)) rfl ?_
          refine lo (lop_assign (E rfl)) rfl ?_
          refine leT ?_
          (refine ctlT ?_)
          apply sw_orq rfl; exact fdelT
          · intro _; (refine ctlT ?_)
            refine rgT ?_
            refine lo (lop_eql (E rfl) (E rfl)) rfl ?_
            refine lo (lop_assign (E rfl)) rfl ?_
            refine leT ?_
            (refine ctlT ?_)
            apply sw_orq rfl; exact fdelT
            · intro _; (refine ctlT ?_)
              refine rgT ?_
              refine lo (lop_eql (E rfl) (E rfl)) rfl ?_
              refine lo (lop_assign (E rfl)) rfl ?_
              refine leT ?_
              (refine ctlT ?_)
              (exact sgoT)
            (exact sgoT)
          (exact sgoT)
        (exact sgoT)
      (exact sgoT)
    (exact sgoT)
  (refine ctlT ?_)
  refine sw_cond rfl (fun g1 => ?_) (fun g1 => ?_)
  · (refine ctlT ?_)
    refine rgT ?_
    refine lo (lop_assign (E rfl)) rfl ?_
    refine leT ?_
    (refine ctlT ?_)
    (apply aend; (exact resT))
    · (unfold formW; simp only [g1, if_true, if_false, Bool.false_eq_true]; exact ⟨rfl, rfl⟩)
    · (exact stleT)
  (refine ctlT ?_)
  refine rgT ?_
  refine lo (lop_eql (E rfl) (E rfl)) rfl ?_
  refine lo (lop_assign (E rfl)) rfl ?_
  refine leT ?_
  (refine ctlT ?_)
  apply sw_orr rfl; exact fdelT
  · intro _; (refine ctlT ?_)
    refine rgT ?_
    refine lo (lop_eql (E rfl) (E rfl)) rfl ?_
    refine lo (lop_assign (E rfl)) rfl ?_
    refine leT ?_
    (refine ctlT ?_)
    apply sw_orq rfl; exact fdelT
    · intro _; (refine ctlT ?_)
      refine rgT ?_
      refine lo (lop_eql (E rfl) (E rfl)) rfl ?_
      refine lo (lop_assign (E rfl)) rfl ?_
      refine leT ?_
      (refine ctlT ?_)
      (exact sgoT)
    (exact sgoT)
  (refine ctlT ?_)
  refine sw_cond rfl (fun g2 => ?_) (fun g2 => ?_)
  · (refine ctlT ?_)
    refine rgT ?_
    refine lo (lop_assign (E rfl)) rfl ?_
    refine leT ?_
    (refine ctlT ?_)
    (apply aend; (exact resT))
    · (unfold formW; simp only [g1, g2, if_true, if_false, Bool.false_eq_true]; exact ⟨rfl, rfl⟩)
    · (exact stleT)
  (refine ctlT ?_)
  refine rgT ?_
  refine lo (lop_eql (E rfl) (E rfl)) rfl ?_
  refine lo (lop_assign (E rfl)) rfl ?_
  refine leT ?_
  (refine ctlT ?_)
  apply sw_orr rfl; exact fdelT
  · intro _; (refine ctlT ?_)
    refine rgT ?_
    refine lo (lop_eql (E rfl) (E rfl)) rfl ?_
    refine lo (lop_assign (E rfl)) rfl ?_
    refine leT ?_
    (refine ctlT ?_)
    apply sw_orq rfl; exact fdelT
    · intro _; (refine ctlT ?_)
      refine rgT ?_
      refine lo (lop_eql (E rfl) (E rfl)) rfl ?_
      refine lo (lop_assign (E rfl)) rfl ?_
      refine leT ?_
      (refine ctlT ?_)
      apply sw_orq rfl; exact fdelT
      · intro _; (refine ctlT ?_)
        refine rgT ?_
        refine lo (lop_eql (E rfl) (E rfl)) rfl ?_
        refine lo (lop_assign (E rfl)) rfl ?_
        refine leT ?_
        (refine ctlT ?_)
        apply sw_orq rfl; exact fdelT
        · intro _; (refine ctlT ?_)
          refine rgT ?_
          refine lo (lop_eql (E rfl) (E rfl)) rfl ?_
          refine lo (lop_assign (E rfl)) rfl ?_
          refine leT ?_
          (refine ctlT ?_)
          apply sw_orq rfl; exact fdelT
          · intro _; (refine ctlT ?_)
            refine rgT ?_
            refine lo (lop_eql (E rfl) (E rfl)) rfl ?_
            refine lo (lop_assign (E rfl)) rfl ?_
            refine leT ?_
            (refine ctlT ?_)
            apply sw_orq rfl; exact fdelT
            · intro _; (refine ctlT ?_)
              refine rgT ?_
              refine lo (lop_eql (E rfl) (E rfl)) rfl ?_
              refine lo (lop_assign (E rfl)) rfl ?_
              refine leT ?_
              (refine ctlT ?_)
              apply sw_orq rfl; exact fdelT
              · intro _; (refine ctlT ?_)
                refine rgT ?_
                refine lo (lop_eql (E rfl) (E rfl)) rfl ?_
                refine lo (lop_assign (E rfl)) rfl ?_
                refine leT ?_
                (refine ctlT ?_)
                (exact sgoT)
              (exact sgoT)
            (exact sgoT)
          (exact sgoT)
        (exact sgoT)
      (exact sgoT)
    (exact sgoT)
  (refine ctlT ?_)
  refine sw_cond rfl (fun g3 => ?_) (fun g3 => ?_)
  · (refine ctlT ?_)
    refine rgT ?_
    refine lo (lop_assign (E rfl)) rfl ?_
    refine leT ?_
    (refine ctlT ?_)
    (apply aend; (exact resT))
    · (unfold formW; simp only [g1, g2, g3, if_true, if_false, Bool.false_eq_true]; exact ⟨rfl, rfl⟩)
    · (exact stleT)
  (refine ctlT ?_)
  refine rgT ?_
  refine lo (lop_eql (E rfl) (E rfl)) rfl ?_
  refine lo (lop_assign (E rfl)) rfl ?_
  refine leT ?_
  (refine ctlT ?_)
  refine sw_cond rfl (fun g4 => ?_) (fun g4 => ?_)
  · (refine ctlT ?_)
    refine rgT ?_
    refine lo (lop_assign (E rfl)) rfl ?_
    refine leT ?_
    (refine ctlT ?_)
    (apply aend; (exact resT))
    · (unfold formW; simp only [g1, g2, g3, g4, if_true, if_false, Bool.false_eq_true]; exact ⟨rfl, rfl⟩)
    · (exact stleT)
  (refine ctlT ?_)
  refine rgT ?_
  refine lo (lop_eql (E rfl) (E rfl)) rfl ?_
  refine lo (lop_assign (E rfl)) rfl ?_
  refine leT ?_
  (refine ctlT ?_)
  refine sw_cond rfl (fun g5 => ?_) (fun g5 => ?_)
  · (refine ctlT ?_)
    refine rgT ?_
    refine lo (lop_assign (E rfl)) rfl ?_
    refine leT ?_
    (refine ctlT ?_)
    (apply aend; (exact resT))
    · (unfold formW; simp only [g1, g2, g3, g4, g5, if_true, if_false, Bool.false_eq_true]; exact ⟨rfl, rfl⟩)
    · (exact stleT)
  (refine ctlT ?_)
  refine rgT ?_
  refine lo (lop_eql (E rfl) (E rfl)) rfl ?_
  refine lo (lop_assign (E rfl)) rfl ?_
  refine leT ?_
  (refine ctlT ?_)
  apply sw_orr rfl; exact fdelT
  · intro _; (refine ctlT ?_)
    refine rgT ?_
    refine lo (lop_eql (E rfl) (E rfl)) rfl ?_
    refine lo (lop_assign (E rfl)) rfl ?_
    refine leT ?_
    (refine ctlT ?_)
    apply sw_orq rfl; exact fdelT
    · intro _; (refine ctlT ?_)
      refine rgT ?_
      refine lo (lop_eql (E rfl) (E rfl)) rfl ?_
      refine lo (lop_assign (E rfl)) rfl ?_
      refine leT ?_
      (refine ctlT ?_)
      apply sw_orq rfl; exact fdelT
      · intro _; (refine ctlT ?_)
        refine rgT ?_
        refine lo (lop_eql (E rfl) (E rfl)) rfl ?_
        refine lo (lop_assign (E rfl)) rfl ?_
        refine leT ?_
        (refine ctlT ?_)
        apply sw_orq rfl; exact fdelT
        · intro _; (refine ctlT ?_)
          refine rgT ?_
          refine lo (lop_eql (E rfl) (E rfl)) rfl ?_
          refine lo (lop_assign (E rfl)) rfl ?_
          refine leT ?_
          (refine ctlT ?_)
          apply sw_orq rfl; exact fdelT
          · intro _; (refine ctlT ?_)
            refine rgT ?_
            refine lo (lop_eql (E rfl) (E rfl)) rfl ?_
            refine lo (lop_assign (E rfl)) rfl ?_
            refine leT ?_
            (refine ctlT ?_)
            apply sw_orq rfl; exact fdelT
            · intro _; (refine ctlT ?_)
              refine rgT ?_
              refine lo (lop_eql (E rfl) (E rfl)) rfl ?_
              refine lo (lop_assign (E rfl)) rfl ?_
              refine leT ?_
              (refine ctlT ?_)
              (exact sgoT)
            (exact sgoT)
          (exact sgoT)
        (exact sgoT)
      (exact sgoT)
    (exact sgoT)
  (refine ctlT ?_)
  refine sw_cond rfl (fun g6 => ?_) (fun g6 => ?_)
  · (refine ctlT ?_)
    refine rgT ?_
    refine lo (lop_assign (E rfl)) rfl ?_
    refine leT ?_
    (refine ctlT ?_)
    (apply aend; (exact resT))
    · (unfold formW; simp only [g1, g2, g3, g4, g5, g6, if_true, if_false, Bool.false_eq_true]; exact ⟨rfl, rfl⟩)
    · (exact stleT)
  (refine ctlT ?_)
  refine rgT ?_
  refine lo (lop_eql (E rfl) (E rfl)) rfl ?_
  refine lo (lop_assign (E rfl)) rfl ?_
  refine leT ?_
  (refine ctlT ?_)
  apply sw_orr rfl; exact fdelT
  · intro _; (refine ctlT ?_)
    refine rgT ?_
    refine lo (lop_eql (E rfl) (E rfl)) rfl ?_
    refine lo (lop_assign (E rfl)) rfl ?_
    refine leT ?_
    (refine ctlT ?_)
    (exact sgoT)
  (refine ctlT ?_)
  refine sw_cond rfl (fun g7 => ?_) (fun g7 => ?_)
  · (refine ctlT ?_)
    refine rgT ?_
    refine lo (lop_assign (E rfl)) rfl ?_
    refine leT ?_
    (refine ctlT ?_)
    (apply aend; (exact resT))
    · (unfold formW; simp only [g1, g2, g3, g4, g5, g6, g7, if_true, if_false, Bool.false_eq_true]; exact ⟨rfl, rfl⟩)
    · (exact stleT)
  (refine ctlT ?_)
  refine rgT ?_
  refine lo (lop_eql (E rfl) (E rfl)) rfl ?_
  refine lo (lop_assign (E rfl)) rfl ?_
  refine leT ?_
  (refine ctlT ?_)
  refine sw_cond rfl (fun g8 => ?_) (fun g8 => ?_)
  · (refine ctlT ?_)
    refine rgT ?_
    refine lo (lop_assign (E rfl)) rfl ?_
    refine leT ?_
    (refine ctlT ?_)
    (apply aend; (exact resT))
    · (unfold formW; simp only [g1, g2, g3, g4, g5, g6, g7, g8, if_true, if_false, Bool.false_eq_true]; exact ⟨rfl, rfl⟩)
    · (exact stleT)
  (refine ctlT ?_)
  refine rgT ?_
  refine lo (lop_eql (E rfl) (E rfl)) rfl ?_
  refine lo (lop_assign (E rfl)) rfl ?_
  refine leT ?_
  (refine ctlT ?_)
  refine sw_cond rfl (fun g9 => ?_) (fun g9 => ?_)
  · (refine ctlT ?_)
    refine rgT ?_
    refine lo (lop_assign (E rfl)) rfl ?_
    refine leT ?_
    (refine ctlT ?_)
    (apply aend; (exact resT))
    · (unfold formW; simp only [g1, g2, g3, g4, g5, g6, g7, g8, g9, if_true, if_false, Bool.false_eq_true]; exact ⟨rfl, rfl⟩)
    · (exact stleT)
  (refine ctlT ?_)
  refine rgT ?_
  refine lo (lop_move (E rfl)) rfl ?_
  (first | refine ln rfl rfl rfl rfl ?_ | refine lw rfl rfl (lop_no (v := .bool false)) rfl ?_ | refine pu [] Try.call56 (ref_kinds _) rfl argsT nofT ?_ | refine pug [] rfl rfl Try.call56 (fun _ => (ref_kinds _)) rfl argsT nofT ?_ | refine puw [] rfl rfl Try.call56 (fun _ => (ref_kinds _)) rfl argsT nofT ?_)
  refine lo (lop_move (E rfl)) rfl ?_
  refine lo (lop_extract (E rfl) rfl) rfl ?_
  refine lo (lop_extract (E rfl) rfl) rfl ?_
  refine lo (lop_extract (E rfl) rfl) rfl ?_
  refine lo (lop_extract (E rfl) rfl) rfl ?_
  refine lo (lop_assign (E rfl)) rfl ?_
  refine lo (lop_assign (E rfl)) rfl ?_
  refine lo (lop_assign (E rfl)) rfl ?_
  refine lo (lop_assign (E rfl)) rfl ?_
  refine leT ?_
  (refine ctlT ?_)
  refine rgT ?_
  refine lo (lop_move (E rfl)) rfl ?_
  refine leT ?_
  (refine ctlT ?_)
  refine sw_cond rfl (fun g10 => ?_) (fun g10 => ?_)
  · (refine ctlT ?_)
    refine rgT ?_
    refine lo (lop_assign (E rfl)) rfl ?_
    refine leT ?_
    (refine ctlT ?_)
    (apply aend; (exact resT))
    · (unfold formW; simp only [g1, g2, g3, g4, g5, g6, g7, g8, g9, g10, if_true, if_false, Bool.false_eq_true]; exact ⟨rfl, rfl⟩)
    · (exact stleT)
  (refine ctlT ?_)
  refine rgT ?_
  refine lo (lop_assign (E rfl)) rfl ?_
  refine leT ?_
  (refine ctlT ?_)
  (apply aend; (exact resT))
  · (unfold formW; simp only [g1, g2, g3, g4, g5, g6, g7, g8, g9, g10, if_true, if_false, Bool.false_eq_true]; exact ⟨rfl, rfl⟩)
  · (exact stleT)
theorem ints_kinds_ok (op : Int) : SCall Try.prog 60 [.int .i64 op] [] (fun x _ => ∃ a b, x = .tup [a, b, .bool (kN op).2.2]) :=
  (ints_kinds op).mono fun x σ h => by
    unfold kindsR at h
    split at h
    · next e => obtain ⟨q, rfl, -⟩ := h; exact ⟨_, _, by rw [e]⟩
    · next e => obtain ⟨rfl, -⟩ := h; exact ⟨_, _, by rw [show (kN op).2.2 = false by simpa using e]⟩
set_option maxRecDepth 100000 in
theorem instr_form (op : Int) : SCall Try.prog 40 [.int .i64 op] [] (fun x σ => x = .int .i64 (formW op (kN op).2.2) ∧ σ = []) := by
  refine scall_of (n := 54) (ks := [0, 2, 5, 6, 7, 15, 19, 28, 30, 32, 40, 43, 45, 53]) Try.func40 rfl rfl (Nat.le_of_ble_eq_true rfl) ?_
  (refine ctlT ?_)
  refine rgT ?_
  refine lo (lop_assign (E rfl)) rfl ?_
  refine leT ?_
  (refine ctlT ?_)
  refine rgT ?_
  refine lo (lop_move (E rfl)) rfl ?_
  refine leT ?_
  (refine ctlT ?_)
  refine rgT ?_
  refine lo (lop_eql (E rfl) (E rfl)) rfl ?_
  refine lo (lop_assign (E rfl)) rfl ?_
  refine leT ?_
  (refine ctlT ?_)
  apply sw_orr rfl; exact fdelT
  · intro _; (refine ctlT ?_)
    refine rgT ?_
    refine lo (lop_eql (E rfl) (E rfl)) rfl ?_
    refine lo (lop_assign (E rfl)) rfl ?_
    refine leT ?_
    (refine ctlT ?_)
    apply sw_orq rfl; exact fdelT
    · intro _; (refine ctlT ?_)
      refine rgT ?_
      refine lo (lop_eql (E rfl) (E rfl)) rfl ?_
      refine lo (lop_assign (E rfl)) rfl ?_
      refine leT ?_
      (refine ctlT ?_)
      apply sw_orq rfl; exact fdelT
      · intro _; (refine ctlT ?_)
        refine rgT ?_
        refine lo (lop_eql (E rfl) (E rfl)) rfl ?_
        refine lo (lop_assign (E rfl)) rfl ?_
        refine leT ?_
        (refine ctlT ?_)
        apply sw_orq rfl; exact fdelT
        · intro _; (refine ctlT ?_)
          refine rgT ?_
          refine lo (lop_eql (E rfl) (E rfl)) rfl ?_
          refine lo (lop_assign (E rfl)) rfl ?_
          refine leT ?_
          (refine ctlT ?_)
          apply sw_orq rfl; exact fdelT
          · intro _; (refine ctlT ?_)
            refine rgT ?_
            refine lo (lop_eql (E rfl) (E rfl)) rfl ?_
            refine lo (lop_assign (E rfl)) rfl ?_
            refine leT ?_
            (refine ctlT ?_)
            apply sw_orq rfl; exact fdelT
            · intro _; (refine ctlT ?_)
              refine rgT ?_
              refine lo (lop_eql (E rfl) (E rfl)) rfl ?_
              refine lo (lop_assign (E rfl)) rfl ?_
              refine leT ?_
              (refine ctlT ?_)
              (exact sgoT)
            (exact sgoT)
          (exact sgoT)
        (exact sgoT)
      (exact sgoT)
    (exact sgoT)
  (refine ctlT ?_)
  refine sw_cond rfl (fun g1 => ?_) (fun g1 => ?_)
  · (refine ctlT ?_)
    refine rgT ?_
    refine lo (lop_assign (E rfl)) rfl ?_
    refine leT ?_
    (refine ctlT ?_)
    (apply aend; (exact resT))
    · (unfold formW; simp only [g1, if_true, if_false, Bool.false_eq_true]; exact ⟨rfl, rfl⟩)
    · (exact stleT)
  (refine ctlT ?_)
  refine rgT ?_
  refine lo (lop_eql (E rfl) (E rfl)) rfl ?_
  refine lo (lop_assign (E rfl)) rfl ?_
  refine leT ?_
  (refine ctlT ?_)
  apply sw_orr rfl; exact fdelT
  · intro _; (refine ctlT ?_)
    refine rgT ?_
    refine lo (lop_eql (E rfl) (E rfl)) rfl ?_
    refine lo (lop_assign (E rfl)) rfl ?_
    refine leT ?_
    (refine ctlT ?_)
    apply sw_orq rfl; exact fdelT
    · intro _; (refine ctlT ?_)
      refine rgT ?_
      refine lo (lop_eql (E rfl) (E rfl)) rfl ?_
      refine lo (lop_assign (E rfl)) rfl ?_
      refine leT ?_
      (refine ctlT ?_)
      (exact sgoT)
    (exact sgoT)
  (refine ctlT ?_)
  refine sw_cond rfl (fun g2 => ?_) (fun g2 => ?_)
  · (refine ctlT ?_)
    refine rgT ?_
    refine lo (lop_assign (E rfl)) rfl ?_
    refine leT ?_
    (refine ctlT ?_)
    (apply aend; (exact resT))
    · (unfold formW; simp only [g1, g2, if_true, if_false, Bool.false_eq_true]; exact ⟨rfl, rfl⟩)
    · (exact stleT)
  (refine ctlT ?_)
  refine rgT ?_
  refine lo (lop_eql (E rfl) (E rfl)) rfl ?_
  refine lo (lop_assign (E rfl)) rfl ?_
  refine leT ?_
  (refine ctlT ?_)
  apply sw_orr rfl; exact fdelT
  · intro _; (refine ctlT ?_)
    refine rgT ?_
    refine lo (lop_eql (E rfl) (E rfl)) rfl ?_
    refine lo (lop_assign (E rfl)) rfl ?_
    refine leT ?_
    (refine ctlT ?_)
    apply sw_orq rfl; exact fdelT
    · intro _; (refine ctlT ?_)
      refine rgT ?_
      refine lo (lop_eql (E rfl) (E rfl)) rfl ?_
      refine lo (lop_assign (E rfl)) rfl ?_
      refine leT ?_
      (refine ctlT ?_)
      apply sw_orq rfl; exact fdelT
      · intro _; (refine ctlT ?_)
        refine rgT ?_
        refine lo (lop_eql (E rfl) (E rfl)) rfl ?_
        refine lo (lop_assign (E rfl)) rfl ?_
        refine leT ?_
        (refine ctlT ?_)
        apply sw_orq rfl; exact fdelT
        · intro _; (refine ctlT ?_)
          refine rgT ?_
          refine lo (lop_eql (E rfl) (E rfl)) rfl ?_
          refine lo (lop_assign (E rfl)) rfl ?_
          refine leT ?_
          (refine ctlT ?_)
          apply sw_orq rfl; exact fdelT
          · intro _; (refine ctlT ?_)
            refine rgT ?_
            refine lo (lop_eql (E rfl) (E rfl)) rfl ?_
            refine lo (lop_assign (E rfl)) rfl ?_
            refine leT ?_
            (refine ctlT ?_)
            apply sw_orq rfl; exact fdelT
            · intro _; (refine ctlT ?_)
              refine rgT ?_
              refine lo (lop_eql (E rfl) (E rfl)) rfl ?_
              refine lo (lop_assign (E rfl)) rfl ?_
              refine leT ?_
              (refine ctlT ?_)
              apply sw_orq rfl; exact fdelT
              · intro _; (refine ctlT ?_)
                refine rgT ?_
                refine lo (lop_eql (E rfl) (E rfl)) rfl ?_
                refine lo (lop_assign (E rfl)) rfl ?_
                refine leT ?_
                (refine ctlT ?_)
                (exact sgoT)
              (exact sgoT)
            (exact sgoT)
          (exact sgoT)
        (exact sgoT)
      (exact sgoT)
    (exact sgoT)
  (refine ctlT ?_)
  refine sw_cond rfl (fun g3 => ?_) (fun g3 => ?_)
  · (refine ctlT ?_)
    refine rgT ?_
    refine lo (lop_assign (E rfl)) rfl ?_
    refine leT ?_
    (refine ctlT ?_)
    (apply aend; (exact resT))
    · (unfold formW; simp only [g1, g2, g3, if_true, if_false, Bool.false_eq_true]; exact ⟨rfl, rfl⟩)
    · (exact stleT)
  (refine ctlT ?_)
  refine rgT ?_
  refine lo (lop_eql (E rfl) (E rfl)) rfl ?_
  refine lo (lop_assign (E rfl)) rfl ?_
  refine leT ?_
  (refine ctlT ?_)
  refine sw_cond rfl (fun g4 => ?_) (fun g4 => ?_)
  · (refine ctlT ?_)
    refine rgT ?_
    refine lo (lop_assign (E rfl)) rfl ?_
    refine leT ?_
    (refine ctlT ?_)
    (apply aend; (exact resT))
    · (unfold formW; simp only [g1, g2, g3, g4, if_true, if_false, Bool.false_eq_true]; exact ⟨rfl, rfl⟩)
    · (exact stleT)
  (refine ctlT ?_)
  refine rgT ?_
  refine lo (lop_eql (E rfl) (E rfl)) rfl ?_
  refine lo (lop_assign (E rfl)) rfl ?_
  refine leT ?_
  (refine ctlT ?_)
  refine sw_cond rfl (fun g5 => ?_) (fun g5 => ?_)
  · (refine ctlT ?_)
    refine rgT ?_
    refine lo (lop_assign (E rfl)) rfl ?_
    refine leT ?_
    (refine ctlT ?_)
    (apply aend; (exact resT))
    · (unfold formW; simp only [g1, g2, g3, g4, g5, if_true, if_false, Bool.false_eq_true]; exact ⟨rfl, rfl⟩)
    · (exact stleT)
  (refine ctlT ?_)
  refine rgT ?_
  refine lo (lop_eql (E rfl) (E rfl)) rfl ?_
  refine lo (lop_assign (E rfl)) rfl ?_
  refine leT ?_
  (refine ctlT ?_)
  apply sw_orr rfl; exact fdelT
  · intro _; (refine ctlT ?_)
    refine rgT ?_
    refine lo (lop_eql (E rfl) (E rfl)) rfl ?_
    refine lo (lop_assign (E rfl)) rfl ?_
    refine leT ?_
    (refine ctlT ?_)
    apply sw_orq rfl; exact fdelT
    · intro _; (refine ctlT ?_)
      refine rgT ?_
      refine lo (lop_eql (E rfl) (E rfl)) rfl ?_
      refine lo (lop_assign (E rfl)) rfl ?_
      refine leT ?_
      (refine ctlT ?_)
      apply sw_orq rfl; exact fdelT
      · intro _; (refine ctlT ?_)
        refine rgT ?_
        refine lo (lop_eql (E rfl) (E rfl)) rfl ?_
        refine lo (lop_assign (E rfl)) rfl ?_
        refine leT ?_
        (refine ctlT ?_)
        apply sw_orq rfl; exact fdelT
        · intro _; (refine ctlT ?_)
          refine rgT ?_
          refine lo (lop_eql (E rfl) (E rfl)) rfl ?_
          refine lo (lop_assign (E rfl)) rfl ?_
          refine leT ?_
          (refine ctlT ?_)
          apply sw_orq rfl; exact fdelT
          · intro _; (refine ctlT ?_)
            refine rgT ?_
            refine lo (lop_eql (E rfl) (E rfl)) rfl ?_
            refine lo (lop_assign (E rfl)) rfl ?_
            refine leT ?_
            (refine ctlT ?_)
            apply sw_orq rfl; exact fdelT
            · intro _; (refine ctlT ?_)
              refine rgT ?_
              refine lo (lop_eql (E rfl) (E rfl)) rfl ?_
              refine lo (lop_assign (E rfl)) rfl ?_
              refine leT ?_
              (refine ctlT ?_)
              (exact sgoT)
            (exact sgoT)
          (exact sgoT)
        (exact sgoT)
      (exact sgoT)
    (exact sgoT)
  (refine ctlT ?_)
  refine sw_cond rfl (fun g6 => ?_) (fun g6 => ?_)
  · (refine ctlT ?_)
    refine rgT ?_
    refine lo (lop_assign (E rfl)) rfl ?_
    refine leT ?_
    (refine ctlT ?_)
    (apply aend; (exact resT))
    · (unfold formW; simp only [g1, g2, g3, g4, g5, g6, if_true, if_false, Bool.false_eq_true]; exact ⟨rfl, rfl⟩)
    · (exact stleT)
  (refine ctlT ?_)
  refine rgT ?_
  refine lo (lop_eql (E rfl) (E rfl)) rfl ?_
  refine lo (lop_assign (E rfl)) rfl ?_
  refine leT ?_
  (refine ctlT ?_)
  apply sw_orr rfl; exact fdelT
  · intro _; (refine ctlT ?_)
    refine rgT ?_
    refine lo (lop_eql (E rfl) (E rfl)) rfl ?_
    refine lo (lop_assign (E rfl)) rfl ?_
    refine leT ?_
    (refine ctlT ?_)
    (exact sgoT)
  (refine ctlT ?_)
  refine sw_cond rfl (fun g7 => ?_) (fun g7 => ?_)
  · (refine ctlT ?_)
    refine rgT ?_
    refine lo (lop_assign (E rfl)) rfl ?_
    refine leT ?_
    (refine ctlT ?_)
    (apply aend; (exact resT))
    · (unfold formW; simp only [g1, g2, g3, g4, g5, g6, g7, if_true, if_false, Bool.false_eq_true]; exact ⟨rfl, rfl⟩)
    · (exact stleT)
  (refine ctlT ?_)
  refine rgT ?_
  refine lo (lop_eql (E rfl) (E rfl)) rfl ?_
  refine lo (lop_assign (E rfl)) rfl ?_
  refine leT ?_
  (refine ctlT ?_)
  refine sw_cond rfl (fun g8 => ?_) (fun g8 => ?_)
  · (refine ctlT ?_)
    refine rgT ?_
    refine lo (lop_assign (E rfl)) rfl ?_
    refine leT ?_
    (refine ctlT ?_)
    (apply aend; (exact resT))
    · (unfold formW; simp only [g1, g2, g3, g4, g5, g6, g7, g8, if_true, if_false, Bool.false_eq_true]; exact ⟨rfl, rfl⟩)
    · (exact stleT)
  (refine ctlT ?_)
  refine rgT ?_
  refine lo (lop_eql (E rfl) (E rfl)) rfl ?_
  refine lo (lop_assign (E rfl)) rfl ?_
  refine leT ?_
  (refine ctlT ?_)
  refine sw_cond rfl (fun g9 => ?_) (fun g9 => ?_)
  · (refine ctlT ?_)
    refine rgT ?_
    refine lo (lop_assign (E rfl)) rfl ?_
    refine leT ?_
    (refine ctlT ?_)
    (apply aend; (exact resT))
    · (unfold formW; simp only [g1, g2, g3, g4, g5, g6, g7, g8, g9, if_true, if_false, Bool.false_eq_true]; exact ⟨rfl, rfl⟩)
    · (exact stleT)
  (refine ctlT ?_)
  refine rgT ?_
  refine lo (lop_move (E rfl)) rfl ?_
  refine cw [] Try.call60 (ints_kinds_ok op) rfl ?_ ?_ ?_
  · (exact argsleT)
  · (exact stleT)
  rintro _ σ' ⟨a, b, rfl⟩ -
  (apply rs_sto; (exact nflT))
  refine lo (lop_move (E rfl)) rfl ?_
  refine lo (lop_extract (E rfl) rfl) rfl ?_
  refine lo (lop_extract (E rfl) rfl) rfl ?_
  refine lo (lop_extract (E rfl) rfl) rfl ?_
  refine lo (lop_assign (E rfl)) rfl ?_
  refine lo (lop_assign (E rfl)) rfl ?_
  refine lo (lop_assign (E rfl)) rfl ?_
  refine leT ?_
  (refine ctlT ?_)
  refine rgT ?_
  refine lo (lop_move (E rfl)) rfl ?_
  refine leT ?_
  (refine ctlT ?_)
  refine sw_cond rfl (fun g10 => ?_) (fun g10 => ?_)
  · (refine ctlT ?_)
    refine rgT ?_
    refine lo (lop_assign (E rfl)) rfl ?_
    refine leT ?_
    (refine ctlT ?_)
    (apply aend; (exact resT))
    · (unfold formW; simp only [g1, g2, g3, g4, g5, g6, g7, g8, g9, g10, if_true, if_false, Bool.false_eq_true]; exact ⟨rfl, rfl⟩)
    · (exact stleT)
  (refine ctlT ?_)
  refine rgT ?_
  refine lo (lop_assign (E rfl)) rfl ?_
  refine leT ?_
  (refine ctlT ?_)
  (apply aend; (exact resT))
  · (unfold formW; simp only [g1, g2, g3, g4, g5, g6, g7, g8, g9, g10, if_true, if_false, Bool.false_eq_true]; exact ⟨rfl, rfl⟩)
  · (exact stleT)
/-! ### the two are one -/
def kOk (op : Int) : Bool := decide (69 ≤ op ∧ op ≤ 90 ∨ 103 ≤ op ∧ op ≤ 138 ∨ op = 167 ∨ op = 172 ∨ op = 173)
theorem bt2_eq (n a b : Int) : bt2 n a b = decide (a ≤ n ∧ n ≤ b) := by
  unfold bt2
  by_cases h : a ≤ n <;> simp [h]
theorem ofN_zero (op : Int) : ((ofN op).1 == 0) = !decide (69 ≤ op ∧ op ≤ 90 ∨ 103 ≤ op ∧ op ≤ 138) := by
  unfold ofN
  simp only [bt2_eq, Bool.or_eq_true, decide_eq_true_eq]
  repeat' split
  · rw [decide_eq_true (by omega)]; rfl
  · rw [decide_eq_true (by omega)]; rfl
  · rw [decide_eq_true (by omega)]; rfl
  · rw [decide_eq_false (by omega)]; rfl
theorem kN_ok (op : Int) : (kN op).2.2 = kOk op := by
  unfold kN
  rw [ofN_zero]
  unfold kOk
  by_cases h1 : op = 167
  · subst h1; decide
  by_cases h2 : op = 172 ∨ op = 173
  · rcases h2 with rfl | rfl <;> decide
  by_cases h3 : 69 ≤ op ∧ op ≤ 90 ∨ 103 ≤ op ∧ op ≤ 138
  · rw [decide_eq_true h3, decide_eq_true (by omega)]
    repeat' split
    all_goals first | rfl | simp_all
  · rw [decide_eq_false h3, decide_eq_false (by omega), if_neg (by simp; omega), if_neg (by simp; omega)]
    rfl
theorem clsN_zero (op : Int) (h : -9223372036854775808 ≤ op ∧ op ≤ 9223372036854775807) : ((clsN op).1 == 0) = !kOk op := by
  unfold clsN kOk
  simp only [bt2_eq, Bool.or_eq_true, decide_eq_true_eq, beq_iff_eq]
  repeat' split
  all_goals first
    | (rw [decide_eq_true (by omega)]; simp only [IntKind.wrap_i64, Bool.not_true, beq_eq_false_iff_ne]; omega)
    | (rw [decide_eq_false (by omega)]; rfl)
theorem rkN_ok (op : Int) (h : -9223372036854775808 ≤ op ∧ op ≤ 9223372036854775807) : (rkN op).2.2.2 = kOk op := by
  unfold rkN
  rw [clsN_zero op h]
  cases kOk op
  · rfl
  · repeat' split
    all_goals first | rfl | simp_all
def formN (op : Int) : Int := formW op (kOk op)
end Go.Proofs.Ytkjfflabapeidaa
