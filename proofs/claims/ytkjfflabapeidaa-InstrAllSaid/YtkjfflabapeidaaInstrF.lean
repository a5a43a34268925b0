/-
  Reading parts of bytes: package instr's reader.
-/
import Derived.Test.YtkjfflabapeidaaInstrE
namespace Go.Proofs.Ytkjfflabapeidaa
open Go.RowKit Go.ChangeShapes Go.WideShapes Go.ChangeAt Go.Deep
set_option linter.unusedSimpArgs false
set_option linter.unusedVariables false
attribute [local irreducible] SW RS RD AThen ABlock

/-- a reader's parts: the bytes, where it is, its error -/
def rv (l : List Nat) (n : Nat) (e : Int) : List AV := [.ro 1 (l.map encU) .any, .int .i64 n, .int .i64 e]
def rdB (l : List Nat) (n : Nat) (e : Int) : Nat × Nat × Int :=
  if (e != 0) = true then (0, n, e) else if ((n : Int) == (l.length : Int)) = true then (0, n, 2) else (l[n]!, n + 1, e)
def rdU (l : List Nat) (lim : Int) (n : Nat) (e : Int) : Nat × Nat × Int :=
  if (e != 0) = true then (0, n, e) else if ((getU (l.drop n)).2.2 != 0) = true then (0, n, (getU (l.drop n)).2.2) else if decide (lim < ((getU (l.drop n)).1 : Int)) = true then (0, n, 1) else ((getU (l.drop n)).1, n + (getU (l.drop n)).2.1, (getU (l.drop n)).2.2)
def rdS (l : List Nat) (bits : Nat) (n : Nat) : Int × Nat × Int := ((getS bits (l.drop n)).1, n + (getS bits (l.drop n)).2.1, (getS bits (l.drop n)).2.2)
set_option maxRecDepth 100000 in
theorem rdr_byte (r : Nat) (l : List Nat) (hl : l.length ≤ 1000000) (hlt : ∀ x ∈ l, x < 256) (n : Nat) (hn : n ≤ l.length) (e : Int) : SCall Try.prog 50 [.ptr r 0] [(r, .box 81 (rv l n e))]
    (fun x σ => x = .int .i64 ((rdB l n e).1 : Nat) ∧ σ = [(r, .box 81 (rv l (rdB l n e).2.1 (rdB l n e).2.2))]) := by
  refine scall_of (n := 42) (ks := [0, 2, 3, 9]) Try.func50 rfl rfl (Nat.le_of_ble_eq_true rfl) ?_
  unfold rv
  (refine ctlT ?_)
  refine rgT ?_
  refine lo (lop_assign (E rfl)) rfl ?_
  refine leT ?_
  (refine ctlT ?_)
  refine rgT ?_
  refine lo (lop_move (E rfl)) rfl ?_
  refine z76 ?_
  refine z59 ?_
  refine z60 ?_
  refine lo (lop_neq (E rfl) (E rfl)) rfl ?_
  refine lo (lop_assign (E rfl)) rfl ?_
  refine leT ?_
  (refine ctlT ?_)
  refine sw_cond rfl (fun g1 => ?_) (fun g1 => ?_)
  · (refine ctlT ?_)
    refine rgT ?_
    refine lo (lop_assign (E rfl)) rfl ?_
    refine leT ?_
    (refine ctlT ?_)
    (apply aend; (exact resT))
    · (unfold rdB; simp only [g1, if_true, if_false, Bool.false_eq_true]; exact ⟨rfl, rfl⟩)
    · (exact stleT)
  (refine ctlT ?_)
  refine rgD [(0, true), (1, true), (2, true), (3, true), (4, true), (5, true), (6, true), (7, true), (8, true), (9, true), (10, true)] ?_
  refine dlo rfl (lop_move (E rfl)) rfl ?_
  refine z77 ?_
  refine z73 ?_
  refine z74 ?_
  refine dlo rfl (lop_move (E rfl)) rfl ?_
  refine z77 ?_
  refine z73 ?_
  refine z74 ?_
  refine z78 ?_
  refine z79 ?_
  refine dlo rfl (lop_assign (E rfl)) rfl ?_
  refine deT ?_
  (refine ctlT ?_)
  refine sw_cond rfl (fun g2 => ?_) (fun g2 => ?_)
  · (refine ctlT ?_)
    refine rgT ?_
    refine lo (lop_move (E rfl)) rfl ?_
    refine z76 ?_
    refine z59 ?_
    apply stp; rfl; rfl; rfl; rfl; (exact sputT)
    refine leT ?_
    (refine ctlT ?_)
    refine rgT ?_
    refine lo (lop_assign (E rfl)) rfl ?_
    refine leT ?_
    (refine ctlT ?_)
    (apply aend; (exact resT))
    · (unfold rdB; simp only [g1, g2, if_true, if_false, Bool.false_eq_true]; exact ⟨rfl, rfl⟩)
    · (exact stleT)
  (refine ctlT ?_)
  refine rgT ?_
  refine lo (lop_move (E rfl)) rfl ?_
  refine z76 ?_
  refine z59 ?_
  refine z60 ?_
  refine z17 ?_
  refine z76 ?_
  refine z59 ?_
  apply stp; rfl; rfl; rfl; rfl; (exact sputT)
  refine leT ?_
  (refine ctlT ?_)
  have hlt2 : n < l.length := by simp at g2; omega
  refine rgD [(0, true), (1, true), (2, true), (3, true), (4, true), (5, true), (6, true), (7, true), (8, true), (9, true), (10, true), (11, true), (12, true)] ?_
  refine dlo rfl (lop_move (E rfl)) rfl ?_
  refine z77 ?_
  refine z73 ?_
  refine z74 ?_
  refine dlo rfl (lop_move (E rfl)) rfl ?_
  refine z77 ?_
  refine z73 ?_
  refine z74 ?_
  refine z82 ?_
  rw [show (n : Int) + 1 - 1 = (n : Nat) by omega]
  refine z56 ?_
  refine z57 ?_
  rw [Int.toNat_natCast]
  have hb8 := getB_lt hlt n
  refine z83 ?_
  refine dlo rfl (lop_assign (E rfl)) rfl ?_
  refine deT ?_
  (refine ctlT ?_)
  (apply aend; (exact resT))
  · (unfold rdB; simp only [g1, g2, if_true, if_false, Bool.false_eq_true]; exact ⟨rfl, rfl⟩)
  · (exact stleT)
def rdZ (l : List Nat) (n : Nat) (e : Int) : Nat × Int := if (((rdB l n e).1 : Int) != 0) = true then ((rdB l n e).2.1, 1) else (rdB l n e).2
theorem resAV_nil : resAV [] = .tup [] := rfl
set_option maxRecDepth 100000 in
theorem rdr_zero (r : Nat) (l : List Nat) (hl : l.length ≤ 1000000) (hlt : ∀ x ∈ l, x < 256) (n : Nat) (hn : n ≤ l.length) (e : Int) : SCall Try.prog 53 [.ptr r 0] [(r, .box 81 (rv l n e))]
    (fun x σ => x = .tup [] ∧ σ = [(r, .box 81 (rv l (rdZ l n e).1 (rdZ l n e).2))]) := by
  refine scall_of (n := 8) (ks := [0, 4]) Try.func53 rfl rfl (Nat.le_of_ble_eq_true rfl) ?_
  unfold rv
  (refine ctlT ?_)
  refine rgT ?_
  refine lo (lop_move (E rfl)) rfl ?_
  refine cw [(r, .box 81 (rv l n e))] Try.call50 (rdr_byte r l hl hlt n hn e) rfl ?_ ?_ ?_
  · (exact argsleT)
  · (exact stleT)
  rintro _ σ' ⟨rfl, rfl⟩ -
  (apply rs_sto; (exact nflT))
  refine lo (lop_neq (E rfl) (E rfl)) rfl ?_
  refine leT ?_
  (refine ctlT ?_)
  unfold rv
  refine sw_cond rfl (fun g1 => ?_) (fun g1 => ?_)
  · (refine ctlT ?_)
    refine rgT ?_
    refine lo (lop_move (E rfl)) rfl ?_
    refine z76 ?_
    refine z59 ?_
    apply stp; rfl; rfl; rfl; rfl; (exact sputT)
    refine leT ?_
    (refine ctlT ?_)
    refine aend_n ?_
    (apply aend; (exact resT))
    · unfold rdZ; rw [if_pos g1]; exact ⟨rfl, rfl⟩
    · (exact stleT)
  · (refine ctlT ?_)
    refine aend_n ?_
    (apply aend; (exact resT))
    · unfold rdZ; rw [if_neg (by rw [g1]; simp)]; exact ⟨rfl, rfl⟩
    · (exact stleT)
theorem drop_encU {l : List Nat} {n : Nat} : List.take ((l.map encU).length - n) (List.drop n (l.map encU)) = (l.drop n).map encU := by
  rw [List.map_drop, List.take_of_length_le (by simp)]
theorem unsigned_yes {e : Int} {b : Bool} (h : (if (e == 0) = true then b else false) = true) : e = 0 ∧ b = true := by
  split at h
  · next h1 => exact ⟨by simpa using h1, h⟩
  · cases h
theorem unsigned_no {e : Int} {b : Bool} (h : (if (e == 0) = true then b else false) = false) (h0 : (e != 0) = false) : e = 0 ∧ b = false := by
  have h1 : e = 0 := by simpa using h0
  subst h1
  exact ⟨rfl, h⟩
set_option maxRecDepth 100000 in
theorem rdr_unsigned (r : Nat) (l : List Nat) (hl : l.length ≤ 1000000) (hlt : ∀ x ∈ l, x < 256) (lim : Int) (n : Nat) (hn : n ≤ l.length) (e : Int) : SCall Try.prog 52 [.ptr r 0, .int .i64 lim] [(r, .box 81 (rv l n e))]
    (fun x σ => x = .int .i64 ((rdU l lim n e).1 : Nat) ∧ σ = [(r, .box 81 (rv l (rdU l lim n e).2.1 (rdU l lim n e).2.2))]) := by
  have hbd := getU_bd (l.drop n)
  obtain ⟨hb1, hb2, hb3⟩ := hbd
  rw [List.length_drop] at hb2
  refine scall_of (n := 51) (ks := [0, 1, 4, 5, 6, 7, 12, 34, 40]) Try.func52 rfl rfl (Nat.le_of_ble_eq_true rfl) ?_
  unfold rv
  (refine ctlT ?_)
  refine rgT ?_
  refine lo (lop_assign (E rfl)) rfl ?_
  refine leT ?_
  (refine ctlT ?_)
  refine rgT ?_
  refine lo (lop_move (E rfl)) rfl ?_
  refine z76 ?_
  refine z59 ?_
  refine z60 ?_
  refine lo (lop_neq (E rfl) (E rfl)) rfl ?_
  refine leT ?_
  (refine ctlT ?_)
  refine sw_cond rfl (fun g1 => ?_) (fun g1 => ?_)
  · (refine ctlT ?_)
    refine rgT ?_
    refine lo (lop_assign (E rfl)) rfl ?_
    refine leT ?_
    (refine ctlT ?_)
    (apply aend; (exact resT))
    · (unfold rdU; simp only [g1, if_true, if_false, Bool.false_eq_true]; first | exact ⟨rfl, rfl⟩ | (have hd := unsigned_no g2 g3; simp only [hd.2, Bool.false_eq_true, if_false]; exact ⟨rfl, rfl⟩))
    · (exact stleT)
  (refine ctlT ?_)
  refine rgD [(0, true), (1, true), (2, true), (3, true), (4, true), (5, true), (6, true), (7, true), (8, true), (9, false), (10, true), (11, true), (12, true), (13, true), (14, true), (15, true), (16, true)] ?_
  refine dlo rfl (lop_move (E rfl)) rfl ?_
  refine z77 ?_
  refine z73 ?_
  refine z74 ?_
  refine dlo rfl (lop_move (E rfl)) rfl ?_
  refine z77 ?_
  refine z73 ?_
  refine z74 ?_
  refine z84 ?_
  rw [drop_encU]
  refine dpu [] rfl Try.call63 (leb_U (l.drop n) (by rw [List.length_drop]; omega) (fun x hx => hlt x (List.mem_of_mem_drop hx))) rfl argsT nofT ?_
  refine dlo rfl (lop_move (E rfl)) rfl ?_
  refine z85 ?_
  refine z85 ?_
  refine z85 ?_
  refine dlo rfl (lop_assign (E rfl)) rfl ?_
  refine dlo rfl (lop_assign (E rfl)) rfl ?_
  refine dlo rfl (lop_assign (E rfl)) rfl ?_
  refine deT ?_
  (refine ctlT ?_)
  refine rgT ?_
  refine lo (lop_move (E rfl)) rfl ?_
  refine lo (lop_eql (E rfl) (E rfl)) rfl ?_
  refine lo (lop_move (E rfl)) rfl ?_
  refine z4 ?_
  refine z80 ?_
  refine z4 ?_
  refine z81 ?_
  refine z7 ?_
  refine leT ?_
  (refine ctlT ?_)
  refine sw_cond rfl (fun g2 => ?_) (fun g2 => ?_)
  · (refine ctlT ?_)
    refine rgT ?_
    refine lo (lop_assign (E rfl)) rfl ?_
    refine leT ?_
    (refine ctlT ?_)
    refine rgT ?_
    refine lo (lop_move (E rfl)) rfl ?_
    refine lo (lop_move (E rfl)) rfl ?_
    refine z76 ?_
    refine z59 ?_
    apply stp; rfl; rfl; rfl; rfl; (exact sputT)
    refine leT ?_
    (refine ctlT ?_)
    refine rgT ?_
    refine lo (lop_move (E rfl)) rfl ?_
    refine lo (lop_neq (E rfl) (E rfl)) rfl ?_
    refine leT ?_
    (refine ctlT ?_)
    refine rgT ?_
    refine lo (lop_assign (E rfl)) rfl ?_
    refine leT ?_
    (refine ctlT ?_)
    (apply aend; (exact resT))
    · unfold rdU
      have hd := unsigned_yes g2
      simp only [g1, hd.1, hd.2, bne_self_eq_false, Bool.false_eq_true, if_true, if_false]
      exact ⟨rfl, rfl⟩
    · (exact stleT)
  (refine ctlT ?_)
  refine rgT ?_
  refine lo (lop_move (E rfl)) rfl ?_
  refine lo (lop_move (E rfl)) rfl ?_
  refine z76 ?_
  refine z59 ?_
  apply stp; rfl; rfl; rfl; rfl; (exact sputT)
  refine leT ?_
  (refine ctlT ?_)
  refine rgT ?_
  refine lo (lop_move (E rfl)) rfl ?_
  refine lo (lop_neq (E rfl) (E rfl)) rfl ?_
  refine leT ?_
  (refine ctlT ?_)
  refine sw_cond rfl (fun g3 => ?_) (fun g3 => ?_)
  · (refine ctlT ?_)
    refine rgT ?_
    refine lo (lop_assign (E rfl)) rfl ?_
    refine leT ?_
    (refine ctlT ?_)
    (apply aend; (exact resT))
    · (unfold rdU; simp only [g1, g2, g3, if_true, if_false, Bool.false_eq_true]; first | exact ⟨rfl, rfl⟩ | (have hd := unsigned_no g2 g3; simp only [hd.2, Bool.false_eq_true, if_false]; exact ⟨rfl, rfl⟩))
    · (exact stleT)
  (refine ctlT ?_)
  refine rgT ?_
  refine lo (lop_move (E rfl)) rfl ?_
  refine z76 ?_
  refine z59 ?_
  refine z60 ?_
  refine lo (lop_move (E rfl)) rfl ?_
  refine z17 ?_
  refine z76 ?_
  refine z59 ?_
  apply stp; rfl; rfl; rfl; rfl; (exact sputT)
  refine leT ?_
  (refine ctlT ?_)
  refine rgT ?_
  refine lo (lop_move (E rfl)) rfl ?_
  refine z44 ?_
  refine lo (lop_assign (E rfl)) rfl ?_
  refine leT ?_
  (refine ctlT ?_)
  (apply aend; (exact resT))
  · (unfold rdU; simp only [g1, g2, g3, if_true, if_false, Bool.false_eq_true]; first | exact ⟨rfl, rfl⟩ | (have hd := unsigned_no g2 g3; simp only [hd.2, Bool.false_eq_true, if_false]; exact ⟨rfl, rfl⟩))
  · (exact stleT)
set_option maxRecDepth 100000 in
theorem rdr_signed (r : Nat) (l : List Nat) (hl : l.length ≤ 1000000) (hlt : ∀ x ∈ l, x < 256) (bits : Nat) (hb : bits = 32 ∨ bits = 64) (n : Nat) (hn : n ≤ l.length) (e : Int) : SCall Try.prog 54 [.ptr r 0, .int .i64 bits] [(r, .box 81 (rv l n e))]
    (fun x σ => x = .int .i64 (rdS l bits n).1 ∧ σ = [(r, .box 81 (rv l (rdS l bits n).2.1 (rdS l bits n).2.2))]) := by
  have hbd := getS_bd bits (l.drop n)
  rw [List.length_drop] at hbd
  refine scall_of (n := 37) (ks := [0, 1, 4, 5, 6, 7]) Try.func54 rfl rfl (Nat.le_of_ble_eq_true rfl) ?_
  unfold rv rdS
  (refine ctlT ?_)
  refine rgT ?_
  refine lo (lop_assign (E rfl)) rfl ?_
  refine leT ?_
  (refine ctlT ?_)
  refine rgD [(0, true), (1, true), (2, true), (3, true), (4, true), (5, true), (6, true), (7, true), (8, true), (9, true), (10, false), (11, true), (12, true), (13, true), (14, true), (15, true), (16, true), (17, true)] ?_
  refine dlo rfl (lop_move (E rfl)) rfl ?_
  refine z77 ?_
  refine z73 ?_
  refine z74 ?_
  refine dlo rfl (lop_move (E rfl)) rfl ?_
  refine z77 ?_
  refine z73 ?_
  refine z74 ?_
  refine z84 ?_
  refine dlo rfl (lop_move (E rfl)) rfl ?_
  rw [drop_encU]
  refine dpu [] rfl Try.call64 (leb_S (l.drop n) (by rw [List.length_drop]; omega) (fun x hx => hlt x (List.mem_of_mem_drop hx)) bits hb) rfl argsT nofT ?_
  refine dlo rfl (lop_move (E rfl)) rfl ?_
  refine z85 ?_
  refine z85 ?_
  refine z85 ?_
  refine dlo rfl (lop_assign (E rfl)) rfl ?_
  refine dlo rfl (lop_assign (E rfl)) rfl ?_
  refine dlo rfl (lop_assign (E rfl)) rfl ?_
  refine deT ?_
  (refine ctlT ?_)
  refine rgT ?_
  refine lo (lop_move (E rfl)) rfl ?_
  refine lo (lop_move (E rfl)) rfl ?_
  refine lo (lop_move (E rfl)) rfl ?_
  refine z76 ?_
  refine z59 ?_
  refine z60 ?_
  refine lo (lop_move (E rfl)) rfl ?_
  refine z17 ?_
  refine lo (lop_move (E rfl)) rfl ?_
  refine z76 ?_
  refine z59 ?_
  apply stp; rfl; rfl; rfl; rfl; (exact sputT)
  refine z76 ?_
  refine z59 ?_
  apply stp; rfl; rfl; rfl; rfl; (exact sputT)
  refine leT ?_
  (refine ctlT ?_)
  refine rgT ?_
  refine lo (lop_move (E rfl)) rfl ?_
  refine lo (lop_assign (E rfl)) rfl ?_
  refine leT ?_
  (refine ctlT ?_)
  (apply aend; (exact resT))
  · exact ⟨rfl, rfl⟩
  · (exact stleT)
end Go.Proofs.Ytkjfflabapeidaa
