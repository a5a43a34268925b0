/-
  Reading parts of bytes, in the document's words; slices.Index at numbers; a block's kind.
-/
import Derived.Test.YtkjfflabapeidaaInstrF
namespace Go.Proofs.Ytkjfflabapeidaa
open Go.RowKit Go.ChangeShapes Go.WideShapes Go.ChangeAt Go.Deep
set_option linter.unusedSimpArgs false
set_option linter.unusedVariables false
attribute [local irreducible] SW RS RD AThen ABlock

def rfU (l : List Nat) (lim : Int) (n : Nat) (e : Int) : Nat × Nat × Int :=
  if (e != 0) = true then (0, n, e) else if (if ((getU (l.drop n)).2.2 == 0) = true then decide (lim < ((getU (l.drop n)).1 : Int)) else false) = true then ((getU (l.drop n)).1, n + (getU (l.drop n)).2.1, 1) else ((getU (l.drop n)).1, n + (getU (l.drop n)).2.1, (getU (l.drop n)).2.2)
def rfS (l : List Nat) (bits : Nat) (n : Nat) (e : Int) : Int × Nat × Int := if (e != 0) = true then (0, n, e) else rdS l bits n
set_option maxRecDepth 100000 in
theorem rfr_u (r : Nat) (l : List Nat) (hl : l.length ≤ 1000000) (hlt : ∀ x ∈ l, x < 256) (lim : Int) (n : Nat) (hn : n ≤ l.length) (e : Int) : SCall Try.prog 66 [.ptr r 0, .int .u64 lim] [(r, .box 100 (rv l n e))]
    (fun x σ => x = .int .i64 ((rfU l lim n e).1 : Nat) ∧ σ = [(r, .box 100 (rv l (rfU l lim n e).2.1 (rfU l lim n e).2.2))]) := by
  have hbd := getU_bd (l.drop n)
  obtain ⟨hb1, hb2, hb3⟩ := hbd
  rw [List.length_drop] at hb2
  refine scall_of (n := 49) (ks := [0, 1, 4, 5, 6, 7, 12, 33]) Try.func66 rfl rfl (Nat.le_of_ble_eq_true rfl) ?_
  unfold rv
  (refine ctlT ?_)
  refine rgT ?_
  refine lo (lop_assign (E rfl)) rfl ?_
  refine leT ?_
  (refine ctlT ?_)
  refine rgT ?_
  refine lo (lop_move (E rfl)) rfl ?_
  refine z76 ?_
  refine z59 ?_
  refine z60 ?_
  refine lo (lop_neq (E rfl) (E rfl)) rfl ?_
  refine leT ?_
  (refine ctlT ?_)
  refine sw_cond rfl (fun g1 => ?_) (fun g1 => ?_)
  · (refine ctlT ?_)
    refine rgT ?_
    refine lo (lop_assign (E rfl)) rfl ?_
    refine leT ?_
    (refine ctlT ?_)
    (apply aend; (exact resT))
    · (unfold rfU; simp only [g1, if_true, if_false, Bool.false_eq_true]; exact ⟨rfl, rfl⟩)
    · (exact stleT)
  (refine ctlT ?_)
  refine rgD [(0, true), (1, true), (2, true), (3, true), (4, true), (5, true), (6, true), (7, true), (8, true), (9, false), (10, true), (11, true), (12, true), (13, true), (14, true), (15, true), (16, true)] ?_
  refine dlo rfl (lop_move (E rfl)) rfl ?_
  refine z77 ?_
  refine z73 ?_
  refine z74 ?_
  refine dlo rfl (lop_move (E rfl)) rfl ?_
  refine z77 ?_
  refine z73 ?_
  refine z74 ?_
  refine z84 ?_
  rw [drop_encU]
  refine dpu [] rfl Try.call74 (ref_GetU (l.drop n) (by rw [List.length_drop]; omega) (fun x hx => hlt x (List.mem_of_mem_drop hx))) rfl argsT nofT ?_
  refine dlo rfl (lop_move (E rfl)) rfl ?_
  refine z85 ?_
  refine z85 ?_
  refine z85 ?_
  refine dlo rfl (lop_assign (E rfl)) rfl ?_
  refine dlo rfl (lop_assign (E rfl)) rfl ?_
  refine dlo rfl (lop_assign (E rfl)) rfl ?_
  refine deT ?_
  (refine ctlT ?_)
  refine rgT ?_
  refine lo (lop_move (E rfl)) rfl ?_
  refine lo (lop_eql (E rfl) (E rfl)) rfl ?_
  refine lo (lop_move (E rfl)) rfl ?_
  refine z4 ?_
  refine z4 ?_
  refine z81 ?_
  refine z7 ?_
  refine leT ?_
  (refine ctlT ?_)
  refine sw_cond rfl (fun g2 => ?_) (fun g2 => ?_)
  · (refine ctlT ?_)
    refine rgT ?_
    refine lo (lop_assign (E rfl)) rfl ?_
    refine leT ?_
    (refine ctlT ?_)
    refine rgT ?_
    refine lo (lop_move (E rfl)) rfl ?_
    refine lo (lop_move (E rfl)) rfl ?_
    refine lo (lop_move (E rfl)) rfl ?_
    refine z76 ?_
    refine z59 ?_
    refine z60 ?_
    refine lo (lop_move (E rfl)) rfl ?_
    refine z17 ?_
    refine lo (lop_move (E rfl)) rfl ?_
    refine z76 ?_
    refine z59 ?_
    apply stp; rfl; rfl; rfl; rfl; (exact sputT)
    refine z76 ?_
    refine z59 ?_
    apply stp; rfl; rfl; rfl; rfl; (exact sputT)
    refine leT ?_
    (refine ctlT ?_)
    refine rgT ?_
    refine lo (lop_move (E rfl)) rfl ?_
    refine z44 ?_
    refine lo (lop_assign (E rfl)) rfl ?_
    refine leT ?_
    (refine ctlT ?_)
    (apply aend; (exact resT))
    · (unfold rfU; simp only [g1, g2, if_true, if_false, Bool.false_eq_true]; exact ⟨rfl, rfl⟩)
    · (exact stleT)
  (refine ctlT ?_)
  refine rgT ?_
  refine lo (lop_move (E rfl)) rfl ?_
  refine lo (lop_move (E rfl)) rfl ?_
  refine lo (lop_move (E rfl)) rfl ?_
  refine z76 ?_
  refine z59 ?_
  refine z60 ?_
  refine lo (lop_move (E rfl)) rfl ?_
  refine z17 ?_
  refine lo (lop_move (E rfl)) rfl ?_
  refine z76 ?_
  refine z59 ?_
  apply stp; rfl; rfl; rfl; rfl; (exact sputT)
  refine z76 ?_
  refine z59 ?_
  apply stp; rfl; rfl; rfl; rfl; (exact sputT)
  refine leT ?_
  (refine ctlT ?_)
  refine rgT ?_
  refine lo (lop_move (E rfl)) rfl ?_
  refine z44 ?_
  refine lo (lop_assign (E rfl)) rfl ?_
  refine leT ?_
  (refine ctlT ?_)
  (apply aend; (exact resT))
  · (unfold rfU; simp only [g1, g2, if_true, if_false, Bool.false_eq_true]; exact ⟨rfl, rfl⟩)
  · (exact stleT)
set_option maxRecDepth 100000 in
theorem rfr_s (r : Nat) (l : List Nat) (hl : l.length ≤ 1000000) (hlt : ∀ x ∈ l, x < 256) (bits : Nat) (hb : bits = 32 ∨ bits = 64) (n : Nat) (hn : n ≤ l.length) (e : Int) : SCall Try.prog 68 [.ptr r 0, .int .i64 bits] [(r, .box 100 (rv l n e))]
    (fun x σ => x = .int .i64 (rfS l bits n e).1 ∧ σ = [(r, .box 100 (rv l (rfS l bits n e).2.1 (rfS l bits n e).2.2))]) := by
  have hbd := getS_bd bits (l.drop n)
  rw [List.length_drop] at hbd
  refine scall_of (n := 42) (ks := [0, 1, 4, 5, 6, 7, 12]) Try.func68 rfl rfl (Nat.le_of_ble_eq_true rfl) ?_
  unfold rv
  (refine ctlT ?_)
  refine rgT ?_
  refine lo (lop_assign (E rfl)) rfl ?_
  refine leT ?_
  (refine ctlT ?_)
  refine rgT ?_
  refine lo (lop_move (E rfl)) rfl ?_
  refine z76 ?_
  refine z59 ?_
  refine z60 ?_
  refine lo (lop_neq (E rfl) (E rfl)) rfl ?_
  refine leT ?_
  (refine ctlT ?_)
  refine sw_cond rfl (fun g1 => ?_) (fun g1 => ?_)
  · (refine ctlT ?_)
    refine rgT ?_
    refine lo (lop_assign (E rfl)) rfl ?_
    refine leT ?_
    (refine ctlT ?_)
    (apply aend; (exact resT))
    · (unfold rfS rdS; simp only [g1, if_true, if_false, Bool.false_eq_true]; exact ⟨rfl, rfl⟩)
    · (exact stleT)
  (refine ctlT ?_)
  refine rgD [(0, true), (1, true), (2, true), (3, true), (4, true), (5, true), (6, true), (7, true), (8, true), (9, true), (10, false), (11, true), (12, true), (13, true), (14, true), (15, true), (16, true), (17, true)] ?_
  refine dlo rfl (lop_move (E rfl)) rfl ?_
  refine z77 ?_
  refine z73 ?_
  refine z74 ?_
  refine dlo rfl (lop_move (E rfl)) rfl ?_
  refine z77 ?_
  refine z73 ?_
  refine z74 ?_
  refine z84 ?_
  refine dlo rfl (lop_move (E rfl)) rfl ?_
  rw [drop_encU]
  refine dpu [] rfl Try.call75 (ref_GetS (l.drop n) (by rw [List.length_drop]; omega) (fun x hx => hlt x (List.mem_of_mem_drop hx)) bits hb) rfl argsT nofT ?_
  refine dlo rfl (lop_move (E rfl)) rfl ?_
  refine z85 ?_
  refine z85 ?_
  refine z85 ?_
  refine dlo rfl (lop_assign (E rfl)) rfl ?_
  refine dlo rfl (lop_assign (E rfl)) rfl ?_
  refine dlo rfl (lop_assign (E rfl)) rfl ?_
  refine deT ?_
  (refine ctlT ?_)
  refine rgT ?_
  refine lo (lop_move (E rfl)) rfl ?_
  refine lo (lop_move (E rfl)) rfl ?_
  refine lo (lop_move (E rfl)) rfl ?_
  refine z76 ?_
  refine z59 ?_
  refine z60 ?_
  refine lo (lop_move (E rfl)) rfl ?_
  refine z17 ?_
  refine lo (lop_move (E rfl)) rfl ?_
  refine z76 ?_
  refine z59 ?_
  apply stp; rfl; rfl; rfl; rfl; (exact sputT)
  refine z76 ?_
  refine z59 ?_
  apply stp; rfl; rfl; rfl; rfl; (exact sputT)
  refine leT ?_
  (refine ctlT ?_)
  refine rgT ?_
  refine lo (lop_move (E rfl)) rfl ?_
  refine lo (lop_assign (E rfl)) rfl ?_
  refine leT ?_
  (refine ctlT ?_)
  (apply aend; (exact resT))
  · (unfold rfS rdS; simp only [g1, if_true, if_false, Bool.false_eq_true]; exact ⟨rfl, rfl⟩)
  · (exact stleT)
theorem octet_no {e : Int} {n m : Nat} (h : (if (e == 0) = true then decide ((m : Int) ≤ n) else false) = false) (h0 : (e != 0) = false) : ((n : Int) == (m : Int)) = false := by
  have := (unsigned_no h h0).2
  simp at this ⊢
  omega
theorem octet_yes {e : Int} {n m : Nat} (h : (if (e == 0) = true then decide ((m : Int) ≤ n) else false) = true) (hn : n ≤ m) : (e != 0) = false ∧ ((n : Int) == (m : Int)) = true := by
  obtain ⟨rfl, h2⟩ := unsigned_yes h
  simp at h2 ⊢
  omega
set_option maxRecDepth 100000 in
theorem rfr_octet (r : Nat) (l : List Nat) (hl : l.length ≤ 1000000) (hlt : ∀ x ∈ l, x < 256) (n : Nat) (hn : n ≤ l.length) (e : Int) : SCall Try.prog 65 [.ptr r 0] [(r, .box 100 (rv l n e))]
    (fun x σ => x = .int .u8 ((rdB l n e).1 : Nat) ∧ σ = [(r, .box 100 (rv l (rdB l n e).2.1 (rdB l n e).2.2))]) := by
  refine scall_of (n := 46) (ks := [0, 2, 19, 27]) Try.func65 rfl rfl (Nat.le_of_ble_eq_true rfl) ?_
  unfold rv
  (refine ctlT ?_)
  refine rgT ?_
  refine lo (lop_assign (E rfl)) rfl ?_
  refine leT ?_
  (refine ctlT ?_)
  refine rgD [(0, true), (1, true), (2, true), (3, true), (4, true), (5, true), (6, true), (7, true), (8, true), (9, true), (10, true), (11, true), (12, true), (13, true), (14, true), (15, true), (16, true)] ?_
  refine dlo rfl (lop_move (E rfl)) rfl ?_
  refine z77 ?_
  refine z73 ?_
  refine z74 ?_
  refine z79 ?_
  refine dlo rfl (lop_move (E rfl)) rfl ?_
  refine z26 ?_
  refine z86 ?_
  refine z87 ?_
  refine z88 ?_
  refine z26 ?_
  refine z86 ?_
  refine z87 ?_
  refine z88 ?_
  refine z89 ?_
  refine z90 ?_
  refine z53 ?_
  refine deT ?_
  (refine ctlT ?_)
  refine sw_cond rfl (fun g1 => ?_) (fun g1 => ?_)
  · (refine ctlT ?_)
    have hd := octet_yes g1 hn
    refine rgT ?_
    refine lo (lop_move (E rfl)) rfl ?_
    refine z76 ?_
    refine z59 ?_
    apply stp; rfl; rfl; rfl; rfl; (exact sputT)
    refine leT ?_
    (refine ctlT ?_)
    refine rgT ?_
    refine lo (lop_move (E rfl)) rfl ?_
    refine z76 ?_
    refine z59 ?_
    refine z60 ?_
    refine lo (lop_neq (E rfl) (E rfl)) rfl ?_
    refine leT ?_
    (refine ctlT ?_)
    refine rgT ?_
    refine lo (lop_assign (E rfl)) rfl ?_
    refine leT ?_
    (refine ctlT ?_)
    (apply aend; (exact resT))
    · unfold rdB
      simp only [hd.1, hd.2, if_true, if_false, Bool.false_eq_true]
      exact ⟨rfl, rfl⟩
    · (exact stleT)
  (refine ctlT ?_)
  refine rgT ?_
  refine lo (lop_move (E rfl)) rfl ?_
  refine z76 ?_
  refine z59 ?_
  refine z60 ?_
  refine lo (lop_neq (E rfl) (E rfl)) rfl ?_
  refine leT ?_
  (refine ctlT ?_)
  refine sw_cond rfl (fun g2 => ?_) (fun g2 => ?_)
  · (refine ctlT ?_)
    refine rgT ?_
    refine lo (lop_assign (E rfl)) rfl ?_
    refine leT ?_
    (refine ctlT ?_)
    (apply aend; (exact resT))
    · (unfold rdB; first | (simp only [octet_no g1 g2, g1, g2, if_true, if_false, Bool.false_eq_true]; exact ⟨rfl, rfl⟩) | (simp only [g1, g2, if_true, if_false, Bool.false_eq_true]; exact ⟨rfl, rfl⟩))
    · (exact stleT)
  (refine ctlT ?_)
  refine rgT ?_
  refine lo (lop_move (E rfl)) rfl ?_
  refine z76 ?_
  refine z59 ?_
  refine z60 ?_
  refine z17 ?_
  refine z76 ?_
  refine z59 ?_
  apply stp; rfl; rfl; rfl; rfl; (exact sputT)
  refine leT ?_
  (refine ctlT ?_)
  have hlt2 : n < l.length := by have := octet_no g1 g2; simp at this; omega
  refine rgD [(0, true), (1, true), (2, true), (3, true), (4, true), (5, true), (6, true), (7, true), (8, true), (9, true), (10, true), (11, true)] ?_
  refine dlo rfl (lop_move (E rfl)) rfl ?_
  refine z77 ?_
  refine z73 ?_
  refine z74 ?_
  refine dlo rfl (lop_move (E rfl)) rfl ?_
  refine z77 ?_
  refine z73 ?_
  refine z74 ?_
  refine z82 ?_
  rw [show (n : Int) + 1 - 1 = (n : Nat) by omega]
  refine z56 ?_
  refine z57 ?_
  rw [Int.toNat_natCast]
  refine dlo rfl (lop_assign (E rfl)) rfl ?_
  refine deT ?_
  (refine ctlT ?_)
  (apply aend; (exact resT))
  · (unfold rdB; first | (simp only [octet_no g1 g2, g1, g2, if_true, if_false, Bool.false_eq_true]; exact ⟨rfl, rfl⟩) | (simp only [g1, g2, if_true, if_false, Bool.false_eq_true]; exact ⟨rfl, rfl⟩))
  · (exact stleT)
set_option maxRecDepth 100000 in
theorem rfr_nought (r : Nat) (l : List Nat) (hl : l.length ≤ 1000000) (hlt : ∀ x ∈ l, x < 256) (n : Nat) (hn : n ≤ l.length) (e : Int) : SCall Try.prog 67 [.ptr r 0] [(r, .box 100 (rv l n e))]
    (fun x σ => x = .tup [] ∧ σ = [(r, .box 100 (rv l (rdZ l n e).1 (rdZ l n e).2))]) := by
  refine scall_of (n := 8) (ks := [0, 4]) Try.func67 rfl rfl (Nat.le_of_ble_eq_true rfl) ?_
  unfold rv
  (refine ctlT ?_)
  refine rgT ?_
  refine lo (lop_move (E rfl)) rfl ?_
  refine cw [(r, .box 100 (rv l n e))] Try.call65 (rfr_octet r l hl hlt n hn e) rfl ?_ ?_ ?_
  · (exact argsleT)
  · (exact stleT)
  rintro _ σ' ⟨rfl, rfl⟩ -
  (apply rs_sto; (exact nflT))
  refine lo (lop_neq (E rfl) (E rfl)) rfl ?_
  refine leT ?_
  (refine ctlT ?_)
  unfold rv
  refine sw_cond rfl (fun g1 => ?_) (fun g1 => ?_)
  · (refine ctlT ?_)
    refine rgT ?_
    refine lo (lop_move (E rfl)) rfl ?_
    refine z76 ?_
    refine z59 ?_
    apply stp; rfl; rfl; rfl; rfl; (exact sputT)
    refine leT ?_
    (refine ctlT ?_)
    refine aend_n ?_
    (apply aend; (exact resT))
    · unfold rdZ; rw [if_pos g1]; exact ⟨rfl, rfl⟩
    · (exact stleT)
  · (refine ctlT ?_)
    refine aend_n ?_
    (apply aend; (exact resT))
    · unfold rdZ; rw [if_neg (by rw [g1]; simp)]; exact ⟨rfl, rfl⟩
    · (exact stleT)
/-- where y stands in l first; -1: nowhere -/
def idxN (l : List Int) (y : Int) : Int := match l.findIdx? (· == y) with | some i => i | none => -1
set_option maxRecDepth 100000 in
theorem lib_index_int {k : Rk} (l : List Int) (y : Int) : SCall Try.prog 62 [.ro 1 (l.map encI) k, .int .i64 y] [] (fun x σ => x = .int .i64 (idxN l y) ∧ σ = []) := by
  refine scall_of (n := 19) (ks := [0, 1, 4, 5, 7, 8, 9, 16]) Try.func62 rfl rfl (Nat.le_of_ble_eq_true rfl) ?_
  refine sw_max (i := 0) rfl fun hm => ?_
  rw [List.length_map] at hm
  unfold maxLen at hm
  (refine ctlT ?_)
  refine rgT ?_
  refine lo (lop_assign (E rfl)) rfl ?_
  refine leT ?_
  (refine ctlT ?_)
  refine rgT ?_
  refine lo (lop_move (E rfl)) rfl ?_
  refine z14 ?_
  refine lo (lop_move (E rfl)) rfl ?_
  refine leT ?_
  (refine ctlT ?_)
  refine lp (β := Nat) (fun j => ⟨[(0, .ro 1 (l.map encI) k), (1, .int .i64 y), (7, .int .i64 l.length), (8, .int .i64 j)], []⟩) (fun j => j ≤ l.length ∧ ∀ i, i < j → l[i]? ≠ some y) (fun j => l.length - j) 0 ?_ ⟨Nat.zero_le _, fun i hi => by omega⟩ ?_
  · (exact sgoT)
  rintro j ⟨hj, ht⟩
  (refine ctlT ?_)
  refine rgT ?_
  refine lo (lop_lss (E rfl) (E rfl)) rfl ?_
  refine leT ?_
  (refine ctlT ?_)
  refine sw_cond rfl (fun h1 => ?_) (fun h1 => ?_)
  · have hlt : j < l.length := by simp at h1; omega
    obtain ⟨x, hx⟩ : ∃ x, l[j]? = some x := ⟨_, List.getElem?_eq_getElem hlt⟩
    (refine ctlT ?_)
    refine rgT ?_
    refine lo (lop_move (E rfl)) rfl ?_
    refine lo (lop_assign (E rfl)) rfl ?_
    refine leT ?_
    (refine ctlT ?_)
    refine rgT ?_
    refine lo (lop_move (E rfl)) rfl ?_
    refine lo (lop_move (E rfl)) rfl ?_
    refine lo (lop_move (E rfl)) rfl ?_
    refine z15 ?_
    refine z16 ?_
    refine lo (lop_eql (E rfl) (E rfl)) rfl ?_
    refine leT ?_
    (refine ctlT ?_)
    refine sw_cond rfl (fun h2 => ?_) (fun h2 => ?_)
    · have hxy : y = x := by simpa using h2
      (refine ctlT ?_)
      refine rgT ?_
      refine lo (lop_move (E rfl)) rfl ?_
      refine lo (lop_assign (E rfl)) rfl ?_
      refine leT ?_
      (refine ctlT ?_)
      (apply aend; (exact resT))
      · have : l.findIdx? (· == y) = some j := by
          rw [List.findIdx?_eq_some_iff_getElem]
          refine ⟨hlt, ?_, fun i hi => ?_⟩
          · rw [List.getElem?_eq_getElem hlt] at hx; simp at hx ⊢; rw [hx, hxy]
          · have := ht i hi
            rw [List.getElem?_eq_getElem (by omega)] at this
            simpa using this
        unfold idxN
        rw [this]
        exact ⟨rfl, rfl⟩
      · (exact stleT)
    · have hxy : y ≠ x := by simpa using h2
      (refine ctlT ?_)
      refine rgT ?_
      refine z17 ?_
      refine lo (lop_move (E rfl)) rfl ?_
      refine leT ?_
      (refine ctlT ?_)
      refine ⟨j + 1, ⟨by omega, fun i hi => ?_⟩, by omega, ?_⟩
      · by_cases hij : i = j
        · subst hij; rw [hx]; simpa using fun e => hxy e.symm
        · exact ht i (by omega)
      · (exact sgoT)
  · obtain rfl : j = l.length := by simp at h1; omega
    (refine ctlT ?_)
    refine rgT ?_
    refine lo (lop_assign (E rfl)) rfl ?_
    refine leT ?_
    (refine ctlT ?_)
    (apply aend; (exact resT))
    · have : l.findIdx? (· == y) = none := by
        rw [List.findIdx?_eq_none_iff]
        intro x hx
        obtain ⟨i, hi, rfl⟩ := List.mem_iff_getElem.1 hx
        have := ht i hi
        rw [List.getElem?_eq_getElem hi] at this
        simpa using this
      unfold idxN
      rw [this]
      exact ⟨rfl, rfl⟩
    · (exact stleT)
end Go.Proofs.Ytkjfflabapeidaa
