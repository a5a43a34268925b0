/-
  Package leb: how many bytes a number has; the same in the document's words.
-/
import Derived.Test.YtkjfflabapeidaaLeb
namespace Go.Proofs.Ytkjfflabapeidaa
open Go.RowKit Go.ChangeShapes Go.WideShapes Go.ChangeAt Go.Deep
set_option linter.unusedSimpArgs false
set_option linter.unusedVariables false
attribute [local irreducible] SW RS RD AThen ABlock

def addN (n : Nat) (r : Nat × Int) : Nat × Int := if r.2 = 0 then (r.1 + n, 0) else r
theorem addN_zero (r : Nat × Int) : addN 0 r = r := by obtain ⟨x, y⟩ := r; unfold addN; split <;> simp_all
theorem addN_add (n k : Nat) (r : Nat × Int) : addN n (addN k r) = addN (n + k) r := by
  unfold addN
  by_cases h : r.2 = 0 <;> simp [h]
  omega
theorem lenB_next {l : List Nat} {m n : Nat} (h1 : n < m) (h2 : n < l.length) : lenB (l.drop n) (m - n) = if l[n]! < 128 then (1, 0) else addN 1 (lenB (l.drop (n + 1)) (m - (n + 1))) := by
  rw [List.drop_eq_getElem_cons h2, show m - n = (m - (n + 1)) + 1 by omega, lenB, getElem!_pos l n h2]
  rfl
theorem lenB_stop {l : List Nat} : lenB l 0 = (0, 1) := by cases l <;> rfl
theorem lenB_end {m : Nat} (h : 0 < m) : lenB [] m = (0, 2) := by
  cases m with
  | zero => omega
  | succ m => rfl
set_option maxRecDepth 100000 in
theorem leb_length (l : List Nat) (hl : l.length ≤ 1000000) (bits : Int) (m : Nat) (hm : bits = 32 ∧ m = 5 ∨ bits = 64 ∧ m = 10) : SCall Try.prog 72 [.ro 1 (l.map encU) .any, .int .i64 bits] []
    (fun x σ => x = .tup [.int .i64 ((lenB l m).1 : Nat), .int .i64 (lenB l m).2] ∧ σ = []) := by
  have hq : IntKind.i64.wrap ((bits + 7 - 1).tdiv 7) = m := by rcases hm with ⟨rfl, rfl⟩ | ⟨rfl, rfl⟩ <;> decide
  refine scall_of (n := 37) (ks := [0, 1, 4, 5, 6, 7, 13, 18, 22, 27]) Try.func72 rfl rfl (Nat.le_of_ble_eq_true rfl) ?_
  (refine ctlT ?_)
  refine rgT ?_
  refine lo (lop_assign (E rfl)) rfl ?_
  refine lo (lop_assign (E rfl)) rfl ?_
  refine leT ?_
  (refine ctlT ?_)
  refine scj (β := Nat) 0 rfl (fun b => ⟨[(0, .ro 1 (l.map encU) .any), (6, .int .i64 b), (7, .int .i64 m)], []⟩) (fun b => b ≤ m ∧ b ≤ l.length ∧ lenB l m = addN b (lenB (l.drop b) (m - b))) (fun b => m - b) ?_ (fun P => ?_)
  · rintro n ⟨hn1, hn2, he⟩
    try dsimp only at hn1 hn2 he ⊢
    (refine ctlT ?_)
    refine rgT ?_
    refine lo (lop_move (E rfl)) rfl ?_
    refine lo (lop_move (E rfl)) rfl ?_
    refine lo (lop_eql (E rfl) (E rfl)) rfl ?_
    refine lo (lop_assign (E rfl)) rfl ?_
    refine leT ?_
    (refine ctlT ?_)
    refine sw_cond rfl (fun h => ?_) (fun h => ?_)
    · obtain rfl : n = m := by simp at h; omega
      rw [Nat.sub_self, lenB_stop] at he
      (refine ctlT ?_)
      refine rgT ?_
      refine lo (lop_assign (E rfl)) rfl ?_
      refine lo (lop_assign (E rfl)) rfl ?_
      refine leT ?_
      (refine ctlT ?_)
      (refine ctgT ?_)
      (apply aend; (exact resT))
      · rw [he]; exact ⟨rfl, rfl⟩
      · (exact stleT)
    have h1 : n < m := by simp at h; omega
    (refine ctlT ?_)
    refine rgT ?_
    refine lo (lop_move (E rfl)) rfl ?_
    refine lo (lop_move (E rfl)) rfl ?_
    refine z14 ?_
    refine lo (lop_eql (E rfl) (E rfl)) rfl ?_
    refine lo (lop_assign (E rfl)) rfl ?_
    refine leT ?_
    (refine ctlT ?_)
    refine sw_cond rfl (fun h => ?_) (fun h => ?_)
    · obtain rfl : n = l.length := by simp at h; omega
      rw [List.drop_length, lenB_end (by omega)] at he
      (refine ctlT ?_)
      refine rgT ?_
      refine lo (lop_assign (E rfl)) rfl ?_
      refine lo (lop_assign (E rfl)) rfl ?_
      refine leT ?_
      (refine ctlT ?_)
      (refine ctgT ?_)
      (apply aend; (exact resT))
      · rw [he]; exact ⟨rfl, rfl⟩
      · (exact stleT)
    have h2 : n < l.length := by simp at h; omega
    rw [lenB_next h1 h2] at he
    (refine ctlT ?_)
    refine rgT ?_
    refine lo (lop_move (E rfl)) rfl ?_
    refine lo (lop_move (E rfl)) rfl ?_
    refine z15 ?_
    refine z16 ?_
    refine lo (lop_geq (E rfl) (E rfl)) rfl ?_
    refine lo (lop_assign (E rfl)) rfl ?_
    refine leT ?_
    (refine ctlT ?_)
    refine sw_cond rfl (fun h => ?_) (fun h => ?_)
    · have h3 : ¬ l[n]! < 128 := by rw [Int.toNat_natCast] at h; first | (have := of_decide_eq_true h; omega) | (have := of_decide_eq_false h; omega)
      rw [if_neg h3, addN_add] at he
      (refine ctlT ?_)
      refine rgT ?_
      refine lo (lop_move (E rfl)) rfl ?_
      refine z17 ?_
      refine lo (lop_assign (E rfl)) rfl ?_
      refine leT ?_
      (refine ctlT ?_)
      (refine ctgT ?_)
      refine ⟨n + 1, ⟨by omega, by omega, he⟩, by omega, ?_⟩
      (exact sgoT)
    · have h3 : l[n]! < 128 := by rw [Int.toNat_natCast] at h; first | (have := of_decide_eq_true h; omega) | (have := of_decide_eq_false h; omega)
      rw [if_pos h3] at he
      (refine ctlT ?_)
      refine rgT ?_
      refine lo (lop_move (E rfl)) rfl ?_
      refine z17 ?_
      refine lo (lop_assign (E rfl)) rfl ?_
      refine lo (lop_assign (E rfl)) rfl ?_
      refine leT ?_
      (refine ctlT ?_)
      (refine ctgT ?_)
      (apply aend; (exact resT))
      · rw [he, show addN n (1, 0) = (n + 1, 0) by simp [addN, Nat.add_comm]]
        exact ⟨rfl, rfl⟩
      · (exact stleT)
  · (refine ctlT ?_)
    refine rgT ?_
    refine lo (lop_move (E rfl)) rfl ?_
    refine lo (lop_lss (E rfl) (E rfl)) rfl ?_
    refine lo (lop_move (E rfl)) rfl ?_
    refine z4 ?_
    refine z18 ?_
    refine z13 ?_
    refine leT ?_
    (refine ctlT ?_)
    refine sw_cond rfl (fun h => ?_) (fun h => ?_)
    · exfalso; simp at h; omega
    (refine ctlT ?_)
    refine rgT ?_
    refine lo (lop_move (E rfl)) rfl ?_
    refine z17 ?_
    refine z19 ?_
    refine z20 ?_
    refine lo (lop_assign (E rfl)) rfl ?_
    refine lo (lop_assign (E rfl)) rfl ?_
    refine leT ?_
    refine an ?_
    rw [hq]
    refine P 0 _ ⟨by omega, by omega, by simp [addN_zero]⟩ ?_
    (exact sgoT)
set_option maxRecDepth 100000 in
theorem leb_same (a c : List Nat) (ha : ∀ x ∈ a, x < 256) (hc : ∀ x ∈ c, x < 256) : SCall Try.prog 73 [.ro 1 (a.map encU) .any, .ro 1 (c.map encU) .any] []
    (fun x σ => x = .bool (decide (c = a)) ∧ σ = []) := by
  refine scall_of (n := 10) (ks := [0, 1, 4]) Try.func73 rfl rfl (Nat.le_of_ble_eq_true rfl) ?_
  (refine ctlT ?_)
  refine rgT ?_
  refine lo (lop_assign (E rfl)) rfl ?_
  refine leT ?_
  (refine ctlT ?_)
  refine rgT ?_
  refine lo (lop_move (E rfl)) rfl ?_
  refine lo (lop_bytes_ro (e := 5) (bs := a) (E rfl)) rfl ?_
  refine lo (lop_move (E rfl)) rfl ?_
  refine lo (lop_bytes_ro (e := 5) (bs := c) (E rfl)) rfl ?_
  refine lo (lop_seql (E rfl) (E rfl)) rfl ?_
  refine lo (lop_assign (E rfl)) rfl ?_
  refine leT ?_
  (refine ctlT ?_)
  (apply aend; (exact resT))
  · refine ⟨?_, rfl⟩
    rw [strU_inj ha hc]
    show AV.bool _ = _
    congr 1
    rw [decide_eq_decide]
    exact eq_comm
  · (exact stleT)
set_option maxRecDepth 100000 in
theorem ref_whole (l : List Nat) (hl : l.length ≤ 1000000) (bits : Int) (m : Nat) (hm : bits = 32 ∧ m = 5 ∨ bits = 64 ∧ m = 10) : SCall Try.prog 76 [.ro 1 (l.map encU) .any, .int .i64 bits] []
    (fun x σ => x = .tup [.int .i64 ((lenB l m).1 : Nat), .int .i64 (lenB l m).2] ∧ σ = []) := by
  have hq : IntKind.i64.wrap ((bits + 6).tdiv 7) = m := by rcases hm with ⟨rfl, rfl⟩ | ⟨rfl, rfl⟩ <;> decide
  refine scall_of (n := 33) (ks := [0, 1, 4, 5, 6, 7, 19, 26, 32]) Try.func76 rfl rfl (Nat.le_of_ble_eq_true rfl) ?_
  (refine ctlT ?_)
  refine rgT ?_
  refine lo (lop_assign (E rfl)) rfl ?_
  refine lo (lop_assign (E rfl)) rfl ?_
  refine leT ?_
  (refine ctlT ?_)
  refine rgT ?_
  refine lo (lop_move (E rfl)) rfl ?_
  refine z17 ?_
  refine z20 ?_
  refine lo (lop_assign (E rfl)) rfl ?_
  refine leT ?_
  (refine ctlT ?_)
  rw [hq]
  refine rgT ?_
  refine lo (lop_assign (E rfl)) rfl ?_
  refine leT ?_
  (refine ctlT ?_)
  refine lp (β := Nat) (fun b => ⟨[(0, .ro 1 (l.map encU) .any), (6, .int .i64 m), (7, .int .i64 b)], []⟩) (fun b => b ≤ m ∧ b ≤ l.length ∧ lenB l m = addN b (lenB (l.drop b) (m - b))) (fun b => m - b) 0 (by (exact sgoT)) ⟨by omega, by omega, by simp [addN_zero]⟩ ?_
  rintro n ⟨hn1, hn2, he⟩
  try dsimp only at hn1 hn2 he ⊢
  (refine ctlT ?_)
  refine rgT ?_
  refine lo (lop_move (E rfl)) rfl ?_
  refine lo (lop_move (E rfl)) rfl ?_
  refine z14 ?_
  refine lo (lop_lss (E rfl) (E rfl)) rfl ?_
  refine lo (lop_move (E rfl)) rfl ?_
  refine z4 ?_
  refine z4 ?_
  refine z21 ?_
  refine z7 ?_
  refine leT ?_
  (refine ctlT ?_)
  refine sw_cond rfl (fun h => ?_) (fun h => ?_)
  · have h1 : n < m ∧ n < l.length := by simp at h; omega
    obtain ⟨h1, h2⟩ := h1
    rw [lenB_next h1 h2] at he
    (refine ctlT ?_)
    refine rgT ?_
    refine lo (lop_move (E rfl)) rfl ?_
    refine lo (lop_move (E rfl)) rfl ?_
    refine z15 ?_
    refine z16 ?_
    refine lo (lop_lss (E rfl) (E rfl)) rfl ?_
    refine leT ?_
    (refine ctlT ?_)
    refine sw_cond rfl (fun h => ?_) (fun h => ?_)
    · have h3 : l[n]! < 128 := by rw [Int.toNat_natCast] at h; first | (have := of_decide_eq_true h; omega) | (have := of_decide_eq_false h; omega)
      rw [if_pos h3] at he
      (refine ctlT ?_)
      refine rgT ?_
      refine lo (lop_move (E rfl)) rfl ?_
      refine z17 ?_
      refine lo (lop_assign (E rfl)) rfl ?_
      refine lo (lop_assign (E rfl)) rfl ?_
      refine leT ?_
      (refine ctlT ?_)
      (apply aend; (exact resT))
      · rw [he, show addN n (1, 0) = (n + 1, 0) by simp [addN, Nat.add_comm]]
        exact ⟨rfl, rfl⟩
      · (exact stleT)
    · have h3 : ¬ l[n]! < 128 := by rw [Int.toNat_natCast] at h; first | (have := of_decide_eq_true h; omega) | (have := of_decide_eq_false h; omega)
      rw [if_neg h3, addN_add] at he
      (refine ctlT ?_)
      refine rgT ?_
      refine lo (lop_move (E rfl)) rfl ?_
      refine z17 ?_
      refine lo (lop_assign (E rfl)) rfl ?_
      refine leT ?_
      (refine ctlT ?_)
      refine ⟨n + 1, ⟨by omega, by omega, he⟩, by show m - (n + 1) < m - n; omega, ?_⟩
      (exact sgoT)
  have h1 : n = m ∨ n = l.length := by simp at h; omega
  (refine ctlT ?_)
  refine rgT ?_
  refine lo (lop_move (E rfl)) rfl ?_
  refine z14 ?_
  refine lo (lop_move (E rfl)) rfl ?_
  refine lo (lop_geq (E rfl) (E rfl)) rfl ?_
  refine leT ?_
  (refine ctlT ?_)
  refine sw_cond rfl (fun h => ?_) (fun h => ?_)
  · obtain rfl : n = m := by simp at h; omega
    rw [Nat.sub_self, lenB_stop] at he
    (refine ctlT ?_)
    refine rgT ?_
    refine lo (lop_assign (E rfl)) rfl ?_
    refine lo (lop_assign (E rfl)) rfl ?_
    refine leT ?_
    (refine ctlT ?_)
    (apply aend; (exact resT))
    · rw [he]; exact ⟨rfl, rfl⟩
    · (exact stleT)
  · have h3 : l.length < m := by simp at h; omega
    obtain rfl : n = l.length := by omega
    rw [List.drop_length, lenB_end (by omega)] at he
    (refine ctlT ?_)
    refine rgT ?_
    refine lo (lop_assign (E rfl)) rfl ?_
    refine lo (lop_assign (E rfl)) rfl ?_
    refine leT ?_
    (refine ctlT ?_)
    (apply aend; (exact resT))
    · rw [he]; exact ⟨rfl, rfl⟩
    · (exact stleT)
end Go.Proofs.Ytkjfflabapeidaa
