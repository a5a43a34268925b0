/-
  Instructions: which may be, which are the same.
-/
import Derived.Test.YtkjfflabapeidaaInstr
import Derived.Test.YtkjfflabapeidaaSymO
namespace Go.Proofs.Ytkjfflabapeidaa
open Go.RowKit Go.ChangeShapes Go.WideShapes Go.ChangeAt Go.Deep
set_option linter.unusedSimpArgs false
set_option linter.unusedVariables false
attribute [local irreducible] SW RS RD AThen ABlock

set_option maxRecDepth 100000 in
theorem ref_eqInts {k1 k2 : Rk} (xs ys : List Int) : SCall Try.prog 32 [.ro 1 (xs.map encI) k1, .ro 1 (ys.map encI) k2] [] (fun x σ => x = .bool (decide (xs = ys)) ∧ σ = []) := by
  refine scall_of (n := 26) (ks := [0, 1, 4, 5, 10, 14, 25]) Try.func32 rfl rfl (Nat.le_of_ble_eq_true rfl) ?_
  refine sw_max (i := 0) rfl fun hm => ?_
  rw [List.length_map] at hm
  unfold maxLen at hm
  (refine ctlT ?_)
  refine rgT ?_
  refine lo (lop_assign (E rfl)) rfl ?_
  refine leT ?_
  (refine ctlT ?_)
  refine rgT ?_
  refine lo (lop_move (E rfl)) rfl ?_
  refine z14 ?_
  refine lo (lop_move (E rfl)) rfl ?_
  refine z14 ?_
  refine lo (lop_neq (E rfl) (E rfl)) rfl ?_
  refine leT ?_
  (refine ctlT ?_)
  refine sw_cond rfl (fun h => ?_) (fun h => ?_)
  · (refine ctlT ?_)
    refine rgT ?_
    refine lo (lop_assign (E rfl)) rfl ?_
    refine leT ?_
    (refine ctlT ?_)
    (apply aend; (exact resT))
    · have hne : xs ≠ ys := by rintro rfl; simp at h
      exact ⟨by simp [resAV, ofConst, hne], rfl⟩
    · (exact stleT)
  have hl : xs.length = ys.length := by simp at h; omega
  (refine ctlT ?_)
  refine rgT ?_
  refine lo (lop_assign (E rfl)) rfl ?_
  refine leT ?_
  (refine ctlT ?_)
  refine lp (β := Nat) (fun k => ⟨[(0, .ro 1 (xs.map encI) k1), (1, .ro 1 (ys.map encI) k2), (4, .bool false), (5, .int .i64 k)], []⟩) (fun k => k ≤ xs.length ∧ xs.take k = ys.take k) (fun k => xs.length - k) 0 ?_ ⟨Nat.zero_le _, rfl⟩ ?_
  · (exact sgoT)
  rintro k ⟨hk, ht⟩
  (refine ctlT ?_)
  refine rgT ?_
  refine lo (lop_move (E rfl)) rfl ?_
  refine lo (lop_move (E rfl)) rfl ?_
  refine z14 ?_
  refine lo (lop_lss (E rfl) (E rfl)) rfl ?_
  refine leT ?_
  (refine ctlT ?_)
  refine sw_cond rfl (fun h1 => ?_) (fun h1 => ?_)
  · have hlt : k < xs.length := by simp at h1; omega
    obtain ⟨x, hx⟩ : ∃ x, xs[k]? = some x := ⟨_, List.getElem?_eq_getElem hlt⟩
    obtain ⟨y, hy⟩ : ∃ y, ys[k]? = some y := ⟨_, List.getElem?_eq_getElem (by omega)⟩
    (refine ctlT ?_)
    refine rgD [(0, true), (1, true), (2, true), (3, true), (4, true), (5, true), (6, true), (7, true), (8, true)] ?_
    refine dlo rfl (lop_move (E rfl)) rfl ?_
    refine dlo rfl (lop_move (E rfl)) rfl ?_
    refine z56 ?_
    refine z57 ?_
    refine dlo rfl (lop_move (E rfl)) rfl ?_
    refine dlo rfl (lop_move (E rfl)) rfl ?_
    refine z56 ?_
    refine z57 ?_
    refine z58 ?_
    refine deT ?_
    (refine ctlT ?_)
    refine sw_cond rfl (fun h2 => ?_) (fun h2 => ?_)
    · (refine ctlT ?_)
      refine rgT ?_
      refine lo (lop_assign (E rfl)) rfl ?_
      refine leT ?_
      (refine ctlT ?_)
      (apply aend; (exact resT))
      · have hne : xs ≠ ys := by rintro rfl; rw [hx] at hy; simp at hy; subst hy; simp at h2
        exact ⟨by simp [resAV, ofConst, hne], rfl⟩
      · (exact stleT)
    · (refine ctlT ?_)
      refine rgT ?_
      refine lo (lop_move (E rfl)) rfl ?_
      refine z17 ?_
      refine lo (lop_assign (E rfl)) rfl ?_
      refine leT ?_
      (refine ctlT ?_)
      refine ⟨k + 1, ⟨by omega, ?_⟩, by omega, ?_⟩
      · rw [List.take_add_one, List.take_add_one, ht, hx, hy]
        simp at h2
        rw [h2]
      · (exact sgoT)
  · (refine ctlT ?_)
    refine rgT ?_
    refine lo (lop_assign (E rfl)) rfl ?_
    refine leT ?_
    (refine ctlT ?_)
    (apply aend; (exact resT))
    · simp at h1
      have : xs = ys := by rwa [List.take_of_length_le (by omega), List.take_of_length_le (by omega)] at ht
      exact ⟨by simp [resAV, ofConst, this], rfl⟩
    · (exact stleT)
set_option maxRecDepth 100000 in
theorem lib_equal_int {k1 k2 : Rk} (xs ys : List Int) : SCall Try.prog 45 [.ro 1 (xs.map encI) k1, .ro 1 (ys.map encI) k2] [] (fun x σ => x = .bool (decide (xs = ys)) ∧ σ = []) := by
  refine scall_of (n := 26) (ks := [0, 1, 4, 5, 10, 12, 13, 14, 24]) Try.func45 rfl rfl (Nat.le_of_ble_eq_true rfl) ?_
  refine sw_max (i := 0) rfl fun hm => ?_
  rw [List.length_map] at hm
  unfold maxLen at hm
  (refine ctlT ?_)
  refine rgT ?_
  refine lo (lop_assign (E rfl)) rfl ?_
  refine leT ?_
  (refine ctlT ?_)
  refine rgT ?_
  refine lo (lop_move (E rfl)) rfl ?_
  refine z14 ?_
  refine lo (lop_move (E rfl)) rfl ?_
  refine z14 ?_
  refine lo (lop_neq (E rfl) (E rfl)) rfl ?_
  refine leT ?_
  (refine ctlT ?_)
  refine sw_cond rfl (fun h => ?_) (fun h => ?_)
  · (refine ctlT ?_)
    refine rgT ?_
    refine lo (lop_assign (E rfl)) rfl ?_
    refine leT ?_
    (refine ctlT ?_)
    (apply aend; (exact resT))
    · have hne : xs ≠ ys := by rintro rfl; simp at h
      exact ⟨by simp [resAV, ofConst, hne], rfl⟩
    · (exact stleT)
  have hl : xs.length = ys.length := by simp at h; omega
  (refine ctlT ?_)
  refine rgT ?_
  refine lo (lop_move (E rfl)) rfl ?_
  refine z14 ?_
  refine lo (lop_move (E rfl)) rfl ?_
  refine leT ?_
  (refine ctlT ?_)
  refine lp (β := Nat) (fun k => ⟨[(0, .ro 1 (xs.map encI) k1), (1, .ro 1 (ys.map encI) k2), (4, .bool false), (12, .int .i64 xs.length), (13, .int .i64 k)], []⟩) (fun k => k ≤ xs.length ∧ xs.take k = ys.take k) (fun k => xs.length - k) 0 ?_ ⟨Nat.zero_le _, rfl⟩ ?_
  · (exact sgoT)
  rintro k ⟨hk, ht⟩
  (refine ctlT ?_)
  refine rgT ?_
  refine lo (lop_lss (E rfl) (E rfl)) rfl ?_
  refine leT ?_
  (refine ctlT ?_)
  refine sw_cond rfl (fun h1 => ?_) (fun h1 => ?_)
  · have hlt : k < xs.length := by simp at h1; omega
    obtain ⟨x, hx⟩ : ∃ x, xs[k]? = some x := ⟨_, List.getElem?_eq_getElem hlt⟩
    obtain ⟨y, hy⟩ : ∃ y, ys[k]? = some y := ⟨_, List.getElem?_eq_getElem (by omega)⟩
    (refine ctlT ?_)
    refine rgT ?_
    refine lo (lop_move (E rfl)) rfl ?_
    refine lo (lop_assign (E rfl)) rfl ?_
    refine leT ?_
    (refine ctlT ?_)
    refine rgD [(0, true), (1, true), (2, true), (3, true), (4, true), (5, true), (6, true), (7, true), (8, true)] ?_
    refine dlo rfl (lop_move (E rfl)) rfl ?_
    refine dlo rfl (lop_move (E rfl)) rfl ?_
    refine z56 ?_
    refine z57 ?_
    refine dlo rfl (lop_move (E rfl)) rfl ?_
    refine dlo rfl (lop_move (E rfl)) rfl ?_
    refine z56 ?_
    refine z57 ?_
    refine z58 ?_
    refine deT ?_
    (refine ctlT ?_)
    refine sw_cond rfl (fun h2 => ?_) (fun h2 => ?_)
    · (refine ctlT ?_)
      refine rgT ?_
      refine lo (lop_assign (E rfl)) rfl ?_
      refine leT ?_
      (refine ctlT ?_)
      (apply aend; (exact resT))
      · have hne : xs ≠ ys := by rintro rfl; rw [hx] at hy; simp at hy; subst hy; simp at h2
        exact ⟨by simp [resAV, ofConst, hne], rfl⟩
      · (exact stleT)
    · (refine ctlT ?_)
      refine rgT ?_
      refine z17 ?_
      refine lo (lop_move (E rfl)) rfl ?_
      refine leT ?_
      (refine ctlT ?_)
      refine ⟨k + 1, ⟨by omega, ?_⟩, by omega, ?_⟩
      · rw [List.take_add_one, List.take_add_one, ht, hx, hy]
        simp at h2
        rw [h2]
      · (exact sgoT)
  · (refine ctlT ?_)
    refine rgT ?_
    refine lo (lop_assign (E rfl)) rfl ?_
    refine leT ?_
    (refine ctlT ?_)
    (apply aend; (exact resT))
    · simp at h1
      have : xs = ys := by rwa [List.take_of_length_le (by omega), List.take_of_length_le (by omega)] at ht
      exact ⟨by simp [resAV, ofConst, this], rfl⟩
    · (exact stleT)
/-- a function value that tells p of a number, and leaves the entries σ as they are -/
def Tells (P : Program) (f : FuncId) (caps : List AV) (σ : Sto) (p : Int → Bool) : Prop :=
  (∀ args w, (callFunc f args).run P w = .ok (.enter f args) w) ∧ ∀ c, SCall P f ([] ++ [.int .i64 c] ++ caps) σ (fun r σ' => r = .bool (p c) ∧ σ' = σ)
set_option maxRecDepth 100000 in
theorem lib_indexFunc {k : Rk} {f : FuncId} {caps : List AV} {σ : Sto} {p : Int → Bool} (hp : Tells Try.prog f caps σ p) (l : List Int) : SCall Try.prog 61 [.ro 1 (l.map encI) k, .fn (.func f) [] caps] σ (fun x σ' => ∃ m : Int, x = .int .i64 m ∧ decide (0 ≤ m) = l.any p ∧ σ' = σ) := by
  refine scall_of (n := 19) (ks := [0, 1, 4, 5, 7, 8, 9, 16]) Try.func61 rfl rfl (Nat.le_of_ble_eq_true rfl) ?_
  refine sw_max (i := 0) rfl fun hm => ?_
  rw [List.length_map] at hm
  unfold maxLen at hm
  (refine ctlT ?_)
  refine rgT ?_
  refine lo (lop_assign (E rfl)) rfl ?_
  refine leT ?_
  (refine ctlT ?_)
  refine rgT ?_
  refine lo (lop_move (E rfl)) rfl ?_
  refine z14 ?_
  refine lo (lop_move (E rfl)) rfl ?_
  refine leT ?_
  (refine ctlT ?_)
  refine lp (β := Nat) (fun j => ⟨[(0, .ro 1 (l.map encI) k), (1, .fn (.func f) [] caps), (7, .int .i64 l.length), (8, .int .i64 j)], σ⟩) (fun j => j ≤ l.length ∧ (l.take j).any p = false) (fun j => l.length - j) 0 ?_ ⟨Nat.zero_le _, rfl⟩ ?_
  · (exact sgoT)
  rintro j ⟨hj, ht⟩
  (refine ctlT ?_)
  refine rgT ?_
  refine lo (lop_lss (E rfl) (E rfl)) rfl ?_
  refine leT ?_
  (refine ctlT ?_)
  refine sw_cond rfl (fun h1 => ?_) (fun h1 => ?_)
  · have hlt : j < l.length := by simp at h1; omega
    obtain ⟨x, hx⟩ : ∃ x, l[j]? = some x := ⟨_, List.getElem?_eq_getElem hlt⟩
    (refine ctlT ?_)
    refine rgT ?_
    refine lo (lop_move (E rfl)) rfl ?_
    refine lo (lop_assign (E rfl)) rfl ?_
    refine leT ?_
    (refine ctlT ?_)
    refine rgT ?_
    refine lo (lop_move (E rfl)) rfl ?_
    refine lo (lop_move (E rfl)) rfl ?_
    refine lo (lop_move (E rfl)) rfl ?_
    refine z15 ?_
    refine z16 ?_
    refine cf_ σ rfl hp.1 (hp.2 x) rfl ?_ ?_ ?_
    · (exact argsleT)
    · exact fun _ h => h
    rintro r σ' ⟨rfl, rfl⟩ -
    rw [sdrop_all, List.append_nil]
    refine leT ?_
    (refine ctlT ?_)
    refine sw_cond rfl (fun h2 => ?_) (fun h2 => ?_)
    · (refine ctlT ?_)
      refine rgT ?_
      refine lo (lop_move (E rfl)) rfl ?_
      refine lo (lop_assign (E rfl)) rfl ?_
      refine leT ?_
      (refine ctlT ?_)
      (apply aend; (exact resT))
      · refine ⟨j, rfl, ?_, rfl⟩
        rw [decide_eq_true (by omega)]
        exact (List.any_eq_true.2 ⟨x, List.mem_of_getElem? hx, h2⟩).symm
      · (exact stleT)
    · (refine ctlT ?_)
      refine rgT ?_
      refine z17 ?_
      refine lo (lop_move (E rfl)) rfl ?_
      refine leT ?_
      (refine ctlT ?_)
      refine ⟨j + 1, ⟨by omega, ?_⟩, by omega, ?_⟩
      · rw [List.take_add_one, hx, List.any_append, ht]
        simp [h2]
      · (exact sgoT)
  · (refine ctlT ?_)
    refine rgT ?_
    refine lo (lop_assign (E rfl)) rfl ?_
    refine leT ?_
    (refine ctlT ?_)
    (apply aend; (exact resT))
    · simp at h1
      rw [List.take_of_length_le (by omega)] at ht
      exact ⟨-1, rfl, by rw [ht]; rfl, rfl⟩
    · (exact stleT)
set_option maxRecDepth 100000 in
theorem lib_containsFunc {k : Rk} {f : FuncId} {caps : List AV} {σ : Sto} {p : Int → Bool} (hp : Tells Try.prog f caps σ p) (l : List Int) : SCall Try.prog 43 [.ro 1 (l.map encI) k, .fn (.func f) [] caps] σ (fun x σ' => x = .bool (l.any p) ∧ σ' = σ) := by
  refine scall_of (n := 9) (ks := [0, 1, 4]) Try.func43 rfl rfl (Nat.le_of_ble_eq_true rfl) ?_
  (refine ctlT ?_)
  refine rgT ?_
  refine lo (lop_assign (E rfl)) rfl ?_
  refine leT ?_
  (refine ctlT ?_)
  refine rgT ?_
  refine lo (lop_move (E rfl)) rfl ?_
  refine lo (lop_move (E rfl)) rfl ?_
  refine cw σ Try.call61 (lib_indexFunc (k := k) hp l) rfl ?_ ?_ ?_
  · (exact argsleT)
  · exact fun _ h => h
  rintro x σ' ⟨m, rfl, hm, rfl⟩ -
  rw [sdrop_all, List.append_nil]
  refine lo (lop_geq (E rfl) (E rfl)) rfl ?_
  refine lo (lop_assign (E rfl)) rfl ?_
  refine leT ?_
  (refine ctlT ?_)
  (apply aend; (exact resT))
  · exact ⟨by simp only [resAV]; rw [← hm], rfl⟩
  · (exact stleT)
end Go.Proofs.Ytkjfflabapeidaa
