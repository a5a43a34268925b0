/-
  Package leb: S; the document's GetS.
-/
import Derived.Test.YtkjfflabapeidaaLebD
namespace Go.Proofs.Ytkjfflabapeidaa
open Go.RowKit Go.ChangeShapes Go.WideShapes Go.ChangeAt Go.Deep
set_option linter.unusedSimpArgs false
set_option linter.unusedVariables false
attribute [local irreducible] SW RS RD AThen ABlock

theorem valS_bd : ∀ (l : List Nat), -9223372036854775808 ≤ valS l ∧ valS l ≤ 9223372036854775807
  | [] => by simp [valS]
  | [b] => by rw [valS]; split <;> omega
  | b :: c :: t => by rw [valS, IntKind.wrap_i64]; omega
/-- what has been read of the bytes from c on, before the first one: the sign -/
def sv (l : List Nat) (k c : Nat) : Int := if c < k then valS ((l.take k).drop c) else if 64 ≤ l[k - 1]! % 128 then -1 else 0
theorem sv_zero {l : List Nat} {k : Nat} (hk : 1 ≤ k) : sv l k 0 = valS (l.take k) := by
  unfold sv; rw [if_pos (by omega), List.drop_zero]
theorem sv_bd (l : List Nat) (k c : Nat) : -9223372036854775808 ≤ sv l k c ∧ sv l k c ≤ 9223372036854775807 := by
  unfold sv
  split
  · exact valS_bd _
  · split <;> omega
theorem sv_step {l : List Nat} {k c : Nat} (h : c < k) (hk : k ≤ l.length) : sv l k c = IntKind.i64.wrap (sv l k (c + 1) * 128 + ((l[c]! % 128 : Nat) : Int)) := by
  unfold sv
  rw [if_pos h, take_step h hk]
  by_cases h1 : c + 1 < k
  · rw [if_pos h1, valS_cons _ (by simp; omega)]
  · obtain rfl : k = c + 1 := by omega
    rw [if_neg h1, show (l.take (c + 1)).drop (c + 1) = [] by rw [List.drop_eq_nil_iff]; simp; omega, valS, Nat.add_sub_cancel]
    generalize l[c]! = y
    split <;> rw [IntKind.wrap_i64] <;> omega
theorem sv_last {l : List Nat} {j : Nat} (hk : j + 1 ≤ l.length) : sv l (j + 1) j = if 64 ≤ l[j]! % 128 then ((l[j]! % 128 : Nat) : Int) - 128 else ((l[j]! % 128 : Nat) : Int) := by
  rw [sv_step (by omega) hk]
  unfold sv
  rw [if_neg (by omega), Nat.add_sub_cancel]
  generalize l[j]! = y
  split <;> rw [IntKind.wrap_i64] <;> omega
theorem i64_ofInt (y : Int) : (BitVec.ofInt IntKind.i64.bits y).toNat = (y % 18446744073709551616).toNat := by
  rw [BitVec.toNat_ofInt]; simp [IntKind.bits]
theorem shlorS {x : Int} {y : Nat} : IntKind.i64.wrap ↑(BitVec.ofInt IntKind.i64.bits (IntKind.i64.wrap (x * 2 ^ min (Int.toNat 7) IntKind.i64.bits)) ||| BitVec.ofInt IntKind.i64.bits (((y % 128 : Nat) : Int))).toNat = IntKind.i64.wrap (x * 128 + ((y % 128 : Nat) : Int)) := by
  have h0 : (2 : Int) ^ min (Int.toNat 7) IntKind.i64.bits = 128 := by decide
  obtain ⟨z, hz⟩ : ∃ z : Nat, (IntKind.i64.wrap (x * 128) % 18446744073709551616).toNat = 2 ^ 7 * z := by
    refine ⟨(IntKind.i64.wrap (x * 128) % 18446744073709551616).toNat / 128, ?_⟩
    rw [IntKind.wrap_i64]; omega
  have h2 : (((y % 128 : Nat) : Int) % 18446744073709551616).toNat = y % 128 := by omega
  rw [h0, BitVec.toNat_or, i64_ofInt, i64_ofInt, hz, h2, ← Nat.two_pow_add_eq_or_of_lt (by omega)]
  rw [IntKind.wrap_i64] at hz
  rw [IntKind.wrap_i64, IntKind.wrap_i64]
  omega
set_option maxRecDepth 100000 in
theorem u8_and64' {x : Nat} (h : x < 256) : IntKind.u8.wrap ↑(BitVec.ofInt IntKind.u8.bits (x : Int) &&& BitVec.ofInt IntKind.u8.bits 64).toNat = if x % 128 < 64 then 0 else 64 := by
  have h1 : ∀ x < 256, x &&& 64 = if x % 128 < 64 then 0 else 64 := by decide
  rw [BitVec.toNat_and, u8_nat (by omega), show (BitVec.ofInt IntKind.u8.bits 64).toNat = 64 by decide, h1 x h, IntKind.wrap_u8]
  split <;> rfl
theorem i64_small {n : Nat} (h : n < 256) : IntKind.i64.wrap (n : Int) = n := by rw [IntKind.wrap_i64]; omega
theorem mostS_eq {bits : Nat} (hb : bits = 32 ∨ bits = 64) : (bits : Int) = 32 ∧ mostS bits = 5 ∨ (bits : Int) = 64 ∧ mostS bits = 10 := by
  rcases hb with rfl | rfl
  · exact .inl ⟨rfl, rfl⟩
  · exact .inr ⟨rfl, rfl⟩
theorem topS {bits : Nat} (hb : bits = 32 ∨ bits = 64) {x : Int} (hv : -9223372036854775808 ≤ x ∧ x ≤ 9223372036854775807) : (x.fdiv (2 ^ min ((bits : Int) - 1).toNat IntKind.i64.bits) = 0 ∨ x.fdiv (2 ^ min ((bits : Int) - 1).toNat IntKind.i64.bits) = -1) ↔ (bits = 32 → -2147483648 ≤ x ∧ x ≤ 2147483647) := by
  rcases hb with rfl | rfl
  · rw [show (2 : Int) ^ min (((32 : Nat) : Int) - 1).toNat IntKind.i64.bits = 2147483648 by decide, Int.fdiv_eq_ediv_of_nonneg _ (by omega)]
    omega
  · rw [show (2 : Int) ^ min (((64 : Nat) : Int) - 1).toNat IntKind.i64.bits = 9223372036854775808 by decide, Int.fdiv_eq_ediv_of_nonneg _ (by omega)]
    omega
theorem getS_no {bits : Nat} {l : List Nat} {k : Nat} (hk0 : (lenB l (mostS bits)).2 = 0) (hk : (lenB l (mostS bits)).1 = k) (h : ¬ (sB (valS (l.take k)) = l.take k ∧ (bits = 32 → -2147483648 ≤ valS (l.take k) ∧ valS (l.take k) ≤ 2147483647))) : getS bits l = (0, 0, 1) := by
  unfold getS
  rw [if_neg (by rw [hk0]; simp), hk, if_neg h]
theorem getS_yes {bits : Nat} {l : List Nat} {k : Nat} (hk0 : (lenB l (mostS bits)).2 = 0) (hk : (lenB l (mostS bits)).1 = k) (h : sB (valS (l.take k)) = l.take k ∧ (bits = 32 → -2147483648 ≤ valS (l.take k) ∧ valS (l.take k) ≤ 2147483647)) : getS bits l = (valS (l.take k), k, 0) := by
  unfold getS
  rw [if_neg (by rw [hk0]; simp), hk, if_pos h]
set_option maxRecDepth 100000 in
theorem leb_S (l : List Nat) (hl : l.length ≤ 1000000) (hlt : ∀ x ∈ l, x < 256) (bits : Nat) (hb : bits = 32 ∨ bits = 64) : SCall Try.prog 64 [.ro 1 (l.map encU) .any, .int .i64 bits] []
    (fun x σ => x = .tup [.int .i64 (getS bits l).1, .int .i64 ((getS bits l).2.1 : Nat), .int .i64 (getS bits l).2.2] ∧ σ = []) := by
  refine scall_of (n := 63) (ks := [0, 1, 4, 5, 6, 7, 8, 9, 10, 11, 19, 28, 30, 60]) Try.func64 rfl rfl (Nat.le_of_ble_eq_true rfl) ?_
  (refine ctlT ?_)
  refine rgT ?_
  refine lo (lop_assign (E rfl)) rfl ?_
  refine lo (lop_assign (E rfl)) rfl ?_
  refine lo (lop_assign (E rfl)) rfl ?_
  refine leT ?_
  (refine ctlT ?_)
  obtain ⟨m, hm⟩ : ∃ m, m = mostS bits := ⟨_, rfl⟩
  have hlen : lenB l (mostS bits) = lenB l m := by rw [hm]
  refine scj (β := Nat) 0 rfl (fun b => ⟨[(0, .ro 1 (l.map encU) .any), (1, .int .i64 bits), (7, .int .i64 ((lenB l m).1 : Nat)), (9, .int .i64 (sv l (lenB l m).1 b)), (10, .int .i64 b)], []⟩) (fun b => b ≤ (lenB l m).1 ∧ (lenB l m).2 = 0) (fun b => b) ?_ (fun P => ?_)
  · rintro n ⟨hn1, hk0⟩
    try dsimp only at hn1 hk0 ⊢
    obtain ⟨hk1, hk2, hk3⟩ := lenB_ok l m hk0
    generalize hk : (lenB l m).1 = k at *
    (refine ctlT ?_)
    refine rgT ?_
    refine lo (lop_move (E rfl)) rfl ?_
    refine lo (lop_gtr (E rfl) (E rfl)) rfl ?_
    refine leT ?_
    (refine ctlT ?_)
    refine sw_cond rfl (fun h => ?_) (fun h => ?_)
    · obtain ⟨c, rfl⟩ : ∃ c, n = c + 1 := ⟨n - 1, by simp at h; omega⟩
      (refine ctlT ?_)
      refine rgT ?_
      refine lo (lop_move (E rfl)) rfl ?_
      refine z19 ?_
      refine lo (lop_assign (E rfl)) rfl ?_
      refine leT ?_
      (refine ctlT ?_)
      rw [show ((c + 1 : Nat) : Int) - 1 = (c : Nat) by omega]
      refine rgT ?_
      refine lo (lop_move (E rfl)) rfl ?_
      refine z23 ?_
      refine lo (lop_move (E rfl)) rfl ?_
      refine lo (lop_move (E rfl)) rfl ?_
      refine z15 ?_
      refine z16 ?_
      refine z3 ?_
      refine z44 ?_
      refine lo (lop_or (E rfl) (E rfl)) rfl ?_
      refine lo (lop_assign (E rfl)) rfl ?_
      refine leT ?_
      (refine ctlT ?_)
      rw [Int.toNat_natCast, u8_andn128 (getB_lt hlt c), i64_small (n := l[c]! % 128) (by omega), shlorS, ← sv_step (by omega) hk3]
      (refine ctgT ?_)
      refine ⟨c, ⟨by omega, hk0⟩, by omega, ?_⟩
      (exact sgoT)
    · obtain rfl : n = 0 := by simp at h; omega
      rw [sv_zero hk1]
      have hv := valS_bd (l.take k)
      generalize hx : valS (l.take k) = x at hv ⊢
      (refine ctlT ?_)
      refine rgT ?_
      refine lo (lop_move (E rfl)) rfl ?_
      refine lo (lop_move (E rfl)) rfl ?_
      refine z19 ?_
      refine z2 ?_
      refine lo (lop_assign (E rfl)) rfl ?_
      refine leT ?_
      (refine ctlT ?_)
      refine rgD [(0, true), (1, true), (2, true), (3, true), (4, false), (5, false), (6, true), (7, true), (8, true), (9, true), (10, true), (11, true), (12, true), (13, true), (14, true)] ?_
      refine dlo rfl (lop_move (E rfl)) rfl ?_
      refine dlo rfl (lop_move (E rfl)) rfl ?_
      refine z25 ?_
      refine dlo rfl (lop_move (E rfl)) rfl ?_
      refine dcw [] rfl Try.call47 (nil_putS x hv) rfl ?_ ?_ ?_ ?_
      · (exact argsleT)
      · (exact stleT)
      · (exact hbtT)
      rintro _ σ' ⟨r, rfl, rfl⟩ hr
      replace hr := cnewT hr; (repeat (rcases hr with ⟨_, hr⟩))
      (apply rd_sto; (exact nflT))
      refine dpu [r] rfl Try.call73 (leb_same (l.take k) (sB x) (fun y hy => hlt y (List.mem_of_mem_take hy)) (sB_lt _ x (Nat.le_refl _))) rfl ?_ nofT ?_
      · (exact pargsT)
      refine dlo rfl (lop_not (E rfl)) rfl ?_
      refine dlo rfl (lop_move (E rfl)) rfl ?_
      refine z26 ?_
      refine z45 ?_
      refine z28 ?_
      refine z29 ?_
      refine z31 ?_
      refine z32 ?_
      refine z33 ?_
      refine deT ?_
      (refine ctlT ?_)
      have ht := topS hb hv
      generalize x.fdiv (2 ^ min ((bits : Int) - 1).toNat IntKind.i64.bits) = y at ht ⊢
      refine sw_cond rfl (fun h => ?_) (fun h => ?_)
      · have h1 : ¬ (sB x = l.take k ∧ (bits = 32 → -2147483648 ≤ x ∧ x ≤ 2147483647)) := by
          rintro ⟨h1, h2⟩
          rcases ht.2 h2 with rfl | rfl <;> simp [h1] at h
        rw [← hx] at h1
        (refine ctlT ?_)
        refine rgT ?_
        refine lo (lop_assign (E rfl)) rfl ?_
        refine lo (lop_assign (E rfl)) rfl ?_
        refine lo (lop_assign (E rfl)) rfl ?_
        refine leT ?_
        (refine ctlT ?_)
        (refine ctgT ?_)
        (apply aend; (exact resT))
        · rw [getS_no (by rw [hlen]; exact hk0) (by rw [hlen]; exact hk) h1]
          exact ⟨rfl, rfl⟩
        · (exact stleT)
      · have h1 : sB x = l.take k ∧ (bits = 32 → -2147483648 ≤ x ∧ x ≤ 2147483647) := by
          by_cases h2 : sB x = l.take k
          · refine ⟨h2, ht.1 ?_⟩
            by_cases h3 : y = 0
            · exact .inl h3
            · exact .inr (by simpa [h2, h3] using h)
          · simp [h2] at h
        rw [← hx] at h1
        (refine ctlT ?_)
        refine rgT ?_
        refine lo (lop_move (E rfl)) rfl ?_
        refine lo (lop_move (E rfl)) rfl ?_
        refine lo (lop_assign (E rfl)) rfl ?_
        refine lo (lop_assign (E rfl)) rfl ?_
        refine lo (lop_assign (E rfl)) rfl ?_
        refine leT ?_
        (refine ctlT ?_)
        (refine ctgT ?_)
        (apply aend; (exact resT))
        · rw [getS_yes (by rw [hlen]; exact hk0) (by rw [hlen]; exact hk) h1, hx]
          exact ⟨rfl, rfl⟩
        · (exact stleT)
  · (refine ctlT ?_)
    refine rgT ?_
    refine lo (lop_move (E rfl)) rfl ?_
    refine lo (lop_move (E rfl)) rfl ?_
    (first | refine pu [] Try.call72 (leb_length l hl bits m (by rw [hm]; exact mostS_eq hb)) rfl argsT nofT ?_ | refine pug [] rfl rfl Try.call72 (fun _ => (leb_length l hl bits m (by rw [hm]; exact mostS_eq hb))) rfl argsT nofT ?_)
    refine lo (lop_move (E rfl)) rfl ?_
    refine lo (lop_extract (E rfl) rfl) rfl ?_
    refine lo (lop_extract (E rfl) rfl) rfl ?_
    refine lo (lop_assign (E rfl)) rfl ?_
    refine lo (lop_assign (E rfl)) rfl ?_
    refine leT ?_
    (refine ctlT ?_)
    refine rgT ?_
    refine lo (lop_move (E rfl)) rfl ?_
    refine lo (lop_neq (E rfl) (E rfl)) rfl ?_
    refine leT ?_
    (refine ctlT ?_)
    refine sw_cond rfl (fun h => ?_) (fun h => ?_)
    · have h1 : (lenB l m).2 ≠ 0 := by simpa using h
      (refine ctlT ?_)
      refine rgT ?_
      refine lo (lop_move (E rfl)) rfl ?_
      refine lo (lop_assign (E rfl)) rfl ?_
      refine lo (lop_assign (E rfl)) rfl ?_
      refine lo (lop_assign (E rfl)) rfl ?_
      refine leT ?_
      (refine ctlT ?_)
      (refine ctgT ?_)
      (apply aend; (exact resT))
      · unfold getS
        rw [hlen, if_pos h1]
        exact ⟨rfl, rfl⟩
      · (exact stleT)
    · have hk0 : (lenB l m).2 = 0 := by simpa using h
      obtain ⟨hk1, hk2, hk3⟩ := lenB_ok l m hk0
      have hsv : sv l (lenB l m).1 (lenB l m).1 = if 64 ≤ l[(lenB l m).1 - 1]! % 128 then -1 else 0 := by unfold sv; rw [if_neg (by omega)]
      obtain ⟨j, hj⟩ : ∃ j, (lenB l m).1 = j + 1 := ⟨(lenB l m).1 - 1, by omega⟩
      rw [hj] at hsv P hk1 hk2 hk3 ⊢
      rw [Nat.add_sub_cancel] at hsv
      (refine ctlT ?_)
      refine rgT ?_
      refine lo (lop_move (E rfl)) rfl ?_
      refine lo (lop_assign (E rfl)) rfl ?_
      refine lo (lop_assign (E rfl)) rfl ?_
      refine leT ?_
      (refine ctlT ?_)
      refine rgT ?_
      refine lo (lop_move (E rfl)) rfl ?_
      refine lo (lop_move (E rfl)) rfl ?_
      refine z19 ?_
      rw [show ((j + 1 : Nat) : Int) - 1 = (j : Nat) by omega]
      refine z15 ?_
      refine z16 ?_
      refine lo (lop_and (E rfl) (E rfl)) rfl ?_
      refine lo (lop_neq (E rfl) (E rfl)) rfl ?_
      refine leT ?_
      (refine ctlT ?_)
      rw [Int.toNat_natCast, u8_and64' (getB_lt hlt j)]
      refine sw_cond rfl (fun h => ?_) (fun h => ?_)
      · have h2 : 64 ≤ l[j]! % 128 := by
          by_cases h3 : l[j]! % 128 < 64
          · rw [if_pos h3] at h; simp at h
          · omega
        rw [if_pos h2] at hsv
        refine rgT ?_
        refine lo (lop_assign (E rfl)) rfl ?_
        refine leT ?_
        refine an ?_
        refine P (j + 1) _ ⟨Nat.le_refl _, hk0⟩ ?_
        rw [hsv]
        (exact sgoT)
      · have h2 : ¬ 64 ≤ l[j]! % 128 := by
          by_cases h3 : l[j]! % 128 < 64
          · omega
          · rw [if_neg h3] at h; simp at h
        rw [if_neg h2] at hsv
        refine ck ?_
        refine an ?_
        refine P (j + 1) _ ⟨Nat.le_refl _, hk0⟩ ?_
        rw [hsv]
        (exact sgoT)
theorem mulremS {x : Int} {y : Nat} : IntKind.i64.wrap (IntKind.i64.wrap (x * 128) + IntKind.i64.wrap ((y : Int).tmod 128)) = IntKind.i64.wrap (x * 128 + ((y % 128 : Nat) : Int)) := by
  rw [Int.tmod_eq_emod_of_nonneg (by omega), IntKind.wrap_i64, IntKind.wrap_i64, IntKind.wrap_i64, IntKind.wrap_i64]; omega
theorem rem128 {y : Nat} : IntKind.i64.wrap ((y : Int).tmod 128) = ((y % 128 : Nat) : Int) := by
  rw [Int.tmod_eq_emod_of_nonneg (by omega), IntKind.wrap_i64]; omega
set_option maxRecDepth 100000 in
theorem ref_GetS (l : List Nat) (hl : l.length ≤ 1000000) (hlt : ∀ x ∈ l, x < 256) (bits : Nat) (hb : bits = 32 ∨ bits = 64) : SCall Try.prog 75 [.ro 1 (l.map encU) .any, .int .i64 bits] []
    (fun x σ => x = .tup [.int .i64 (getS bits l).1, .int .i64 ((getS bits l).2.1 : Nat), .int .i64 (getS bits l).2.2] ∧ σ = []) := by
  refine scall_of (n := 82) (ks := [0, 1, 4, 5, 6, 7, 8, 9, 10, 16, 24, 34, 40, 79]) Try.func75 rfl rfl (Nat.le_of_ble_eq_true rfl) ?_
  obtain ⟨m, hm⟩ : ∃ m, m = mostS bits := ⟨_, rfl⟩
  have hlen : lenB l (mostS bits) = lenB l m := by rw [hm]
  (refine ctlT ?_)
  refine rgT ?_
  refine lo (lop_assign (E rfl)) rfl ?_
  refine lo (lop_assign (E rfl)) rfl ?_
  refine lo (lop_assign (E rfl)) rfl ?_
  refine leT ?_
  (refine ctlT ?_)
  refine rgT ?_
  refine lo (lop_move (E rfl)) rfl ?_
  refine lo (lop_lss (E rfl) (E rfl)) rfl ?_
  refine lo (lop_move (E rfl)) rfl ?_
  refine z4 ?_
  refine z18 ?_
  refine z13 ?_
  refine leT ?_
  (refine ctlT ?_)
  refine sw_cond rfl (fun h => ?_) (fun h => ?_)
  · exfalso; simp at h; omega
  (refine ctlT ?_)
  refine rgT ?_
  refine lo (lop_move (E rfl)) rfl ?_
  refine lo (lop_move (E rfl)) rfl ?_
  (first | refine pu [] Try.call76 (ref_whole l hl bits m (by rw [hm]; exact mostS_eq hb)) rfl argsT nofT ?_ | refine pug [] rfl rfl Try.call76 (fun _ => (ref_whole l hl bits m (by rw [hm]; exact mostS_eq hb))) rfl argsT nofT ?_)
  refine lo (lop_move (E rfl)) rfl ?_
  refine lo (lop_extract (E rfl) rfl) rfl ?_
  refine lo (lop_extract (E rfl) rfl) rfl ?_
  refine lo (lop_assign (E rfl)) rfl ?_
  refine lo (lop_assign (E rfl)) rfl ?_
  refine leT ?_
  (refine ctlT ?_)
  refine rgT ?_
  refine lo (lop_move (E rfl)) rfl ?_
  refine lo (lop_neq (E rfl) (E rfl)) rfl ?_
  refine leT ?_
  (refine ctlT ?_)
  refine sw_cond rfl (fun h => ?_) (fun h => ?_)
  · have h1 : (lenB l m).2 ≠ 0 := by simpa using h
    (refine ctlT ?_)
    refine rgT ?_
    refine lo (lop_move (E rfl)) rfl ?_
    refine lo (lop_assign (E rfl)) rfl ?_
    refine lo (lop_assign (E rfl)) rfl ?_
    refine lo (lop_assign (E rfl)) rfl ?_
    refine leT ?_
    (refine ctlT ?_)
    (apply aend; (exact resT))
    · unfold getS
      rw [hlen, if_pos h1]
      exact ⟨rfl, rfl⟩
    · (exact stleT)
  have hk0 : (lenB l m).2 = 0 := by simpa using h
  obtain ⟨hk1, hk2, hk3⟩ := lenB_ok l m hk0
  obtain ⟨j, hj⟩ : ∃ j, (lenB l m).1 = j + 1 := ⟨(lenB l m).1 - 1, by omega⟩
  rw [hj] at hk1 hk2 hk3 ⊢
  have hs := sv_last hk3
  have hz := sv_zero (l := l) hk1
  (refine ctlT ?_)
  refine rgT ?_
  refine lo (lop_move (E rfl)) rfl ?_
  refine lo (lop_move (E rfl)) rfl ?_
  refine z19 ?_
  rw [show ((j + 1 : Nat) : Int) - 1 = (j : Nat) by omega]
  refine z15 ?_
  refine z16 ?_
  refine z22 ?_
  refine z44 ?_
  refine lo (lop_assign (E rfl)) rfl ?_
  refine leT ?_
  refine an ?_
  rw [Int.toNat_natCast, rem128]
  refine sj (fun _ : Unit => ⟨[(0, .ro 1 (l.map encU) .any), (1, .int .i64 bits), (7, .int .i64 ((j + 1 : Nat) : Int)), (9, .int .i64 (sv l (j + 1) j))], []⟩) (fun _ => True) ?_ (fun _ _ => ?_)
  · (refine ctlT ?_)
    refine rgT ?_
    refine lo (lop_move (E rfl)) rfl ?_
    refine lo (lop_geq (E rfl) (E rfl)) rfl ?_
    refine leT ?_
    (refine ctlT ?_)
    refine sw_cond rfl (fun h => ?_) (fun h => ?_)
    · rw [if_pos (by have := of_decide_eq_true h; omega)] at hs
      (refine ctlT ?_)
      refine rgT ?_
      refine lo (lop_move (E rfl)) rfl ?_
      refine z19 ?_
      refine lo (lop_assign (E rfl)) rfl ?_
      refine leT ?_
      (refine ctlT ?_)
      rw [hs]
      refine ⟨(), trivial, ?_⟩
      (exact sgoT)
    · rw [if_neg (by have := of_decide_eq_false h; omega)] at hs
      (refine ctlT ?_)
      rw [hs]
      refine ⟨(), trivial, ?_⟩
      (exact sgoT)
  (refine ctlT ?_)
  refine rgT ?_
  refine lo (lop_move (E rfl)) rfl ?_
  refine z19 ?_
  refine lo (lop_assign (E rfl)) rfl ?_
  refine leT ?_
  (refine ctlT ?_)
  rw [show ((j + 1 : Nat) : Int) - 2 = (j : Int) - 1 by omega]
  refine lp (β := Nat) (fun b => ⟨[(0, .ro 1 (l.map encU) .any), (1, .int .i64 bits), (7, .int .i64 ((j + 1 : Nat) : Int)), (9, .int .i64 (sv l (j + 1) b)), (10, .int .i64 ((b : Int) - 1))], []⟩) (fun b => b ≤ j) (fun b => b) j (by (exact sgoT)) (Nat.le_refl _) ?_
  intro n hn
  try dsimp only at hn ⊢
  (refine ctlT ?_)
  refine rgT ?_
  refine lo (lop_move (E rfl)) rfl ?_
  refine lo (lop_geq (E rfl) (E rfl)) rfl ?_
  refine leT ?_
  (refine ctlT ?_)
  refine sw_cond rfl (fun h => ?_) (fun h => ?_)
  · obtain ⟨c, rfl⟩ : ∃ c, n = c + 1 := ⟨n - 1, by simp at h; omega⟩
    rw [show ((c + 1 : Nat) : Int) - 1 = (c : Nat) by omega]
    (refine ctlT ?_)
    refine rgT ?_
    refine lo (lop_move (E rfl)) rfl ?_
    refine lo (lop_mul (E rfl) (E rfl)) rfl ?_
    refine lo (lop_move (E rfl)) rfl ?_
    refine lo (lop_move (E rfl)) rfl ?_
    refine z15 ?_
    refine z16 ?_
    refine z22 ?_
    refine z44 ?_
    refine z17 ?_
    refine lo (lop_assign (E rfl)) rfl ?_
    refine leT ?_
    (refine ctlT ?_)
    rw [Int.toNat_natCast, mulremS, ← sv_step (by omega) hk3]
    refine rgT ?_
    refine lo (lop_move (E rfl)) rfl ?_
    refine z19 ?_
    refine lo (lop_assign (E rfl)) rfl ?_
    refine leT ?_
    (refine ctlT ?_)
    refine ⟨c, by omega, by omega, ?_⟩
    (exact sgoT)
  obtain rfl : n = 0 := by simp at h; omega
  rw [hz]
  have hv := valS_bd (l.take (j + 1))
  generalize hx : valS (l.take (j + 1)) = x at hv ⊢
  (refine ctlT ?_)
  refine rgD [(0, true), (1, true), (2, true), (3, true), (4, true), (5, true), (6, true), (7, true), (8, true), (9, true), (10, true), (11, true), (12, true), (13, true), (14, true), (15, true), (16, true), (17, true), (18, true), (19, true), (22, true), (23, true), (24, true), (25, true), (20, false), (21, true), (26, true), (27, true)] ?_
  refine dlo rfl (lop_move (E rfl)) rfl ?_
  refine z46 ?_
  refine dlo rfl (lop_move (E rfl)) rfl ?_
  refine z26 ?_
  refine z26 ?_
  refine z47 ?_
  refine z48 ?_
  refine z49 ?_
  refine z50 ?_
  refine z28 ?_
  refine z29 ?_
  refine z29 ?_
  refine z51 ?_
  refine z35 ?_
  refine z36 ?_
  refine z37 ?_
  refine z52 ?_
  refine z53 ?_
  refine dlo rfl (lop_move (E rfl)) rfl ?_
  have hE : (if decide ((bits : Int) < 64) = true then if decide (x < IntKind.i64.wrap (-1 * 2 ^ min ((bits : Int) - 1).toNat IntKind.i64.bits)) = true then true else decide (IntKind.i64.wrap (1 * 2 ^ min ((bits : Int) - 1).toNat IntKind.i64.bits) ≤ x) else false) = decide (¬ (bits = 32 → -2147483648 ≤ x ∧ x ≤ 2147483647)) := by
    rcases hb with rfl | rfl
    · rw [show IntKind.i64.wrap (-1 * 2 ^ min (((32 : Nat) : Int) - 1).toNat IntKind.i64.bits) = -2147483648 by decide, show IntKind.i64.wrap (1 * 2 ^ min (((32 : Nat) : Int) - 1).toNat IntKind.i64.bits) = 2147483648 by decide]
      by_cases h1 : x < -2147483648
      · rw [decide_eq_true (p := ¬ (32 = 32 → -2147483648 ≤ x ∧ x ≤ 2147483647)) (by omega)]; simp [h1]
      · by_cases h3 : 2147483648 ≤ x
        · rw [decide_eq_true (p := ¬ (32 = 32 → -2147483648 ≤ x ∧ x ≤ 2147483647)) (by omega)]; simp [h1, h3]
        · rw [decide_eq_false (p := ¬ (32 = 32 → -2147483648 ≤ x ∧ x ≤ 2147483647)) (by omega)]; simp [h1, h3]
    · simp
  rw [hE]
  by_cases h2 : bits = 32 → -2147483648 ≤ x ∧ x ≤ 2147483647
  · rw [show decide (¬ (bits = 32 → -2147483648 ≤ x ∧ x ≤ 2147483647)) = false from decide_eq_false (by simpa using h2)]
    refine z38 ?_
    refine z38 ?_
    refine z38 ?_
    refine z39 ?_
    rw [show List.take (j + 1 - 0) (List.drop 0 (l.map encU)) = (l.take (j + 1)).map encU by rw [Nat.sub_zero, List.drop_zero, List.map_take]]
    refine dly rfl rfl rfl (lop_bytes_ro (e := 5) (bs := l.take (j + 1)) (E rfl)) rfl ?_
    refine dcwy [] rfl rfl rfl Try.call49 (ref_S x hv) rfl ?_ ?_ ?_ ?_
    · (exact argsleT)
    · (exact stleT)
    · (exact hbtT)
    rintro _ σ' ⟨r, rfl, rfl⟩ hr
    replace hr := cnewT hr; (repeat (rcases hr with ⟨_, hr⟩))
    (apply rd_sto; (exact nflT))
    refine dly rfl rfl rfl (lop_bytes_own (e := 5) (bs := sB x) (bs' := sB x) (E rfl) sgT (by omega) (by rw [List.drop_zero]; exact List.take_of_length_le (by omega))) rfl ?_
    refine z40 ?_
    refine z41 ?_
    refine deT ?_
    (refine ctlT ?_)
    rw [strU_inj (sB_lt _ x (Nat.le_refl _)) (fun y hy => hlt y (List.mem_of_mem_take hy))]
    refine sw_cond rfl (fun h => ?_) (fun h => ?_)
    · have h1 : ¬ (sB x = l.take (j + 1) ∧ (bits = 32 → -2147483648 ≤ x ∧ x ≤ 2147483647)) := by
        rintro ⟨h1, h2⟩
        simp [h1] at h
      rw [← hx] at h1
      (refine ctlT ?_)
      refine rgT ?_
      refine lo (lop_assign (E rfl)) rfl ?_
      refine lo (lop_assign (E rfl)) rfl ?_
      refine lo (lop_assign (E rfl)) rfl ?_
      refine leT ?_
      (refine ctlT ?_)
      (apply aend; (exact resT))
      · rw [getS_no (by rw [hlen]; exact hk0) (by rw [hlen]; exact hj) h1]
        exact ⟨rfl, rfl⟩
      · (exact stleT)
    · have h1 : sB x = l.take (j + 1) ∧ (bits = 32 → -2147483648 ≤ x ∧ x ≤ 2147483647) := ⟨by simpa using h, h2⟩
      rw [← hx] at h1
      (refine ctlT ?_)
      refine rgT ?_
      refine lo (lop_move (E rfl)) rfl ?_
      refine lo (lop_move (E rfl)) rfl ?_
      refine lo (lop_assign (E rfl)) rfl ?_
      refine lo (lop_assign (E rfl)) rfl ?_
      refine lo (lop_assign (E rfl)) rfl ?_
      refine leT ?_
      (refine ctlT ?_)
      (apply aend; (exact resT))
      · rw [getS_yes (by rw [hlen]; exact hk0) (by rw [hlen]; exact hj) h1, hx]
        exact ⟨rfl, rfl⟩
      · (exact stleT)
  · rw [show decide (¬ (bits = 32 → -2147483648 ≤ x ∧ x ≤ 2147483647)) = true from decide_eq_true (by simpa using h2)]
    have h1 : ¬ (sB x = l.take (j + 1) ∧ (bits = 32 → -2147483648 ≤ x ∧ x ≤ 2147483647)) := fun hh => h2 hh.2
    rw [← hx] at h1
    refine z26 ?_
    refine z26 ?_
    refine z26 ?_
    refine z42 ?_
    refine dln rfl rfl rfl rfl rfl ?_
    refine rd_heavy_no rfl rfl rfl rfl rfl ?_
    refine dln rfl rfl rfl rfl rfl ?_
    refine z43 ?_
    refine z33 ?_
    refine deT ?_
    (refine ctlT ?_)
    refine rgT ?_
    refine lo (lop_assign (E rfl)) rfl ?_
    refine lo (lop_assign (E rfl)) rfl ?_
    refine lo (lop_assign (E rfl)) rfl ?_
    refine leT ?_
    (refine ctlT ?_)
    (apply aend; (exact resT))
    · rw [getS_no (by rw [hlen]; exact hk0) (by rw [hlen]; exact hj) h1]
      exact ⟨rfl, rfl⟩
    · (exact stleT)
end Go.Proofs.Ytkjfflabapeidaa
