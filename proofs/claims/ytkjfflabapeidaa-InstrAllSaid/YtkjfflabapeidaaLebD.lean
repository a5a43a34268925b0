/-
  Package leb: U; the document's GetU.
-/
import Derived.Test.YtkjfflabapeidaaLebC
namespace Go.Proofs.Ytkjfflabapeidaa
open Go.RowKit Go.ChangeShapes Go.WideShapes Go.ChangeAt Go.Deep
set_option linter.unusedSimpArgs false
set_option linter.unusedVariables false
attribute [local irreducible] SW RS RD AThen ABlock

theorem nil_putU (n : Nat) (hn : n < 18446744073709551616) : SCall Try.prog 46 [.ro 0 [] .nil, .int .u64 n] []
    (fun x σ => ∃ r, x = .own r 0 (uB n).length ∧ σ = [(r, .arr 5 1 ((uB n).map encU))]) :=
  scall_nil (e := 5) (sz := 1) (by decide) fun q _ => leb_putU q [] (by simp) n hn
theorem nil_putS (n : Int) (hn : -9223372036854775808 ≤ n ∧ n ≤ 9223372036854775807) : SCall Try.prog 47 [.ro 0 [] .nil, .int .i64 n] []
    (fun x σ => ∃ r, x = .own r 0 (sB n).length ∧ σ = [(r, .arr 5 1 ((sB n).map encU))]) :=
  scall_nil (e := 5) (sz := 1) (by decide) fun q _ => leb_putS q [] (by simp) n hn
theorem getB_lt {l : List Nat} (h : ∀ x ∈ l, x < 256) (i : Nat) : l[i]! < 256 := by
  by_cases hi : i < l.length
  · rw [getElem!_pos l i hi]; exact h _ (List.getElem_mem hi)
  · simp [hi]
theorem take_step {l : List Nat} {k c : Nat} (h : c < k) (hk : k ≤ l.length) : (l.take k).drop c = l[c]! :: (l.take k).drop (c + 1) := by
  have h1 : c < (l.take k).length := by simp; omega
  rw [List.drop_eq_getElem_cons h1, List.getElem_take, getElem!_pos l c (by omega)]
theorem u64_ofNat {n : Nat} (hn : n < 18446744073709551616) : (BitVec.ofInt IntKind.u64.bits (n : Int)).toNat = n := by
  rw [BitVec.toNat_ofInt]; simp [IntKind.bits]; omega
theorem shlor {x y : Nat} (hx : x < 34359738368) (hy : y < 256) : IntKind.u64.wrap ↑(BitVec.ofInt IntKind.u64.bits (IntKind.u64.wrap ((x : Int) * 2 ^ min (Int.toNat 7) IntKind.u64.bits)) ||| BitVec.ofInt IntKind.u64.bits (((y % 128 : Nat) : Int))).toNat = ((y % 128 + 128 * x : Nat) : Int) := by
  have h0 : (2 : Int) ^ min (Int.toNat 7) IntKind.u64.bits = 128 := by decide
  have h1 : IntKind.u64.wrap ((x : Int) * 128) = ((x * 128 : Nat) : Int) := by rw [IntKind.wrap_u64]; omega
  rw [h0, h1, BitVec.toNat_or, u64_ofNat (by omega), u64_ofNat (by omega), show x * 128 = 2 ^ 7 * x by omega, ← Nat.two_pow_add_eq_or_of_lt (by omega), IntKind.wrap_u64]
  omega
theorem shr32 {x : Nat} : (x : Int).fdiv (2 ^ min (Int.toNat 32) IntKind.u64.bits) = ((x / 4294967296 : Nat) : Int) := by
  have : (2 : Int) ^ min (Int.toNat 32) IntKind.u64.bits = 4294967296 := by decide
  rw [this, Int.fdiv_eq_ediv_of_nonneg _ (by omega)]
  omega
theorem valU_lt5 {l : List Nat} {k c : Nat} (hk : k ≤ 5) : valU ((l.take k).drop c) < 34359738368 := by
  have h1 := valU_lt ((l.take k).drop c)
  have h2 : ((l.take k).drop c).length ≤ 5 := by simp; omega
  exact Nat.lt_of_lt_of_le h1 (Nat.le_trans (Nat.pow_le_pow_right (by decide) h2) (by decide))
set_option maxRecDepth 100000 in
theorem leb_U (l : List Nat) (hl : l.length ≤ 1000000) (hlt : ∀ x ∈ l, x < 256) : SCall Try.prog 63 [.ro 1 (l.map encU) .any, .int .i64 32] []
    (fun x σ => x = .tup [.int .u64 ((getU l).1 : Nat), .int .i64 ((getU l).2.1 : Nat), .int .i64 (getU l).2.2] ∧ σ = []) := by
  refine scall_of (n := 53) (ks := [0, 1, 4, 5, 6, 7, 8, 9, 10, 18, 22, 50]) Try.func63 rfl rfl (Nat.le_of_ble_eq_true rfl) ?_
  (refine ctlT ?_)
  refine rgT ?_
  refine lo (lop_assign (E rfl)) rfl ?_
  refine lo (lop_assign (E rfl)) rfl ?_
  refine lo (lop_assign (E rfl)) rfl ?_
  refine leT ?_
  (refine ctlT ?_)
  refine scj (β := Nat) 0 rfl (fun b => ⟨[(0, .ro 1 (l.map encU) .any), (1, .int .i64 32), (7, .int .i64 ((lenB l 5).1 : Nat)), (9, .int .u64 (valU ((l.take (lenB l 5).1).drop b) : Nat)), (10, .int .i64 b)], []⟩) (fun b => b ≤ (lenB l 5).1 ∧ (lenB l 5).2 = 0) (fun b => b) ?_ (fun P => ?_)
  · rintro n ⟨hn1, hk0⟩
    try dsimp only at hn1 hk0 ⊢
    obtain ⟨hk1, hk2, hk3⟩ := lenB_ok l 5 hk0
    generalize hk : (lenB l 5).1 = k at *
    (refine ctlT ?_)
    refine rgT ?_
    refine lo (lop_move (E rfl)) rfl ?_
    refine lo (lop_gtr (E rfl) (E rfl)) rfl ?_
    refine leT ?_
    (refine ctlT ?_)
    refine sw_cond rfl (fun h => ?_) (fun h => ?_)
    · obtain ⟨c, rfl⟩ : ∃ c, n = c + 1 := ⟨n - 1, by simp at h; omega⟩
      (refine ctlT ?_)
      refine rgT ?_
      refine lo (lop_move (E rfl)) rfl ?_
      refine z19 ?_
      refine lo (lop_assign (E rfl)) rfl ?_
      refine leT ?_
      (refine ctlT ?_)
      rw [show ((c + 1 : Nat) : Int) - 1 = (c : Nat) by omega]
      refine rgT ?_
      refine lo (lop_move (E rfl)) rfl ?_
      refine z23 ?_
      refine lo (lop_move (E rfl)) rfl ?_
      refine lo (lop_move (E rfl)) rfl ?_
      refine z15 ?_
      refine z16 ?_
      refine z3 ?_
      refine z24 ?_
      refine lo (lop_or (E rfl) (E rfl)) rfl ?_
      refine lo (lop_assign (E rfl)) rfl ?_
      refine leT ?_
      (refine ctlT ?_)
      rw [Int.toNat_natCast, u8_andn128 (getB_lt hlt c), u64_nat (n := l[c]! % 128) (by omega), shlor (valU_lt5 hk2) (getB_lt hlt c)]
      (refine ctgT ?_)
      refine ⟨c, ⟨by omega, hk0⟩, by omega, ?_⟩
      rw [take_step (c := c) (by omega) hk3, valU]
      (exact sgoT)
    · obtain rfl : n = 0 := by simp at h; omega
      rw [List.drop_zero]
      have hv : valU (l.take k) < 34359738368 := valU_lt5 (c := 0) hk2
      generalize hx : valU (l.take k) = x at hv ⊢
      (refine ctlT ?_)
      refine rgD [(0, true), (1, true), (2, true), (3, true), (4, false), (5, false), (6, true), (7, true), (8, true), (9, true), (10, true), (11, true), (12, true), (13, true), (14, true), (15, true), (16, true)] ?_
      refine dlo rfl (lop_move (E rfl)) rfl ?_
      refine dlo rfl (lop_move (E rfl)) rfl ?_
      refine z25 ?_
      refine dlo rfl (lop_move (E rfl)) rfl ?_
      refine dcw [] rfl Try.call46 (nil_putU x (by omega)) rfl ?_ ?_ ?_ ?_
      · (exact argsleT)
      · (exact stleT)
      · (exact hbtT)
      rintro _ σ' ⟨r, rfl, rfl⟩ hr
      replace hr := cnewT hr; (repeat (rcases hr with ⟨_, hr⟩))
      (apply rd_sto; (exact nflT))
      refine dpu [r] rfl Try.call73 (leb_same (l.take k) (uB x) (fun y hy => hlt y (List.mem_of_mem_take hy)) (uB_lt x)) rfl ?_ nofT ?_
      · (exact pargsT)
      refine dlo rfl (lop_not (E rfl)) rfl ?_
      refine dlo rfl (lop_move (E rfl)) rfl ?_
      refine z26 ?_
      refine z27 ?_
      refine z28 ?_
      refine z29 ?_
      refine z29 ?_
      refine z30 ?_
      refine z31 ?_
      refine z32 ?_
      refine z33 ?_
      refine deT ?_
      (refine ctlT ?_)
      have hc : (if (!decide (uB x = l.take k)) = true then true else (x : Int).fdiv (2 ^ min (Int.toNat 32) IntKind.u64.bits) != 0) = !decide (uB x = l.take k ∧ x < 4294967296) := by
        rw [shr32]
        by_cases h1 : uB x = l.take k
        · by_cases h2 : x < 4294967296
          · simp [h1, h2]; omega
          · simp [h1, h2]; omega
        · simp [h1]
      rw [hc]
      refine sw_cond rfl (fun h => ?_) (fun h => ?_)
      · have h1 : ¬ (uB x = l.take k ∧ x < 4294967296) := by
          rintro ⟨h1, h2⟩
          simp [h1] at h
          omega
        (refine ctlT ?_)
        refine rgT ?_
        refine lo (lop_assign (E rfl)) rfl ?_
        refine lo (lop_assign (E rfl)) rfl ?_
        refine lo (lop_assign (E rfl)) rfl ?_
        refine leT ?_
        (refine ctlT ?_)
        (refine ctgT ?_)
        (apply aend; (exact resT))
        · unfold getU
          rw [if_neg (by rw [hk0]; simp), hk, hx, if_neg h1]
          exact ⟨rfl, rfl⟩
        · (exact stleT)
      · have h1 : uB x = l.take k ∧ x < 4294967296 := by simpa using h
        (refine ctlT ?_)
        refine rgT ?_
        refine lo (lop_move (E rfl)) rfl ?_
        refine lo (lop_move (E rfl)) rfl ?_
        refine lo (lop_assign (E rfl)) rfl ?_
        refine lo (lop_assign (E rfl)) rfl ?_
        refine lo (lop_assign (E rfl)) rfl ?_
        refine leT ?_
        (refine ctlT ?_)
        (refine ctgT ?_)
        (apply aend; (exact resT))
        · unfold getU
          rw [if_neg (by rw [hk0]; simp), hk, hx, if_pos h1]
          exact ⟨rfl, rfl⟩
        · (exact stleT)
  · (refine ctlT ?_)
    refine rgT ?_
    refine lo (lop_move (E rfl)) rfl ?_
    refine lo (lop_move (E rfl)) rfl ?_
    (first | refine pu [] Try.call72 (leb_length l hl 32 5 (.inl ⟨rfl, rfl⟩)) rfl argsT nofT ?_ | refine pug [] rfl rfl Try.call72 (fun _ => (leb_length l hl 32 5 (.inl ⟨rfl, rfl⟩))) rfl argsT nofT ?_)
    refine lo (lop_move (E rfl)) rfl ?_
    refine lo (lop_extract (E rfl) rfl) rfl ?_
    refine lo (lop_extract (E rfl) rfl) rfl ?_
    refine lo (lop_assign (E rfl)) rfl ?_
    refine lo (lop_assign (E rfl)) rfl ?_
    refine leT ?_
    (refine ctlT ?_)
    refine rgT ?_
    refine lo (lop_move (E rfl)) rfl ?_
    refine lo (lop_neq (E rfl) (E rfl)) rfl ?_
    refine leT ?_
    (refine ctlT ?_)
    refine sw_cond rfl (fun h => ?_) (fun h => ?_)
    · have h1 : (lenB l 5).2 ≠ 0 := by simpa using h
      (refine ctlT ?_)
      refine rgT ?_
      refine lo (lop_move (E rfl)) rfl ?_
      refine lo (lop_assign (E rfl)) rfl ?_
      refine lo (lop_assign (E rfl)) rfl ?_
      refine lo (lop_assign (E rfl)) rfl ?_
      refine leT ?_
      (refine ctlT ?_)
      (refine ctgT ?_)
      (apply aend; (exact resT))
      · unfold getU
        rw [if_pos h1]
        exact ⟨rfl, rfl⟩
      · (exact stleT)
    · have h1 : (lenB l 5).2 = 0 := by simpa using h
      (refine ctlT ?_)
      refine rgT ?_
      refine lo (lop_move (E rfl)) rfl ?_
      refine lo (lop_assign (E rfl)) rfl ?_
      refine lo (lop_assign (E rfl)) rfl ?_
      refine leT ?_
      refine an ?_
      refine P (lenB l 5).1 _ ⟨Nat.le_refl _, h1⟩ ?_
      rw [show (l.take (lenB l 5).1).drop (lenB l 5).1 = [] by rw [List.drop_eq_nil_iff]; simp; omega]
      (exact sgoT)
theorem mulrem {x y : Nat} (hx : x < 34359738368) : IntKind.u64.wrap (IntKind.u64.wrap ((x : Int) * 128) + IntKind.u64.wrap ((y : Int).tmod 128)) = ((y % 128 + 128 * x : Nat) : Int) := by
  rw [Int.tmod_eq_emod_of_nonneg (by omega), IntKind.wrap_u64, IntKind.wrap_u64, IntKind.wrap_u64]; omega
set_option maxRecDepth 100000 in
theorem ref_GetU (l : List Nat) (hl : l.length ≤ 1000000) (hlt : ∀ x ∈ l, x < 256) : SCall Try.prog 74 [.ro 1 (l.map encU) .any, .int .i64 32] []
    (fun x σ => x = .tup [.int .u64 ((getU l).1 : Nat), .int .i64 ((getU l).2.1 : Nat), .int .i64 (getU l).2.2] ∧ σ = []) := by
  refine scall_of (n := 71) (ks := [0, 1, 4, 5, 6, 7, 8, 9, 10, 11, 17, 25, 30, 68]) Try.func74 rfl rfl (Nat.le_of_ble_eq_true rfl) ?_
  (refine ctlT ?_)
  refine rgT ?_
  refine lo (lop_assign (E rfl)) rfl ?_
  refine lo (lop_assign (E rfl)) rfl ?_
  refine lo (lop_assign (E rfl)) rfl ?_
  refine leT ?_
  (refine ctlT ?_)
  refine rgT ?_
  refine lo (lop_move (E rfl)) rfl ?_
  refine lo (lop_lss (E rfl) (E rfl)) rfl ?_
  refine lo (lop_move (E rfl)) rfl ?_
  refine z4 ?_
  refine z18 ?_
  refine z13 ?_
  refine leT ?_
  (refine ctlT ?_)
  refine rgT ?_
  refine lo (lop_move (E rfl)) rfl ?_
  refine lo (lop_move (E rfl)) rfl ?_
  (first | refine pu [] Try.call76 (ref_whole l hl 32 5 (.inl ⟨rfl, rfl⟩)) rfl argsT nofT ?_ | refine pug [] rfl rfl Try.call76 (fun _ => (ref_whole l hl 32 5 (.inl ⟨rfl, rfl⟩))) rfl argsT nofT ?_)
  refine lo (lop_move (E rfl)) rfl ?_
  refine lo (lop_extract (E rfl) rfl) rfl ?_
  refine lo (lop_extract (E rfl) rfl) rfl ?_
  refine lo (lop_assign (E rfl)) rfl ?_
  refine lo (lop_assign (E rfl)) rfl ?_
  refine leT ?_
  (refine ctlT ?_)
  refine rgT ?_
  refine lo (lop_move (E rfl)) rfl ?_
  refine lo (lop_neq (E rfl) (E rfl)) rfl ?_
  refine leT ?_
  (refine ctlT ?_)
  refine sw_cond rfl (fun h => ?_) (fun h => ?_)
  · have h1 : (lenB l 5).2 ≠ 0 := by simpa using h
    (refine ctlT ?_)
    refine rgT ?_
    refine lo (lop_move (E rfl)) rfl ?_
    refine lo (lop_assign (E rfl)) rfl ?_
    refine lo (lop_assign (E rfl)) rfl ?_
    refine lo (lop_assign (E rfl)) rfl ?_
    refine leT ?_
    (refine ctlT ?_)
    (apply aend; (exact resT))
    · unfold getU
      rw [if_pos h1]
      exact ⟨rfl, rfl⟩
    · (exact stleT)
  have hk0 : (lenB l 5).2 = 0 := by simpa using h
  obtain ⟨hk1, hk2, hk3⟩ := lenB_ok l 5 hk0
  generalize hk : (lenB l 5).1 = k at *
  (refine ctlT ?_)
  refine rgT ?_
  refine lo (lop_assign (E rfl)) rfl ?_
  refine lo (lop_assign (E rfl)) rfl ?_
  refine leT ?_
  (refine ctlT ?_)
  refine rgT ?_
  refine lo (lop_move (E rfl)) rfl ?_
  refine z19 ?_
  refine lo (lop_assign (E rfl)) rfl ?_
  refine leT ?_
  (refine ctlT ?_)
  refine lp (β := Nat) (fun b => ⟨[(0, .ro 1 (l.map encU) .any), (1, .int .i64 32), (7, .int .i64 k), (9, .int .u64 (valU ((l.take k).drop b) : Nat)), (10, .bool false), (11, .int .i64 ((b : Int) - 1))], []⟩) (fun b => b ≤ k) (fun b => b) k (by rw [show (l.take k).drop k = [] by rw [List.drop_eq_nil_iff]; simp; omega]; (exact sgoT)) (Nat.le_refl _) ?_
  intro n hn
  try dsimp only at hn ⊢
  (refine ctlT ?_)
  refine rgT ?_
  refine lo (lop_move (E rfl)) rfl ?_
  refine lo (lop_geq (E rfl) (E rfl)) rfl ?_
  refine leT ?_
  (refine ctlT ?_)
  refine sw_cond rfl (fun h => ?_) (fun h => ?_)
  · obtain ⟨c, rfl⟩ : ∃ c, n = c + 1 := ⟨n - 1, by simp at h; omega⟩
    rw [show ((c + 1 : Nat) : Int) - 1 = (c : Nat) by omega]
    have hx5 := valU_lt5 (l := l) (c := c + 1) hk2
    (refine ctlT ?_)
    refine rgT ?_
    refine lo (lop_move (E rfl)) rfl ?_
    refine lo (lop_move (E rfl)) rfl ?_
    refine z4 ?_
    refine z34 ?_
    refine z13 ?_
    refine lo (lop_assign (E rfl)) rfl ?_
    refine leT ?_
    (refine ctlT ?_)
    rw [show decide (144115188075855872 ≤ ((valU ((l.take k).drop (c + 1)) : Nat) : Int)) = false from decide_eq_false (by omega)]
    refine rgT ?_
    refine lo (lop_move (E rfl)) rfl ?_
    refine lo (lop_mul (E rfl) (E rfl)) rfl ?_
    refine lo (lop_move (E rfl)) rfl ?_
    refine lo (lop_move (E rfl)) rfl ?_
    refine z15 ?_
    refine z16 ?_
    refine z22 ?_
    refine z24 ?_
    refine lo (lop_add (E rfl) (E rfl)) rfl ?_
    refine lo (lop_assign (E rfl)) rfl ?_
    refine leT ?_
    (refine ctlT ?_)
    rw [Int.toNat_natCast, mulrem hx5]
    refine rgT ?_
    refine lo (lop_move (E rfl)) rfl ?_
    refine z19 ?_
    refine lo (lop_assign (E rfl)) rfl ?_
    refine leT ?_
    (refine ctlT ?_)
    refine ⟨c, by omega, by omega, ?_⟩
    rw [take_step (c := c) (by omega) hk3, valU]
    (exact sgoT)
  obtain rfl : n = 0 := by simp at h; omega
  rw [List.drop_zero]
  have hv : valU (l.take k) < 34359738368 := valU_lt5 (c := 0) hk2
  generalize hx : valU (l.take k) = x at hv ⊢
  (refine ctlT ?_)
  refine rgD [(0, true), (1, true), (2, true), (3, true), (4, true), (5, true), (6, true), (7, true), (8, true), (9, true), (10, true), (11, true), (12, true), (13, true), (16, true), (17, true), (18, true), (19, true), (14, false), (15, true), (20, true), (21, true)] ?_
  refine dlo rfl (lop_move (E rfl)) rfl ?_
  refine dlo rfl (lop_move (E rfl)) rfl ?_
  refine z26 ?_
  refine z27 ?_
  refine z28 ?_
  refine z29 ?_
  refine z29 ?_
  refine z35 ?_
  refine z36 ?_
  refine z37 ?_
  refine z32 ?_
  refine z33 ?_
  refine dlo rfl (lop_move (E rfl)) rfl ?_
  have h32 : IntKind.u64.wrap (1 * 2 ^ min (Int.toNat 32) IntKind.u64.bits) = 4294967296 := by decide
  rw [h32]
  rcases Nat.lt_or_ge x 4294967296 with h2 | h2
  · rw [show decide ((4294967296 : Int) ≤ x) = false from decide_eq_false (by omega)]
    refine z38 ?_
    refine z38 ?_
    refine z38 ?_
    refine z39 ?_
    rw [show List.take (k - 0) (List.drop 0 (l.map encU)) = (l.take k).map encU by rw [Nat.sub_zero, List.drop_zero, List.map_take]]
    refine dly rfl rfl rfl (lop_bytes_ro (e := 5) (bs := l.take k) (E rfl)) rfl ?_
    refine dcwy [] rfl rfl rfl Try.call48 (ref_U x (by omega)) rfl ?_ ?_ ?_ ?_
    · (exact argsleT)
    · (exact stleT)
    · (exact hbtT)
    rintro _ σ' ⟨r, rfl, rfl⟩ hr
    replace hr := cnewT hr; (repeat (rcases hr with ⟨_, hr⟩))
    (apply rd_sto; (exact nflT))
    refine dly rfl rfl rfl (lop_bytes_own (e := 5) (bs := uB x) (bs' := uB x) (E rfl) sgT (by omega) (by rw [List.drop_zero]; exact List.take_of_length_le (by omega))) rfl ?_
    refine z40 ?_
    refine z41 ?_
    refine deT ?_
    (refine ctlT ?_)
    rw [strU_inj (uB_lt x) (fun y hy => hlt y (List.mem_of_mem_take hy))]
    refine sw_cond rfl (fun h => ?_) (fun h => ?_)
    · have h1 : ¬ (uB x = l.take k ∧ x < 4294967296) := by
        rintro ⟨h1, h2⟩
        simp [h1] at h
      (refine ctlT ?_)
      refine rgT ?_
      refine lo (lop_assign (E rfl)) rfl ?_
      refine lo (lop_assign (E rfl)) rfl ?_
      refine lo (lop_assign (E rfl)) rfl ?_
      refine leT ?_
      (refine ctlT ?_)
      (apply aend; (exact resT))
      · unfold getU
        rw [if_neg (by rw [hk0]; simp), hk, hx, if_neg h1]
        exact ⟨rfl, rfl⟩
      · (exact stleT)
    · have h1 : uB x = l.take k ∧ x < 4294967296 := ⟨by simpa using h, h2⟩
      (refine ctlT ?_)
      refine rgT ?_
      refine lo (lop_move (E rfl)) rfl ?_
      refine lo (lop_move (E rfl)) rfl ?_
      refine lo (lop_assign (E rfl)) rfl ?_
      refine lo (lop_assign (E rfl)) rfl ?_
      refine lo (lop_assign (E rfl)) rfl ?_
      refine leT ?_
      (refine ctlT ?_)
      (apply aend; (exact resT))
      · unfold getU
        rw [if_neg (by rw [hk0]; simp), hk, hx, if_pos h1]
        exact ⟨rfl, rfl⟩
      · (exact stleT)
  · rw [show decide ((4294967296 : Int) ≤ x) = true from decide_eq_true (by omega)]
    have h1 : ¬ (uB x = l.take k ∧ x < 4294967296) := by omega
    refine z26 ?_
    refine z26 ?_
    refine z26 ?_
    refine z42 ?_
    refine dln rfl rfl rfl rfl rfl ?_
    refine rd_heavy_no rfl rfl rfl rfl rfl ?_
    refine dln rfl rfl rfl rfl rfl ?_
    refine z43 ?_
    refine z33 ?_
    refine deT ?_
    (refine ctlT ?_)
    refine rgT ?_
    refine lo (lop_assign (E rfl)) rfl ?_
    refine lo (lop_assign (E rfl)) rfl ?_
    refine lo (lop_assign (E rfl)) rfl ?_
    refine leT ?_
    (refine ctlT ?_)
    (apply aend; (exact resT))
    · unfold getU
      rw [if_neg (by rw [hk0]; simp), hk, hx, if_neg h1]
      exact ⟨rfl, rfl⟩
    · (exact stleT)
end Go.Proofs.Ytkjfflabapeidaa
