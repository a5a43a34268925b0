/-
  Numbers as bytes in the document's words.
-/
import Derived.Test.YtkjfflabapeidaaLebB
namespace Go.Proofs.Ytkjfflabapeidaa
open Go.RowKit Go.ChangeShapes Go.WideShapes Go.ChangeAt Go.Deep
set_option linter.unusedSimpArgs false
set_option linter.unusedVariables false
attribute [local irreducible] SW RS RD AThen ABlock

theorem u64_nat {n : Nat} (hn : n < 18446744073709551616) : IntKind.u64.wrap (n : Int) = n := by rw [IntKind.wrap_u64]; omega
theorem remU_step (m : Nat) : IntKind.u8.wrap (IntKind.u8.wrap ((m : Int).tmod 128) + 128) = ((m % 128 + 128 : Nat) : Int) := by
  rw [Int.tmod_eq_emod_of_nonneg (by omega), IntKind.wrap_u8, IntKind.wrap_u8]; omega
theorem quoU_step {m : Nat} (hm : m < 18446744073709551616) : IntKind.u64.wrap ((m : Int).tdiv 128) = ((m / 128 : Nat) : Int) := by
  rw [Int.tdiv_eq_ediv_of_nonneg (by omega), IntKind.wrap_u64]; omega
theorem and127 (m : Int) : IntKind.i64.wrap ↑(BitVec.ofInt IntKind.i64.bits m &&& BitVec.ofInt IntKind.i64.bits 127).toNat = (cS m : Int) := by
  have h1 : (BitVec.ofInt IntKind.i64.bits m).toNat = (m % 18446744073709551616).toNat := by
    rw [BitVec.toNat_ofInt]; simp [IntKind.bits]
  rw [BitVec.toNat_and, h1, show (BitVec.ofInt IntKind.i64.bits 127).toNat = 2 ^ 7 - 1 by decide, Nat.and_two_pow_sub_one_eq_mod, IntKind.wrap_i64]
  unfold cS
  omega
theorem u8_cS (m : Int) : IntKind.u8.wrap (cS m : Int) = cS m := by
  have := cS_lt m
  rw [IntKind.wrap_u8]; omega
theorem u8_cS128 (m : Int) : IntKind.u8.wrap ((cS m : Int) + 128) = ((cS m + 128 : Nat) : Int) := by
  have := cS_lt m
  rw [IntKind.wrap_u8]; omega
set_option maxRecDepth 100000 in
theorem ref_U (n : Nat) (hn : n < 18446744073709551616) : SCall Try.prog 48 [.int .u64 n] []
    (fun x σ => ∃ r, x = .own r 0 (uB n).length ∧ σ = [(r, .arr 5 1 ((uB n).map encU))]) := by
  have hL := uB_len10 hn
  refine scall_of (n := 20) (ks := [0, 2, 3, 5]) Try.func48 rfl rfl (Nat.le_of_ble_eq_true rfl) ?_
  (refine ctlT ?_)
  refine rgT ?_
  refine lo (lop_assign (E rfl)) rfl ?_
  refine leT ?_
  (refine ctlT ?_)
  refine rgT ?_
  refine lo (lop_assign (E rfl)) rfl ?_
  refine leT ?_
  refine an ?_
  refine sw_virt 3 5 1 (by decide) (k := .nil) rfl (by decide) (fun q hq => ?_)
  (refine ctlT ?_)
  refine lp (β := Nat × List Nat × Nat) (fun b => ⟨[(3, .own b.1 0 b.2.1.length), (0, .int .u64 b.2.2)], [(b.1, .arr 5 1 (b.2.1.map encU))]⟩) (fun b => b.2.1 ++ uB b.2.2 = uB n ∧ b.2.2 < 18446744073709551616) (fun b => b.2.2) (q, [], n) (by (exact sgoT)) ⟨rfl, hn⟩ ?_
  rintro ⟨r, us, m⟩ ⟨he, hm⟩
  simp only at he hm ⊢
  have hcl : us.length + (uB m).length = (uB n).length := by rw [← List.length_append, he]
  have hup := uB_pos m
  (refine ctlT ?_)
  refine rgT ?_
  refine lo (lop_move (E rfl)) rfl ?_
  refine lo (lop_geq (E rfl) (E rfl)) rfl ?_
  refine leT ?_
  (refine ctlT ?_)
  refine sw_cond rfl (fun h => ?_) (fun h => ?_)
  · have h1 : ¬ m < 128 := by simp at h; omega
    have hcl2 : us.length + (uB (m / 128)).length + 1 = (uB n).length := by rw [uB_hi h1] at hcl; simp at hcl; omega
    rw [uB_hi h1] at he
    (refine ctlT ?_)
    refine rgT ?_
    refine lo (lop_move (E rfl)) rfl ?_
    refine lo (lop_move (E rfl)) rfl ?_
    refine z22 ?_
    refine z0 ?_
    refine lo (lop_add (E rfl) (E rfl)) rfl ?_
    refine z1 ?_; refine freshT fun r11 h11 => ?_; (repeat (rcases h11 with ⟨_, h11⟩))
    apply ap (es' := (us ++ [m % 128 + 128]).map encU) (len' := (us ++ [m % 128 + 128]).length); rfl; rfl; (exact sgT)
    · simp
    · exact .inr (.inr ⟨_, _, _, _, _, rfl, sgT, by simp, rfl⟩)
    · rw [← snoc_encU, remU_step]; rfl
    · simp
    · simp [maxLen]; omega
    · simp; omega
    · rfl
    refine apnT fun r12 h12 => ?_; (repeat (rcases h12 with ⟨_, h12⟩))
    refine lo (lop_assign (E rfl)) rfl ?_
    refine leT ?_
    (refine ctlT ?_)
    refine rgT ?_
    refine lo (lop_move (E rfl)) rfl ?_
    refine z20 ?_
    refine lo (lop_assign (E rfl)) rfl ?_
    refine leT ?_
    (refine ctlT ?_)
    refine ⟨(r12, us ++ [m % 128 + 128], m / 128), ⟨?_, ?_⟩, ?_, ?_⟩
    · simpa using he
    · show m / 128 < _; omega
    · show m / 128 < m; omega
    · rw [quoU_step hm]; (exact sgoT)
  · have h1 : m < 128 := by simp at h; omega
    rw [uB_lo h1] at he
    (refine ctlT ?_)
    refine rgT ?_
    refine lo (lop_move (E rfl)) rfl ?_
    refine lo (lop_move (E rfl)) rfl ?_
    refine z0 ?_
    refine z1 ?_; refine freshT fun r18 h18 => ?_; (repeat (rcases h18 with ⟨_, h18⟩))
    apply ap (es' := (uB n).map encU) (len' := (uB n).length); rfl; rfl; (exact sgT)
    · simp
    · exact .inr (.inr ⟨_, _, _, _, _, rfl, sgT, by simp, rfl⟩)
    · rw [← he, ← snoc_encU]; rfl
    · rw [← he]; simp
    · simp [maxLen]; omega
    · simp; omega
    · rfl
    refine apnT fun r19 h19 => ?_; (repeat (rcases h19 with ⟨_, h19⟩))
    refine lo (lop_assign (E rfl)) rfl ?_
    refine leT ?_
    (refine ctlT ?_)
    (apply aend; (exact resT))
    · exact ⟨r19, rfl, rfl⟩
    · (exact stleT)
set_option maxRecDepth 100000 in
theorem ref_S (n : Int) (hn : -9223372036854775808 ≤ n ∧ n ≤ 9223372036854775807) : SCall Try.prog 49 [.int .i64 n] []
    (fun x σ => ∃ r, x = .own r 0 (sB n).length ∧ σ = [(r, .arr 5 1 ((sB n).map encU))]) := by
  have hL : (sB n).length ≤ 10 := sB_len 9 n (by omega) (by omega)
  refine scall_of (n := 25) (ks := [0, 2, 3, 9]) Try.func49 rfl rfl (Nat.le_of_ble_eq_true rfl) ?_
  (refine ctlT ?_)
  refine rgT ?_
  refine lo (lop_assign (E rfl)) rfl ?_
  refine leT ?_
  (refine ctlT ?_)
  refine rgT ?_
  refine lo (lop_assign (E rfl)) rfl ?_
  refine leT ?_
  refine an ?_
  refine sw_virt 3 5 1 (by decide) (k := .nil) rfl (by decide) (fun q hq => ?_)
  (refine ctlT ?_)
  refine lp (β := Nat × List Nat × Int) (fun b => ⟨[(3, .own b.1 0 b.2.1.length), (0, .int .i64 b.2.2)], [(b.1, .arr 5 1 (b.2.1.map encU))]⟩) (fun b => b.2.1 ++ sB b.2.2 = sB n ∧ -9223372036854775808 ≤ b.2.2 ∧ b.2.2 ≤ 9223372036854775807) (fun b => b.2.2.natAbs) (q, [], n) (by (exact sgoT)) ⟨rfl, hn⟩ ?_
  rintro ⟨r, us, m⟩ ⟨he, hm, hm2⟩
  simp only at he hm hm2 ⊢
  have hcl : us.length + (sB m).length = (sB n).length := by rw [← List.length_append, he]
  have hup := sB_pos m
  (refine ctlT ?_)
  refine rgT ?_
  refine lo (lop_move (E rfl)) rfl ?_
  refine lo (lop_lss (E rfl) (E rfl)) rfl ?_
  refine lo (lop_move (E rfl)) rfl ?_
  refine z4 ?_
  refine z18 ?_
  refine z13 ?_
  refine leT ?_
  (refine ctlT ?_)
  refine sw_cond rfl (fun h => ?_) (fun h => ?_)
  · have h1 : ¬ (-64 ≤ m ∧ m ≤ 63) := by simp at h; omega
    have hcl2 : us.length + (sB (m / 128)).length + 1 = (sB n).length := by rw [sB_hi h1] at hcl; simp at hcl; omega
    rw [sB_hi h1] at he
    (refine ctlT ?_)
    refine rgT ?_
    refine lo (lop_move (E rfl)) rfl ?_
    refine lo (lop_move (E rfl)) rfl ?_
    refine lo (lop_and (E rfl) (E rfl)) rfl ?_
    refine z0 ?_
    refine lo (lop_add (E rfl) (E rfl)) rfl ?_
    refine z1 ?_; refine freshT fun r15 h15 => ?_; (repeat (rcases h15 with ⟨_, h15⟩))
    apply ap (es' := (us ++ [cS m + 128]).map encU) (len' := (us ++ [cS m + 128]).length); rfl; rfl; (exact sgT)
    · simp
    · exact .inr (.inr ⟨_, _, _, _, _, rfl, sgT, by simp, rfl⟩)
    · rw [← snoc_encU, and127, u8_cS, u8_cS128]; rfl
    · simp
    · simp [maxLen]; omega
    · simp; omega
    · rfl
    refine apnT fun r16 h16 => ?_; (repeat (rcases h16 with ⟨_, h16⟩))
    refine lo (lop_assign (E rfl)) rfl ?_
    refine leT ?_
    (refine ctlT ?_)
    refine rgT ?_
    refine lo (lop_move (E rfl)) rfl ?_
    refine z2 ?_
    refine lo (lop_assign (E rfl)) rfl ?_
    refine leT ?_
    (refine ctlT ?_)
    refine ⟨(r16, us ++ [cS m + 128], m / 128), ⟨?_, ?_⟩, ?_, ?_⟩
    · simpa [cS] using he
    · show _ ≤ m / 128 ∧ m / 128 ≤ _; omega
    · show (m / 128).natAbs < m.natAbs; omega
    · rw [shr7i]; (exact sgoT)
  · have h1 : -64 ≤ m ∧ m ≤ 63 := by simp at h; omega
    rw [sB_lo h1] at he
    (refine ctlT ?_)
    refine rgT ?_
    refine lo (lop_move (E rfl)) rfl ?_
    refine lo (lop_move (E rfl)) rfl ?_
    refine lo (lop_and (E rfl) (E rfl)) rfl ?_
    refine z0 ?_
    refine z1 ?_; refine freshT fun r23 h23 => ?_; (repeat (rcases h23 with ⟨_, h23⟩))
    apply ap (es' := (sB n).map encU) (len' := (sB n).length); rfl; rfl; (exact sgT)
    · simp
    · exact .inr (.inr ⟨_, _, _, _, _, rfl, sgT, by simp, rfl⟩)
    · rw [← he, ← snoc_encU, and127, u8_cS]; rfl
    · rw [← he]; simp
    · simp [maxLen]; omega
    · simp; omega
    · rfl
    refine apnT fun r24 h24 => ?_; (repeat (rcases h24 with ⟨_, h24⟩))
    refine lo (lop_assign (E rfl)) rfl ?_
    refine leT ?_
    (refine ctlT ?_)
    (apply aend; (exact resT))
    · exact ⟨r24, rfl, rfl⟩
    · (exact stleT)
end Go.Proofs.Ytkjfflabapeidaa
