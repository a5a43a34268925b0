/-
  Package leb, and what the document says of it: each function appends, or reads, what LebP says.
-/
import Derived.Test.YtkjfflabapeidaaLebP
import Derived.Test.YtkjfflabapeidaaTy
namespace Go.Proofs.Ytkjfflabapeidaa
open Go.RowKit Go.ChangeShapes Go.WideShapes Go.ChangeAt Go.Deep
set_option linter.unusedSimpArgs false
set_option linter.unusedVariables false
attribute [local irreducible] SW RS RD AThen ABlock

theorem snoc_encU {l : List Nat} {x : Nat} : l.map encU ++ [[.int .u8 x]] = (l ++ [x]).map encU := by simp [encU]
theorem u8_nat {x : Nat} (h : x < 256) : (BitVec.ofInt IntKind.u8.bits (x : Int)).toNat = x := by
  rw [BitVec.toNat_ofInt]; simp [IntKind.bits]; omega
set_option maxRecDepth 100000 in
theorem u8_or128 {x : Nat} (h : x < 256) : IntKind.u8.wrap ↑(BitVec.ofInt IntKind.u8.bits (x : Int) ||| BitVec.ofInt IntKind.u8.bits 128).toNat = ((x % 128 + 128 : Nat) : Int) := by
  have h1 : ∀ x < 256, x ||| 128 = x % 128 + 128 := by decide
  rw [BitVec.toNat_or, u8_nat h, show (BitVec.ofInt IntKind.u8.bits 128).toNat = 128 by decide, h1 x h, IntKind.wrap_u8]
  omega
theorem shr7 {m : Nat} : (m : Int).fdiv (2 ^ min (Int.toNat 7) IntKind.u64.bits) = ((m / 128 : Nat) : Int) := by
  have : (2 : Int) ^ min (Int.toNat 7) IntKind.u64.bits = 128 := by decide
  rw [this, Int.fdiv_eq_ediv_of_nonneg _ (by omega)]
  omega
theorem u8_wrapn (m : Nat) : IntKind.u8.wrap (m : Int) = ((m % 256 : Nat) : Int) := by rw [IntKind.wrap_u8]; omega
theorem or_step (m : Nat) : IntKind.u8.wrap ↑(BitVec.ofInt IntKind.u8.bits (IntKind.u8.wrap (m : Int)) ||| BitVec.ofInt IntKind.u8.bits 128).toNat = ((m % 128 + 128 : Nat) : Int) := by
  rw [u8_wrapn m, u8_or128 (by omega)]
  omega
theorem uB_len10 {n : Nat} (h : n < 18446744073709551616) : (uB n).length ≤ 10 := uB_len 9 n (by omega)
set_option maxRecDepth 100000 in
theorem leb_putU (q : Nat) (vs : List Nat) (hb : vs.length ≤ 1000000) (n : Nat) (hn : n < 18446744073709551616) : SCall Try.prog 46 [.own q 0 vs.length, .int .u64 n] [(q, .arr 5 1 (vs.map encU))]
    (fun x σ => ∃ r, x = .own r 0 (vs ++ uB n).length ∧ σ = [(r, .arr 5 1 ((vs ++ uB n).map encU))]) := by
  have hL := uB_len10 hn
  refine scall_of (n := 20) (ks := [0, 1, 4, 6]) Try.func46 rfl rfl (Nat.le_of_ble_eq_true rfl) ?_
  (refine ctlT ?_)
  refine rgT ?_
  refine lo (lop_assign (E rfl)) rfl ?_
  refine leT ?_
  (refine ctlT ?_)
  refine scj (β := Nat × List Nat × Nat) 0 rfl (fun b => ⟨[(0, .own b.1 0 b.2.1.length), (1, .int .u64 b.2.2)], [(b.1, .arr 5 1 (b.2.1.map encU))]⟩) (fun b => b.2.1 ++ uB b.2.2 = vs ++ uB n ∧ b.2.2 < 18446744073709551616) (fun b => b.2.2) ?_ (fun P => ?_)
  · rintro ⟨r, us, m⟩ ⟨he, hm⟩
    simp only at he hm ⊢
    have hcl : us.length + (uB m).length = vs.length + (uB n).length := by rw [← List.length_append, he, List.length_append]
    have hup := uB_pos m
    (refine ctlT ?_)
    refine rgT ?_
    refine lo (lop_move (E rfl)) rfl ?_
    refine lo (lop_lss (E rfl) (E rfl)) rfl ?_
    refine leT ?_
    (refine ctlT ?_)
    refine sw_cond rfl (fun h => ?_) (fun h => ?_)
    · have h1 : m < 128 := by simp at h; omega
      rw [uB_lo h1] at he
      (refine ctlT ?_)
      refine rgT ?_
      refine lo (lop_move (E rfl)) rfl ?_
      refine lo (lop_move (E rfl)) rfl ?_
      refine z0 ?_
      refine z1 ?_; refine freshT fun r10 h10 => ?_; (repeat (rcases h10 with ⟨_, h10⟩))
      apply ap (es' := (vs ++ uB n).map encU) (len' := (vs ++ uB n).length); rfl; rfl; (exact sgT)
      · simp
      · exact .inr (.inr ⟨_, _, _, _, _, rfl, sgT, by simp, rfl⟩)
      · rw [← he, ← snoc_encU]; rfl
      · rw [← he]; simp
      · simp [maxLen]; omega
      · simp; omega
      · rfl
      refine apnT fun r11 h11 => ?_; (repeat (rcases h11 with ⟨_, h11⟩))
      refine lo (lop_assign (E rfl)) rfl ?_
      refine leT ?_
      (refine ctlT ?_)
      (refine ctgT ?_)
      (apply aend; (exact resT))
      · exact ⟨r11, rfl, rfl⟩
      · (exact stleT)
    · have h1 : ¬ m < 128 := by simp at h; omega
      have hcl2 : us.length + (uB (m / 128)).length + 1 = vs.length + (uB n).length := by rw [uB_hi h1] at hcl; simp at hcl; omega
      rw [uB_hi h1] at he
      (refine ctlT ?_)
      refine rgT ?_
      refine lo (lop_move (E rfl)) rfl ?_
      refine lo (lop_move (E rfl)) rfl ?_
      refine z0 ?_
      refine lo (lop_or (E rfl) (E rfl)) rfl ?_
      refine z1 ?_; refine freshT fun r16 h16 => ?_; (repeat (rcases h16 with ⟨_, h16⟩))
      apply ap (es' := (us ++ [m % 128 + 128]).map encU) (len' := (us ++ [m % 128 + 128]).length); rfl; rfl; (exact sgT)
      · simp
      · exact .inr (.inr ⟨_, _, _, _, _, rfl, sgT, by simp, rfl⟩)
      · rw [← snoc_encU, or_step]; rfl
      · simp
      · simp [maxLen]; omega
      · simp; omega
      · rfl
      refine apnT fun r17 h17 => ?_; (repeat (rcases h17 with ⟨_, h17⟩))
      refine lo (lop_assign (E rfl)) rfl ?_
      refine leT ?_
      (refine ctlT ?_)
      refine rgT ?_
      refine lo (lop_move (E rfl)) rfl ?_
      refine z2 ?_
      refine lo (lop_assign (E rfl)) rfl ?_
      refine leT ?_
      (refine ctlT ?_)
      (refine ctgT ?_)
      rw [shr7]
      refine ⟨(r17, us ++ [m % 128 + 128], m / 128), ⟨?_, ?_⟩, ?_, ?_⟩
      · simpa using he
      · show m / 128 < _; omega
      · show m / 128 < m; omega
      · (exact sgoT)
  · refine P (q, vs, n) _ ⟨rfl, hn⟩ ?_
    (exact sgoT)
/-! ### signed -/
theorem u8_wrapi (n : Int) : IntKind.u8.wrap n = ((n % 256).toNat : Int) := by rw [IntKind.wrap_u8]; omega
set_option maxRecDepth 100000 in
theorem u8_andn128 {x : Nat} (h : x < 256) : IntKind.u8.wrap ↑(BitVec.ofInt IntKind.u8.bits (x : Int) &&& ~~~BitVec.ofInt IntKind.u8.bits 128).toNat = ((x % 128 : Nat) : Int) := by
  have h1 : ∀ x < 256, x &&& 127 = x % 128 := by decide
  rw [BitVec.toNat_and, u8_nat h, show (~~~BitVec.ofInt IntKind.u8.bits 128).toNat = 127 by decide, h1 x h, IntKind.wrap_u8]
  omega
set_option maxRecDepth 100000 in
theorem u8_and64 {x : Nat} (h : x < 128) : IntKind.u8.wrap ↑(BitVec.ofInt IntKind.u8.bits (x : Int) &&& BitVec.ofInt IntKind.u8.bits 64).toNat = if x < 64 then 0 else 64 := by
  have h1 : ∀ x < 128, x &&& 64 = if x < 64 then 0 else 64 := by decide
  rw [BitVec.toNat_and, u8_nat (by omega), show (BitVec.ofInt IntKind.u8.bits 64).toNat = 64 by decide, h1 x h, IntKind.wrap_u8]
  split <;> rfl
def cS (n : Int) : Nat := (n % 128).toNat
theorem cS_lt (n : Int) : cS n < 128 := by unfold cS; omega
theorem andn_step (n : Int) : IntKind.u8.wrap ↑(BitVec.ofInt IntKind.u8.bits (IntKind.u8.wrap n) &&& ~~~BitVec.ofInt IntKind.u8.bits 128).toNat = (cS n : Int) := by
  rw [u8_wrapi n, u8_andn128 (by omega)]
  unfold cS
  omega
theorem orS_step (n : Int) : IntKind.u8.wrap ↑(BitVec.ofInt IntKind.u8.bits (cS n : Int) ||| BitVec.ofInt IntKind.u8.bits 128).toNat = ((cS n + 128 : Nat) : Int) := by
  have := cS_lt n
  rw [u8_or128 (by omega)]
  omega
theorem shr7i {m : Int} : m.fdiv (2 ^ min (Int.toNat 7) IntKind.i64.bits) = m / 128 := by
  have : (2 : Int) ^ min (Int.toNat 7) IntKind.i64.bits = 128 := by decide
  rw [this, Int.fdiv_eq_ediv_of_nonneg _ (by omega)]
set_option maxRecDepth 100000 in
theorem leb_putS (q : Nat) (vs : List Nat) (hb : vs.length ≤ 1000000) (n : Int) (hn : -9223372036854775808 ≤ n ∧ n ≤ 9223372036854775807) : SCall Try.prog 47 [.own q 0 vs.length, .int .i64 n] [(q, .arr 5 1 (vs.map encU))]
    (fun x σ => ∃ r, x = .own r 0 (vs ++ sB n).length ∧ σ = [(r, .arr 5 1 ((vs ++ sB n).map encU))]) := by
  have hL : (sB n).length ≤ 10 := sB_len 9 n (by omega) (by omega)
  refine scall_of (n := 36) (ks := [0, 1, 4, 5, 26]) Try.func47 rfl rfl (Nat.le_of_ble_eq_true rfl) ?_
  (refine ctlT ?_)
  refine rgT ?_
  refine lo (lop_assign (E rfl)) rfl ?_
  refine leT ?_
  (refine ctlT ?_)
  refine scj (β := Nat × List Nat × Int) 0 rfl (fun b => ⟨[(0, .own b.1 0 b.2.1.length), (1, .int .i64 b.2.2)], [(b.1, .arr 5 1 (b.2.1.map encU))]⟩) (fun b => b.2.1 ++ sB b.2.2 = vs ++ sB n ∧ -9223372036854775808 ≤ b.2.2 ∧ b.2.2 ≤ 9223372036854775807) (fun b => b.2.2.natAbs) ?_ (fun P => ?_)
  · rintro ⟨r, us, m⟩ ⟨he, hm, hm2⟩
    simp only at he hm hm2 ⊢
    have hcl : us.length + (sB m).length = vs.length + (sB n).length := by rw [← List.length_append, he, List.length_append]
    have hup := sB_pos m
    have hc7 := cS_lt m
    (refine ctlT ?_)
    refine rgT ?_
    refine lo (lop_move (E rfl)) rfl ?_
    refine z0 ?_
    refine z3 ?_
    refine lo (lop_assign (E rfl)) rfl ?_
    refine leT ?_
    (refine ctlT ?_)
    rw [andn_step]
    refine rgT ?_
    refine lo (lop_move (E rfl)) rfl ?_
    refine z2 ?_
    refine lo (lop_assign (E rfl)) rfl ?_
    refine leT ?_
    (refine ctlT ?_)
    rw [shr7i]
    refine rgT ?_
    refine lo (lop_move (E rfl)) rfl ?_
    refine lo (lop_eql (E rfl) (E rfl)) rfl ?_
    refine lo (lop_move (E rfl)) rfl ?_
    refine z4 ?_
    refine z5 ?_
    refine z6 ?_
    refine z7 ?_
    refine lo (lop_move (E rfl)) rfl ?_
    refine z4 ?_
    refine z6 ?_
    refine z8 ?_
    refine z9 ?_
    refine z10 ?_
    refine z11 ?_
    refine z12 ?_
    refine z13 ?_
    refine leT ?_
    (refine ctlT ?_)
    rw [u8_and64 hc7]
    have hb64 : (-64 ≤ m ∧ m ≤ 63) ↔ (m / 128 = 0 ∧ cS m < 64 ∨ m / 128 = -1 ∧ ¬ cS m < 64) := by unfold cS; omega
    refine sw_cond rfl (fun h => ?_) (fun h => ?_)
    · have h1 : -64 ≤ m ∧ m ≤ 63 := by
        rw [hb64]
        by_cases h6 : cS m < 64 <;> simp [h6] at h ⊢ <;> omega
      rw [sB_lo h1] at he
      (refine ctlT ?_)
      refine rgT ?_
      refine lo (lop_move (E rfl)) rfl ?_
      refine lo (lop_move (E rfl)) rfl ?_
      refine z1 ?_; refine freshT fun r29 h29 => ?_; (repeat (rcases h29 with ⟨_, h29⟩))
      apply ap (es' := (vs ++ sB n).map encU) (len' := (vs ++ sB n).length); rfl; rfl; (exact sgT)
      · simp
      · exact .inr (.inr ⟨_, _, _, _, _, rfl, sgT, by simp, rfl⟩)
      · rw [← he, ← snoc_encU]; rfl
      · rw [← he]; simp
      · simp [maxLen]; omega
      · simp; omega
      · rfl
      refine apnT fun r30 h30 => ?_; (repeat (rcases h30 with ⟨_, h30⟩))
      refine lo (lop_assign (E rfl)) rfl ?_
      refine leT ?_
      (refine ctlT ?_)
      (refine ctgT ?_)
      (apply aend; (exact resT))
      · exact ⟨r30, rfl, rfl⟩
      · (exact stleT)
    · have h1 : ¬ (-64 ≤ m ∧ m ≤ 63) := by
        rw [hb64]
        by_cases h6 : cS m < 64 <;> simp [h6] at h ⊢ <;> omega
      have hcl2 : us.length + (sB (m / 128)).length + 1 = vs.length + (sB n).length := by rw [sB_hi h1] at hcl; simp at hcl; omega
      rw [sB_hi h1] at he
      (refine ctlT ?_)
      refine rgT ?_
      refine lo (lop_move (E rfl)) rfl ?_
      refine lo (lop_move (E rfl)) rfl ?_
      refine lo (lop_or (E rfl) (E rfl)) rfl ?_
      refine z1 ?_; refine freshT fun r34 h34 => ?_; (repeat (rcases h34 with ⟨_, h34⟩))
      apply ap (es' := (us ++ [cS m + 128]).map encU) (len' := (us ++ [cS m + 128]).length); rfl; rfl; (exact sgT)
      · simp
      · exact .inr (.inr ⟨_, _, _, _, _, rfl, sgT, by simp, rfl⟩)
      · rw [← snoc_encU, orS_step]; rfl
      · simp
      · simp [maxLen]; omega
      · simp; omega
      · rfl
      refine apnT fun r35 h35 => ?_; (repeat (rcases h35 with ⟨_, h35⟩))
      refine lo (lop_assign (E rfl)) rfl ?_
      refine leT ?_
      (refine ctlT ?_)
      (refine ctgT ?_)
      refine ⟨(r35, us ++ [cS m + 128], m / 128), ⟨?_, ?_⟩, ?_, ?_⟩
      · simpa [cS] using he
      · show _ ≤ m / 128 ∧ m / 128 ≤ _; omega
      · show (m / 128).natAbs < m.natAbs; omega
      · (exact sgoT)
  · refine P (q, vs, n) _ ⟨rfl, hn⟩ ?_
    (exact sgoT)
end Go.Proofs.Ytkjfflabapeidaa
