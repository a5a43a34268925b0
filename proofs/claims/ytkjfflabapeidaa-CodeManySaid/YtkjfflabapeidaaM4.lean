import Derived.Test.YtkjfflabapeidaaM3
import Derived.Test.YtkjfflabapeidaaTy
/-
  Plain: numbers as bytes, and back.
-/
namespace Go.Proofs.Ytkjfflabapeidaa
open Go.RowKit Go.ChangeShapes Go.WideShapes Go.ChangeAt Go.Deep
set_option linter.unusedSimpArgs false
set_option linter.unusedVariables false

def uB (n : Nat) : List Nat := if h : n < 128 then [n] else (n % 128 + 128) :: uB (n / 128)
termination_by n
decreasing_by omega
theorem uB_lo {n : Nat} (h : n < 128) : uB n = [n] := by rw [uB, dif_pos h]
theorem uB_hi {n : Nat} (h : ¬ n < 128) : uB n = (n % 128 + 128) :: uB (n / 128) := by rw [uB, dif_neg h]
theorem uB_lt (n : Nat) : ∀ x ∈ uB n, x < 256 := by
  induction n using Nat.strongRecOn with
  | _ n ih =>
    by_cases h : n < 128
    · rw [uB_lo h]; simp; omega
    · rw [uB_hi h]
      intro x hx
      rcases List.mem_cons.1 hx with rfl | hx
      · omega
      · exact ih (n / 128) (by omega) x hx
theorem uB_pos (n : Nat) : 1 ≤ (uB n).length := by
  by_cases h : n < 128
  · rw [uB_lo h]; simp
  · rw [uB_hi h]; simp
theorem uB_len : ∀ (k n : Nat), n < 128 ^ (k + 1) → (uB n).length ≤ k + 1
  | 0, n, h => by rw [uB_lo (by simpa using h)]; simp
  | k + 1, n, h => by
    by_cases hn : n < 128
    · rw [uB_lo hn]; simp
    · rw [uB_hi hn, List.length_cons]
      have := uB_len k (n / 128) (by rw [Nat.pow_succ] at h; exact Nat.div_lt_of_lt_mul (by omega))
      omega
def valU : List Nat → Nat
  | [] => 0
  | b :: t => b % 128 + 128 * valU t
theorem valU_uB (n : Nat) : valU (uB n) = n := by
  induction n using Nat.strongRecOn with
  | _ n ih =>
    by_cases h : n < 128
    · rw [uB_lo h]; simp [valU]; omega
    · rw [uB_hi h, valU, ih (n / 128) (by omega)]; omega
theorem valU_lt : ∀ (l : List Nat), valU l < 128 ^ l.length
  | [] => by simp [valU]
  | b :: t => by
    have := valU_lt t
    rw [valU, List.length_cons, Nat.pow_succ]
    omega
/-- how many bytes a number has at the beginning; 1: no number, 2: more bytes are wanted -/
def lenB : List Nat → Nat → Nat × Int
  | _, 0 => (0, 1)
  | [], _ + 1 => (0, 2)
  | b :: t, m + 1 => if b < 128 then (1, 0) else (if (lenB t m).2 = 0 then ((lenB t m).1 + 1, 0) else lenB t m)
theorem lenB_ok : ∀ (bs : List Nat) (m : Nat), (lenB bs m).2 = 0 → 1 ≤ (lenB bs m).1 ∧ (lenB bs m).1 ≤ m ∧ (lenB bs m).1 ≤ bs.length
  | bs, 0, h => by cases bs <;> simp [lenB] at h
  | [], _ + 1, h => by simp [lenB] at h
  | b :: t, m + 1, h => by
    have ih := lenB_ok t m
    rw [lenB] at h ⊢
    by_cases hb : b < 128
    · rw [if_pos hb]; simp
    · rw [if_neg hb] at h ⊢
      by_cases h2 : (lenB t m).2 = 0
      · rw [if_pos h2]
        have := ih h2
        simp
        omega
      · rw [if_neg h2] at h; exact absurd h h2
theorem lenB_err : ∀ (bs : List Nat) (m : Nat), (lenB bs m).2 ≠ 0 → (lenB bs m).1 = 0 ∧ ((lenB bs m).2 = 1 ∨ (lenB bs m).2 = 2)
  | bs, 0, _ => by cases bs <;> simp [lenB]
  | [], _ + 1, _ => by simp [lenB]
  | b :: t, m + 1, h => by
    have ih := lenB_err t m
    rw [lenB] at h ⊢
    by_cases hb : b < 128
    · rw [if_pos hb] at h; simp at h
    · rw [if_neg hb] at h ⊢
      by_cases h2 : (lenB t m).2 = 0
      · rw [if_pos h2] at h; simp at h
      · rw [if_neg h2]; exact ih h2
theorem lenB_uB (rest : List Nat) : ∀ (m n : Nat), (uB n).length ≤ m → lenB (uB n ++ rest) m = ((uB n).length, 0)
  | 0, n, h => by have := uB_pos n; omega
  | m + 1, n, h => by
    by_cases hn : n < 128
    · rw [uB_lo hn]; simp [lenB, hn]
    · rw [uB_hi hn] at h ⊢
      rw [List.cons_append, lenB, if_neg (by omega), lenB_uB rest m (n / 128) (by simpa using h)]
      simp
/-- an unsigned number of 32 bits at the beginning -/
def getU (bs : List Nat) : Nat × Nat × Int :=
  if (lenB bs 5).2 ≠ 0 then (0, 0, (lenB bs 5).2)
  else if uB (valU (bs.take (lenB bs 5).1)) = bs.take (lenB bs 5).1 ∧ valU (bs.take (lenB bs 5).1) < 4294967296 then (valU (bs.take (lenB bs 5).1), (lenB bs 5).1, 0) else (0, 0, 1)
theorem getU_uB {n : Nat} (hn : n < 4294967296) (rest : List Nat) : getU (uB n ++ rest) = (n, (uB n).length, 0) := by
  have hl := uB_len 4 n (by omega)
  unfold getU
  rw [lenB_uB rest 5 n hl]
  simp only [ne_eq, not_true_eq_false, if_false]
  rw [List.take_left, valU_uB, if_pos ⟨rfl, hn⟩]
theorem getU_bd (bs : List Nat) : (getU bs).1 < 4294967296 ∧ (getU bs).2.1 ≤ bs.length ∧ (getU bs).2.1 ≤ 5 := by
  unfold getU
  split
  · simp
  · next h =>
    have := lenB_ok bs 5 (by simpa using h)
    split
    · next h2 => exact ⟨h2.2, this.2.2, this.2.1⟩
    · simp
def sB (n : Int) : List Nat := if h : -64 ≤ n ∧ n ≤ 63 then [(n % 128).toNat] else ((n % 128).toNat + 128) :: sB (n / 128)
termination_by n.natAbs
decreasing_by omega
theorem sB_lo {n : Int} (h : -64 ≤ n ∧ n ≤ 63) : sB n = [(n % 128).toNat] := by rw [sB, dif_pos h]
theorem sB_hi {n : Int} (h : ¬ (-64 ≤ n ∧ n ≤ 63)) : sB n = ((n % 128).toNat + 128) :: sB (n / 128) := by rw [sB, dif_neg h]
theorem sB_pos (n : Int) : 1 ≤ (sB n).length := by
  by_cases h : -64 ≤ n ∧ n ≤ 63
  · rw [sB_lo h]; simp
  · rw [sB_hi h]; simp
theorem sB_lt (m : Nat) : ∀ (n : Int), n.natAbs ≤ m → ∀ x ∈ sB n, x < 256 := by
  induction m with
  | zero => intro n hn; rw [sB_lo (by omega)]; simp; omega
  | succ m ih =>
    intro n hn
    by_cases h : -64 ≤ n ∧ n ≤ 63
    · rw [sB_lo h]; simp; omega
    · rw [sB_hi h]
      intro x hx
      rcases List.mem_cons.1 hx with rfl | hx
      · omega
      · exact ih (n / 128) (by omega) x hx
theorem sB_len : ∀ (k : Nat) (n : Int), -(64 * 128 ^ k : Nat) ≤ n → n < (64 * 128 ^ k : Nat) → (sB n).length ≤ k + 1
  | 0, n, h, h' => by rw [sB_lo (by simp at h h'; omega)]; simp
  | k + 1, n, h, h' => by
    by_cases hn : -64 ≤ n ∧ n ≤ 63
    · rw [sB_lo hn]; simp
    · rw [sB_hi hn, List.length_cons]
      have e : (64 * 128 ^ (k + 1) : Nat) = 128 * (64 * 128 ^ k) := by rw [Nat.pow_succ]; omega
      rw [e] at h h'
      have := sB_len k (n / 128) (by omega) (by omega)
      omega
theorem lenB_sB (rest : List Nat) : ∀ (m : Nat) (n : Int), (sB n).length ≤ m → lenB (sB n ++ rest) m = ((sB n).length, 0)
  | 0, n, h => by have := sB_pos n; omega
  | m + 1, n, h => by
    by_cases hn : -64 ≤ n ∧ n ≤ 63
    · rw [sB_lo hn]
      rw [List.cons_append, lenB, if_pos (by omega)]
      rfl
    · rw [sB_hi hn] at h ⊢
      rw [List.cons_append, lenB, if_neg (by omega), lenB_sB rest m (n / 128) (by simpa using h)]
      simp
/-- a signed number out of bytes, as 64 bits go round -/
def valS : List Nat → Int
  | [] => 0
  | [b] => if 64 ≤ b % 128 then ((b % 128 : Nat) : Int) - 128 else ((b % 128 : Nat) : Int)
  | b :: c :: t => IntKind.i64.wrap (valS (c :: t) * 128 + ((b % 128 : Nat) : Int))
theorem valS_cons (b : Nat) {t : List Nat} (h : 1 ≤ t.length) : valS (b :: t) = IntKind.i64.wrap (valS t * 128 + ((b % 128 : Nat) : Int)) := by
  cases t with
  | nil => simp at h
  | cons c t => rfl
theorem valS_sB (m : Nat) : ∀ (n : Int), n.natAbs ≤ m → -9223372036854775808 ≤ n → n ≤ 9223372036854775807 → valS (sB n) = n := by
  induction m with
  | zero => intro n hn _ _; rw [sB_lo (by omega)]; simp [valS]; omega
  | succ m ih =>
    intro n hn h1 h2
    by_cases h : -64 ≤ n ∧ n ≤ 63
    · rw [sB_lo h, valS]
      split <;> omega
    · rw [sB_hi h, valS_cons _ (sB_pos _), ih (n / 128) (by omega) (by omega) (by omega)]
      rw [IntKind.wrap_i64]
      omega
def mostS (bits : Nat) : Nat := (bits + 6) / 7
def getS (bits : Nat) (bs : List Nat) : Int × Nat × Int :=
  if (lenB bs (mostS bits)).2 ≠ 0 then (0, 0, (lenB bs (mostS bits)).2)
  else if sB (valS (bs.take (lenB bs (mostS bits)).1)) = bs.take (lenB bs (mostS bits)).1 ∧ (bits = 32 → -2147483648 ≤ valS (bs.take (lenB bs (mostS bits)).1) ∧ valS (bs.take (lenB bs (mostS bits)).1) ≤ 2147483647) then (valS (bs.take (lenB bs (mostS bits)).1), (lenB bs (mostS bits)).1, 0) else (0, 0, 1)
theorem getS_sB {bits : Nat} (hb : bits = 32 ∨ bits = 64) {n : Int} (h1 : -9223372036854775808 ≤ n) (h2 : n ≤ 9223372036854775807) (h3 : bits = 32 → -2147483648 ≤ n ∧ n ≤ 2147483647) (rest : List Nat) : getS bits (sB n ++ rest) = (n, (sB n).length, 0) := by
  have hl : (sB n).length ≤ mostS bits := by
    rcases hb with rfl | rfl
    · have := h3 rfl; exact sB_len 4 n (by omega) (by omega)
    · exact sB_len 9 n (by omega) (by omega)
  unfold getS
  rw [lenB_sB rest _ n hl]
  simp only [ne_eq, not_true_eq_false, if_false]
  rw [List.take_left, valS_sB n.natAbs n (Nat.le_refl _) h1 h2, if_pos ⟨rfl, h3⟩]
theorem getS_bd (bits : Nat) (bs : List Nat) : (getS bits bs).2.1 ≤ bs.length := by
  unfold getS
  split
  · simp
  · next h =>
    have := lenB_ok bs (mostS bits) (by simpa using h)
    split
    · exact this.2.2
    · simp
end Go.Proofs.Ytkjfflabapeidaa
/-
  Package leb, and what the document says of it: each function appends, or reads, what LebP says.
-/
namespace Go.Proofs.Ytkjfflabapeidaa
open Go.RowKit Go.ChangeShapes Go.WideShapes Go.ChangeAt Go.Deep
set_option linter.unusedSimpArgs false
set_option linter.unusedVariables false
attribute [local irreducible] SW RS RD AThen ABlock

theorem snoc_encU {l : List Nat} {x : Nat} : l.map encU ++ [[.int .u8 x]] = (l ++ [x]).map encU := by simp [encU]
theorem u8_nat {x : Nat} (h : x < 256) : (BitVec.ofInt IntKind.u8.bits (x : Int)).toNat = x := by
  rw [BitVec.toNat_ofInt]; simp [IntKind.bits]; omega
set_option maxRecDepth 100000 in
theorem u8_or128 {x : Nat} (h : x < 256) : IntKind.u8.wrap ↑(BitVec.ofInt IntKind.u8.bits (x : Int) ||| BitVec.ofInt IntKind.u8.bits 128).toNat = ((x % 128 + 128 : Nat) : Int) := by
  have h1 : ∀ x < 256, x ||| 128 = x % 128 + 128 := by decide
  rw [BitVec.toNat_or, u8_nat h, show (BitVec.ofInt IntKind.u8.bits 128).toNat = 128 by decide, h1 x h, IntKind.wrap_u8]
  omega
theorem shr7 {m : Nat} : (m : Int).fdiv (2 ^ min (Int.toNat 7) IntKind.u64.bits) = ((m / 128 : Nat) : Int) := by
  have : (2 : Int) ^ min (Int.toNat 7) IntKind.u64.bits = 128 := by decide
  rw [this, Int.fdiv_eq_ediv_of_nonneg _ (by omega)]
  omega
theorem u8_wrapn (m : Nat) : IntKind.u8.wrap (m : Int) = ((m % 256 : Nat) : Int) := by rw [IntKind.wrap_u8]; omega
theorem or_step (m : Nat) : IntKind.u8.wrap ↑(BitVec.ofInt IntKind.u8.bits (IntKind.u8.wrap (m : Int)) ||| BitVec.ofInt IntKind.u8.bits 128).toNat = ((m % 128 + 128 : Nat) : Int) := by
  rw [u8_wrapn m, u8_or128 (by omega)]
  omega
theorem uB_len10 {n : Nat} (h : n < 18446744073709551616) : (uB n).length ≤ 10 := uB_len 9 n (by omega)
set_option maxRecDepth 100000 in
theorem leb_putU (q : Nat) (vs : List Nat) (hb : vs.length ≤ 1000000) (n : Nat) (hn : n < 18446744073709551616) : SCall Try.prog 46 [.own q 0 vs.length, .int .u64 n] [(q, .arr 5 1 (vs.map encU))]
    (fun x σ => ∃ r, x = .own r 0 (vs ++ uB n).length ∧ σ = [(r, .arr 5 1 ((vs ++ uB n).map encU))]) := by
  have hL := uB_len10 hn
  refine scall_of (n := 20) (ks := [0, 1, 4, 6]) Try.func46 rfl rfl (Nat.le_of_ble_eq_true rfl) ?_
  (refine ctlT ?_)
  refine rgT ?_
  refine lo (lop_assign (E rfl)) rfl ?_
  refine leT ?_
  (refine ctlT ?_)
  refine scj (β := Nat × List Nat × Nat) 0 rfl (fun b => ⟨[(0, .own b.1 0 b.2.1.length), (1, .int .u64 b.2.2)], [(b.1, .arr 5 1 (b.2.1.map encU))]⟩) (fun b => b.2.1 ++ uB b.2.2 = vs ++ uB n ∧ b.2.2 < 18446744073709551616) (fun b => b.2.2) ?_ (fun P => ?_)
  · rintro ⟨r, us, m⟩ ⟨he, hm⟩
    simp only at he hm ⊢
    have hcl : us.length + (uB m).length = vs.length + (uB n).length := by rw [← List.length_append, he, List.length_append]
    have hup := uB_pos m
    (refine ctlT ?_)
    refine rgT ?_
    refine lo (lop_move (E rfl)) rfl ?_
    refine lo (lop_lss (E rfl) (E rfl)) rfl ?_
    refine leT ?_
    (refine ctlT ?_)
    refine sw_cond rfl (fun h => ?_) (fun h => ?_)
    · have h1 : m < 128 := by simp at h; omega
      rw [uB_lo h1] at he
      (refine ctlT ?_)
      refine rgT ?_
      refine lo (lop_move (E rfl)) rfl ?_
      refine lo (lop_move (E rfl)) rfl ?_
      refine z0 ?_
      refine z1 ?_; refine freshT fun r10 h10 => ?_; (repeat (rcases h10 with ⟨_, h10⟩))
      apply ap (es' := (vs ++ uB n).map encU) (len' := (vs ++ uB n).length); rfl; rfl; (exact sgT)
      · simp
      · exact .inr (.inr ⟨_, _, _, _, _, rfl, sgT, by simp, rfl⟩)
      · rw [← he, ← snoc_encU]; rfl
      · rw [← he]; simp
      · simp [maxLen]; omega
      · simp; omega
      · rfl
      refine apnT fun r11 h11 => ?_; (repeat (rcases h11 with ⟨_, h11⟩))
      refine lo (lop_assign (E rfl)) rfl ?_
      refine leT ?_
      (refine ctlT ?_)
      (refine ctgT ?_)
      (apply aend; (exact resT))
      · exact ⟨r11, rfl, rfl⟩
      · (exact stleT)
    · have h1 : ¬ m < 128 := by simp at h; omega
      have hcl2 : us.length + (uB (m / 128)).length + 1 = vs.length + (uB n).length := by rw [uB_hi h1] at hcl; simp at hcl; omega
      rw [uB_hi h1] at he
      (refine ctlT ?_)
      refine rgT ?_
      refine lo (lop_move (E rfl)) rfl ?_
      refine lo (lop_move (E rfl)) rfl ?_
      refine z0 ?_
      refine lo (lop_or (E rfl) (E rfl)) rfl ?_
      refine z1 ?_; refine freshT fun r16 h16 => ?_; (repeat (rcases h16 with ⟨_, h16⟩))
      apply ap (es' := (us ++ [m % 128 + 128]).map encU) (len' := (us ++ [m % 128 + 128]).length); rfl; rfl; (exact sgT)
      · simp
      · exact .inr (.inr ⟨_, _, _, _, _, rfl, sgT, by simp, rfl⟩)
      · rw [← snoc_encU, or_step]; rfl
      · simp
      · simp [maxLen]; omega
      · simp; omega
      · rfl
      refine apnT fun r17 h17 => ?_; (repeat (rcases h17 with ⟨_, h17⟩))
      refine lo (lop_assign (E rfl)) rfl ?_
      refine leT ?_
      (refine ctlT ?_)
      refine rgT ?_
      refine lo (lop_move (E rfl)) rfl ?_
      refine z2 ?_
      refine lo (lop_assign (E rfl)) rfl ?_
      refine leT ?_
      (refine ctlT ?_)
      (refine ctgT ?_)
      rw [shr7]
      refine ⟨(r17, us ++ [m % 128 + 128], m / 128), ⟨?_, ?_⟩, ?_, ?_⟩
      · simpa using he
      · show m / 128 < _; omega
      · show m / 128 < m; omega
      · (exact sgoT)
  · refine P (q, vs, n) _ ⟨rfl, hn⟩ ?_
    (exact sgoT)
/-! ### signed -/
theorem u8_wrapi (n : Int) : IntKind.u8.wrap n = ((n % 256).toNat : Int) := by rw [IntKind.wrap_u8]; omega
set_option maxRecDepth 100000 in
theorem u8_andn128 {x : Nat} (h : x < 256) : IntKind.u8.wrap ↑(BitVec.ofInt IntKind.u8.bits (x : Int) &&& ~~~BitVec.ofInt IntKind.u8.bits 128).toNat = ((x % 128 : Nat) : Int) := by
  have h1 : ∀ x < 256, x &&& 127 = x % 128 := by decide
  rw [BitVec.toNat_and, u8_nat h, show (~~~BitVec.ofInt IntKind.u8.bits 128).toNat = 127 by decide, h1 x h, IntKind.wrap_u8]
  omega
set_option maxRecDepth 100000 in
theorem u8_and64 {x : Nat} (h : x < 128) : IntKind.u8.wrap ↑(BitVec.ofInt IntKind.u8.bits (x : Int) &&& BitVec.ofInt IntKind.u8.bits 64).toNat = if x < 64 then 0 else 64 := by
  have h1 : ∀ x < 128, x &&& 64 = if x < 64 then 0 else 64 := by decide
  rw [BitVec.toNat_and, u8_nat (by omega), show (BitVec.ofInt IntKind.u8.bits 64).toNat = 64 by decide, h1 x h, IntKind.wrap_u8]
  split <;> rfl
def cS (n : Int) : Nat := (n % 128).toNat
theorem cS_lt (n : Int) : cS n < 128 := by unfold cS; omega
theorem andn_step (n : Int) : IntKind.u8.wrap ↑(BitVec.ofInt IntKind.u8.bits (IntKind.u8.wrap n) &&& ~~~BitVec.ofInt IntKind.u8.bits 128).toNat = (cS n : Int) := by
  rw [u8_wrapi n, u8_andn128 (by omega)]
  unfold cS
  omega
theorem orS_step (n : Int) : IntKind.u8.wrap ↑(BitVec.ofInt IntKind.u8.bits (cS n : Int) ||| BitVec.ofInt IntKind.u8.bits 128).toNat = ((cS n + 128 : Nat) : Int) := by
  have := cS_lt n
  rw [u8_or128 (by omega)]
  omega
theorem shr7i {m : Int} : m.fdiv (2 ^ min (Int.toNat 7) IntKind.i64.bits) = m / 128 := by
  have : (2 : Int) ^ min (Int.toNat 7) IntKind.i64.bits = 128 := by decide
  rw [this, Int.fdiv_eq_ediv_of_nonneg _ (by omega)]
set_option maxRecDepth 100000 in
theorem leb_putS (q : Nat) (vs : List Nat) (hb : vs.length ≤ 1000000) (n : Int) (hn : -9223372036854775808 ≤ n ∧ n ≤ 9223372036854775807) : SCall Try.prog 47 [.own q 0 vs.length, .int .i64 n] [(q, .arr 5 1 (vs.map encU))]
    (fun x σ => ∃ r, x = .own r 0 (vs ++ sB n).length ∧ σ = [(r, .arr 5 1 ((vs ++ sB n).map encU))]) := by
  have hL : (sB n).length ≤ 10 := sB_len 9 n (by omega) (by omega)
  refine scall_of (n := 36) (ks := [0, 1, 4, 5, 26]) Try.func47 rfl rfl (Nat.le_of_ble_eq_true rfl) ?_
  (refine ctlT ?_)
  refine rgT ?_
  refine lo (lop_assign (E rfl)) rfl ?_
  refine leT ?_
  (refine ctlT ?_)
  refine scj (β := Nat × List Nat × Int) 0 rfl (fun b => ⟨[(0, .own b.1 0 b.2.1.length), (1, .int .i64 b.2.2)], [(b.1, .arr 5 1 (b.2.1.map encU))]⟩) (fun b => b.2.1 ++ sB b.2.2 = vs ++ sB n ∧ -9223372036854775808 ≤ b.2.2 ∧ b.2.2 ≤ 9223372036854775807) (fun b => b.2.2.natAbs) ?_ (fun P => ?_)
  · rintro ⟨r, us, m⟩ ⟨he, hm, hm2⟩
    simp only at he hm hm2 ⊢
    have hcl : us.length + (sB m).length = vs.length + (sB n).length := by rw [← List.length_append, he, List.length_append]
    have hup := sB_pos m
    have hc7 := cS_lt m
    (refine ctlT ?_)
    refine rgT ?_
    refine lo (lop_move (E rfl)) rfl ?_
    refine z0 ?_
    refine z3 ?_
    refine lo (lop_assign (E rfl)) rfl ?_
    refine leT ?_
    (refine ctlT ?_)
    rw [andn_step]
    refine rgT ?_
    refine lo (lop_move (E rfl)) rfl ?_
    refine z2 ?_
    refine lo (lop_assign (E rfl)) rfl ?_
    refine leT ?_
    (refine ctlT ?_)
    rw [shr7i]
    refine rgT ?_
    refine lo (lop_move (E rfl)) rfl ?_
    refine lo (lop_eql (E rfl) (E rfl)) rfl ?_
    refine lo (lop_move (E rfl)) rfl ?_
    refine z4 ?_
    refine z5 ?_
    refine z6 ?_
    refine z7 ?_
    refine lo (lop_move (E rfl)) rfl ?_
    refine z4 ?_
    refine z6 ?_
    refine z8 ?_
    refine z9 ?_
    refine z10 ?_
    refine z11 ?_
    refine z12 ?_
    refine z13 ?_
    refine leT ?_
    (refine ctlT ?_)
    rw [u8_and64 hc7]
    have hb64 : (-64 ≤ m ∧ m ≤ 63) ↔ (m / 128 = 0 ∧ cS m < 64 ∨ m / 128 = -1 ∧ ¬ cS m < 64) := by unfold cS; omega
    refine sw_cond rfl (fun h => ?_) (fun h => ?_)
    · have h1 : -64 ≤ m ∧ m ≤ 63 := by
        rw [hb64]
        by_cases h6 : cS m < 64 <;> simp [h6] at h ⊢ <;> omega
      rw [sB_lo h1] at he
      (refine ctlT ?_)
      refine rgT ?_
      refine lo (lop_move (E rfl)) rfl ?_
      refine lo (lop_move (E rfl)) rfl ?_
      refine z1 ?_; refine freshT fun r29 h29 => ?_; (repeat (rcases h29 with ⟨_, h29⟩))
      apply ap (es' := (vs ++ sB n).map encU) (len' := (vs ++ sB n).length); rfl; rfl; (exact sgT)
      · simp
      · exact .inr (.inr ⟨_, _, _, _, _, rfl, sgT, by simp, rfl⟩)
      · rw [← he, ← snoc_encU]; rfl
      · rw [← he]; simp
      · simp [maxLen]; omega
      · simp; omega
      · rfl
      refine apnT fun r30 h30 => ?_; (repeat (rcases h30 with ⟨_, h30⟩))
      refine lo (lop_assign (E rfl)) rfl ?_
      refine leT ?_
      (refine ctlT ?_)
      (refine ctgT ?_)
      (apply aend; (exact resT))
      · exact ⟨r30, rfl, rfl⟩
      · (exact stleT)
    · have h1 : ¬ (-64 ≤ m ∧ m ≤ 63) := by
        rw [hb64]
        by_cases h6 : cS m < 64 <;> simp [h6] at h ⊢ <;> omega
      have hcl2 : us.length + (sB (m / 128)).length + 1 = vs.length + (sB n).length := by rw [sB_hi h1] at hcl; simp at hcl; omega
      rw [sB_hi h1] at he
      (refine ctlT ?_)
      refine rgT ?_
      refine lo (lop_move (E rfl)) rfl ?_
      refine lo (lop_move (E rfl)) rfl ?_
      refine lo (lop_or (E rfl) (E rfl)) rfl ?_
      refine z1 ?_; refine freshT fun r34 h34 => ?_; (repeat (rcases h34 with ⟨_, h34⟩))
      apply ap (es' := (us ++ [cS m + 128]).map encU) (len' := (us ++ [cS m + 128]).length); rfl; rfl; (exact sgT)
      · simp
      · exact .inr (.inr ⟨_, _, _, _, _, rfl, sgT, by simp, rfl⟩)
      · rw [← snoc_encU, orS_step]; rfl
      · simp
      · simp [maxLen]; omega
      · simp; omega
      · rfl
      refine apnT fun r35 h35 => ?_; (repeat (rcases h35 with ⟨_, h35⟩))
      refine lo (lop_assign (E rfl)) rfl ?_
      refine leT ?_
      (refine ctlT ?_)
      (refine ctgT ?_)
      refine ⟨(r35, us ++ [cS m + 128], m / 128), ⟨?_, ?_⟩, ?_, ?_⟩
      · simpa [cS] using he
      · show _ ≤ m / 128 ∧ m / 128 ≤ _; omega
      · show (m / 128).natAbs < m.natAbs; omega
      · (exact sgoT)
  · refine P (q, vs, n) _ ⟨rfl, hn⟩ ?_
    (exact sgoT)
end Go.Proofs.Ytkjfflabapeidaa
/-
  Package leb: how many bytes a number has; the same in the document's words.
-/
namespace Go.Proofs.Ytkjfflabapeidaa
open Go.RowKit Go.ChangeShapes Go.WideShapes Go.ChangeAt Go.Deep
set_option linter.unusedSimpArgs false
set_option linter.unusedVariables false
attribute [local irreducible] SW RS RD AThen ABlock

def addN (n : Nat) (r : Nat × Int) : Nat × Int := if r.2 = 0 then (r.1 + n, 0) else r
theorem addN_zero (r : Nat × Int) : addN 0 r = r := by obtain ⟨x, y⟩ := r; unfold addN; split <;> simp_all
theorem addN_add (n k : Nat) (r : Nat × Int) : addN n (addN k r) = addN (n + k) r := by
  unfold addN
  by_cases h : r.2 = 0 <;> simp [h]
  omega
theorem lenB_next {l : List Nat} {m n : Nat} (h1 : n < m) (h2 : n < l.length) : lenB (l.drop n) (m - n) = if l[n]! < 128 then (1, 0) else addN 1 (lenB (l.drop (n + 1)) (m - (n + 1))) := by
  rw [List.drop_eq_getElem_cons h2, show m - n = (m - (n + 1)) + 1 by omega, lenB, getElem!_pos l n h2]
  rfl
theorem lenB_stop {l : List Nat} : lenB l 0 = (0, 1) := by cases l <;> rfl
theorem lenB_end {m : Nat} (h : 0 < m) : lenB [] m = (0, 2) := by
  cases m with
  | zero => omega
  | succ m => rfl
set_option maxRecDepth 100000 in
theorem leb_length (l : List Nat) (hl : l.length ≤ 1000000) (bits : Int) (m : Nat) (hm : bits = 32 ∧ m = 5 ∨ bits = 64 ∧ m = 10) : SCall Try.prog 72 [.ro 1 (l.map encU) .any, .int .i64 bits] []
    (fun x σ => x = .tup [.int .i64 ((lenB l m).1 : Nat), .int .i64 (lenB l m).2] ∧ σ = []) := by
  have hq : IntKind.i64.wrap ((bits + 7 - 1).tdiv 7) = m := by rcases hm with ⟨rfl, rfl⟩ | ⟨rfl, rfl⟩ <;> decide
  refine scall_of (n := 37) (ks := [0, 1, 4, 5, 6, 7, 13, 18, 22, 27]) Try.func72 rfl rfl (Nat.le_of_ble_eq_true rfl) ?_
  (refine ctlT ?_)
  refine rgT ?_
  refine lo (lop_assign (E rfl)) rfl ?_
  refine lo (lop_assign (E rfl)) rfl ?_
  refine leT ?_
  (refine ctlT ?_)
  refine scj (β := Nat) 0 rfl (fun b => ⟨[(0, .ro 1 (l.map encU) .any), (6, .int .i64 b), (7, .int .i64 m)], []⟩) (fun b => b ≤ m ∧ b ≤ l.length ∧ lenB l m = addN b (lenB (l.drop b) (m - b))) (fun b => m - b) ?_ (fun P => ?_)
  · rintro n ⟨hn1, hn2, he⟩
    try dsimp only at hn1 hn2 he ⊢
    (refine ctlT ?_)
    refine rgT ?_
    refine lo (lop_move (E rfl)) rfl ?_
    refine lo (lop_move (E rfl)) rfl ?_
    refine lo (lop_eql (E rfl) (E rfl)) rfl ?_
    refine lo (lop_assign (E rfl)) rfl ?_
    refine leT ?_
    (refine ctlT ?_)
    refine sw_cond rfl (fun h => ?_) (fun h => ?_)
    · obtain rfl : n = m := by simp at h; omega
      rw [Nat.sub_self, lenB_stop] at he
      (refine ctlT ?_)
      refine rgT ?_
      refine lo (lop_assign (E rfl)) rfl ?_
      refine lo (lop_assign (E rfl)) rfl ?_
      refine leT ?_
      (refine ctlT ?_)
      (refine ctgT ?_)
      (apply aend; (exact resT))
      · rw [he]; exact ⟨rfl, rfl⟩
      · (exact stleT)
    have h1 : n < m := by simp at h; omega
    (refine ctlT ?_)
    refine rgT ?_
    refine lo (lop_move (E rfl)) rfl ?_
    refine lo (lop_move (E rfl)) rfl ?_
    refine z14 ?_
    refine lo (lop_eql (E rfl) (E rfl)) rfl ?_
    refine lo (lop_assign (E rfl)) rfl ?_
    refine leT ?_
    (refine ctlT ?_)
    refine sw_cond rfl (fun h => ?_) (fun h => ?_)
    · obtain rfl : n = l.length := by simp at h; omega
      rw [List.drop_length, lenB_end (by omega)] at he
      (refine ctlT ?_)
      refine rgT ?_
      refine lo (lop_assign (E rfl)) rfl ?_
      refine lo (lop_assign (E rfl)) rfl ?_
      refine leT ?_
      (refine ctlT ?_)
      (refine ctgT ?_)
      (apply aend; (exact resT))
      · rw [he]; exact ⟨rfl, rfl⟩
      · (exact stleT)
    have h2 : n < l.length := by simp at h; omega
    rw [lenB_next h1 h2] at he
    (refine ctlT ?_)
    refine rgT ?_
    refine lo (lop_move (E rfl)) rfl ?_
    refine lo (lop_move (E rfl)) rfl ?_
    refine z15 ?_
    refine z16 ?_
    refine lo (lop_geq (E rfl) (E rfl)) rfl ?_
    refine lo (lop_assign (E rfl)) rfl ?_
    refine leT ?_
    (refine ctlT ?_)
    refine sw_cond rfl (fun h => ?_) (fun h => ?_)
    · have h3 : ¬ l[n]! < 128 := by rw [Int.toNat_natCast] at h; first | (have := of_decide_eq_true h; omega) | (have := of_decide_eq_false h; omega)
      rw [if_neg h3, addN_add] at he
      (refine ctlT ?_)
      refine rgT ?_
      refine lo (lop_move (E rfl)) rfl ?_
      refine z17 ?_
      refine lo (lop_assign (E rfl)) rfl ?_
      refine leT ?_
      (refine ctlT ?_)
      (refine ctgT ?_)
      refine ⟨n + 1, ⟨by omega, by omega, he⟩, by omega, ?_⟩
      (exact sgoT)
    · have h3 : l[n]! < 128 := by rw [Int.toNat_natCast] at h; first | (have := of_decide_eq_true h; omega) | (have := of_decide_eq_false h; omega)
      rw [if_pos h3] at he
      (refine ctlT ?_)
      refine rgT ?_
      refine lo (lop_move (E rfl)) rfl ?_
      refine z17 ?_
      refine lo (lop_assign (E rfl)) rfl ?_
      refine lo (lop_assign (E rfl)) rfl ?_
      refine leT ?_
      (refine ctlT ?_)
      (refine ctgT ?_)
      (apply aend; (exact resT))
      · rw [he, show addN n (1, 0) = (n + 1, 0) by simp [addN, Nat.add_comm]]
        exact ⟨rfl, rfl⟩
      · (exact stleT)
  · (refine ctlT ?_)
    refine rgT ?_
    refine lo (lop_move (E rfl)) rfl ?_
    refine lo (lop_lss (E rfl) (E rfl)) rfl ?_
    refine lo (lop_move (E rfl)) rfl ?_
    refine z4 ?_
    refine z18 ?_
    refine z13 ?_
    refine leT ?_
    (refine ctlT ?_)
    refine sw_cond rfl (fun h => ?_) (fun h => ?_)
    · exfalso; simp at h; omega
    (refine ctlT ?_)
    refine rgT ?_
    refine lo (lop_move (E rfl)) rfl ?_
    refine z17 ?_
    refine z19 ?_
    refine z20 ?_
    refine lo (lop_assign (E rfl)) rfl ?_
    refine lo (lop_assign (E rfl)) rfl ?_
    refine leT ?_
    refine an ?_
    rw [hq]
    refine P 0 _ ⟨by omega, by omega, by simp [addN_zero]⟩ ?_
    (exact sgoT)
set_option maxRecDepth 100000 in
theorem leb_same (a c : List Nat) (ha : ∀ x ∈ a, x < 256) (hc : ∀ x ∈ c, x < 256) : SCall Try.prog 73 [.ro 1 (a.map encU) .any, .ro 1 (c.map encU) .any] []
    (fun x σ => x = .bool (decide (c = a)) ∧ σ = []) := by
  refine scall_of (n := 10) (ks := [0, 1, 4]) Try.func73 rfl rfl (Nat.le_of_ble_eq_true rfl) ?_
  (refine ctlT ?_)
  refine rgT ?_
  refine lo (lop_assign (E rfl)) rfl ?_
  refine leT ?_
  (refine ctlT ?_)
  refine rgT ?_
  refine lo (lop_move (E rfl)) rfl ?_
  refine lo (lop_bytes_ro (e := 5) (bs := a) (E rfl)) rfl ?_
  refine lo (lop_move (E rfl)) rfl ?_
  refine lo (lop_bytes_ro (e := 5) (bs := c) (E rfl)) rfl ?_
  refine lo (lop_seql (E rfl) (E rfl)) rfl ?_
  refine lo (lop_assign (E rfl)) rfl ?_
  refine leT ?_
  (refine ctlT ?_)
  (apply aend; (exact resT))
  · refine ⟨?_, rfl⟩
    rw [strU_inj ha hc]
    show AV.bool _ = _
    congr 1
    rw [decide_eq_decide]
    exact eq_comm
  · (exact stleT)
set_option maxRecDepth 100000 in
theorem ref_whole (l : List Nat) (hl : l.length ≤ 1000000) (bits : Int) (m : Nat) (hm : bits = 32 ∧ m = 5 ∨ bits = 64 ∧ m = 10) : SCall Try.prog 76 [.ro 1 (l.map encU) .any, .int .i64 bits] []
    (fun x σ => x = .tup [.int .i64 ((lenB l m).1 : Nat), .int .i64 (lenB l m).2] ∧ σ = []) := by
  have hq : IntKind.i64.wrap ((bits + 6).tdiv 7) = m := by rcases hm with ⟨rfl, rfl⟩ | ⟨rfl, rfl⟩ <;> decide
  refine scall_of (n := 33) (ks := [0, 1, 4, 5, 6, 7, 19, 26, 32]) Try.func76 rfl rfl (Nat.le_of_ble_eq_true rfl) ?_
  (refine ctlT ?_)
  refine rgT ?_
  refine lo (lop_assign (E rfl)) rfl ?_
  refine lo (lop_assign (E rfl)) rfl ?_
  refine leT ?_
  (refine ctlT ?_)
  refine rgT ?_
  refine lo (lop_move (E rfl)) rfl ?_
  refine z17 ?_
  refine z20 ?_
  refine lo (lop_assign (E rfl)) rfl ?_
  refine leT ?_
  (refine ctlT ?_)
  rw [hq]
  refine rgT ?_
  refine lo (lop_assign (E rfl)) rfl ?_
  refine leT ?_
  (refine ctlT ?_)
  refine lp (β := Nat) (fun b => ⟨[(0, .ro 1 (l.map encU) .any), (6, .int .i64 m), (7, .int .i64 b)], []⟩) (fun b => b ≤ m ∧ b ≤ l.length ∧ lenB l m = addN b (lenB (l.drop b) (m - b))) (fun b => m - b) 0 (by (exact sgoT)) ⟨by omega, by omega, by simp [addN_zero]⟩ ?_
  rintro n ⟨hn1, hn2, he⟩
  try dsimp only at hn1 hn2 he ⊢
  (refine ctlT ?_)
  refine rgT ?_
  refine lo (lop_move (E rfl)) rfl ?_
  refine lo (lop_move (E rfl)) rfl ?_
  refine z14 ?_
  refine lo (lop_lss (E rfl) (E rfl)) rfl ?_
  refine lo (lop_move (E rfl)) rfl ?_
  refine z4 ?_
  refine z4 ?_
  refine z21 ?_
  refine z7 ?_
  refine leT ?_
  (refine ctlT ?_)
  refine sw_cond rfl (fun h => ?_) (fun h => ?_)
  · have h1 : n < m ∧ n < l.length := by simp at h; omega
    obtain ⟨h1, h2⟩ := h1
    rw [lenB_next h1 h2] at he
    (refine ctlT ?_)
    refine rgT ?_
    refine lo (lop_move (E rfl)) rfl ?_
    refine lo (lop_move (E rfl)) rfl ?_
    refine z15 ?_
    refine z16 ?_
    refine lo (lop_lss (E rfl) (E rfl)) rfl ?_
    refine leT ?_
    (refine ctlT ?_)
    refine sw_cond rfl (fun h => ?_) (fun h => ?_)
    · have h3 : l[n]! < 128 := by rw [Int.toNat_natCast] at h; first | (have := of_decide_eq_true h; omega) | (have := of_decide_eq_false h; omega)
      rw [if_pos h3] at he
      (refine ctlT ?_)
      refine rgT ?_
      refine lo (lop_move (E rfl)) rfl ?_
      refine z17 ?_
      refine lo (lop_assign (E rfl)) rfl ?_
      refine lo (lop_assign (E rfl)) rfl ?_
      refine leT ?_
      (refine ctlT ?_)
      (apply aend; (exact resT))
      · rw [he, show addN n (1, 0) = (n + 1, 0) by simp [addN, Nat.add_comm]]
        exact ⟨rfl, rfl⟩
      · (exact stleT)
    · have h3 : ¬ l[n]! < 128 := by rw [Int.toNat_natCast] at h; first | (have := of_decide_eq_true h; omega) | (have := of_decide_eq_false h; omega)
      rw [if_neg h3, addN_add] at he
      (refine ctlT ?_)
      refine rgT ?_
      refine lo (lop_move (E rfl)) rfl ?_
      refine z17 ?_
      refine lo (lop_assign (E rfl)) rfl ?_
      refine leT ?_
      (refine ctlT ?_)
      refine ⟨n + 1, ⟨by omega, by omega, he⟩, by show m - (n + 1) < m - n; omega, ?_⟩
      (exact sgoT)
  have h1 : n = m ∨ n = l.length := by simp at h; omega
  (refine ctlT ?_)
  refine rgT ?_
  refine lo (lop_move (E rfl)) rfl ?_
  refine z14 ?_
  refine lo (lop_move (E rfl)) rfl ?_
  refine lo (lop_geq (E rfl) (E rfl)) rfl ?_
  refine leT ?_
  (refine ctlT ?_)
  refine sw_cond rfl (fun h => ?_) (fun h => ?_)
  · obtain rfl : n = m := by simp at h; omega
    rw [Nat.sub_self, lenB_stop] at he
    (refine ctlT ?_)
    refine rgT ?_
    refine lo (lop_assign (E rfl)) rfl ?_
    refine lo (lop_assign (E rfl)) rfl ?_
    refine leT ?_
    (refine ctlT ?_)
    (apply aend; (exact resT))
    · rw [he]; exact ⟨rfl, rfl⟩
    · (exact stleT)
  · have h3 : l.length < m := by simp at h; omega
    obtain rfl : n = l.length := by omega
    rw [List.drop_length, lenB_end (by omega)] at he
    (refine ctlT ?_)
    refine rgT ?_
    refine lo (lop_assign (E rfl)) rfl ?_
    refine lo (lop_assign (E rfl)) rfl ?_
    refine leT ?_
    (refine ctlT ?_)
    (apply aend; (exact resT))
    · rw [he]; exact ⟨rfl, rfl⟩
    · (exact stleT)
end Go.Proofs.Ytkjfflabapeidaa
/-
  Numbers as bytes in the document's words.
-/
namespace Go.Proofs.Ytkjfflabapeidaa
open Go.RowKit Go.ChangeShapes Go.WideShapes Go.ChangeAt Go.Deep
set_option linter.unusedSimpArgs false
set_option linter.unusedVariables false
attribute [local irreducible] SW RS RD AThen ABlock

theorem u64_nat {n : Nat} (hn : n < 18446744073709551616) : IntKind.u64.wrap (n : Int) = n := by rw [IntKind.wrap_u64]; omega
theorem remU_step (m : Nat) : IntKind.u8.wrap (IntKind.u8.wrap ((m : Int).tmod 128) + 128) = ((m % 128 + 128 : Nat) : Int) := by
  rw [Int.tmod_eq_emod_of_nonneg (by omega), IntKind.wrap_u8, IntKind.wrap_u8]; omega
theorem quoU_step {m : Nat} (hm : m < 18446744073709551616) : IntKind.u64.wrap ((m : Int).tdiv 128) = ((m / 128 : Nat) : Int) := by
  rw [Int.tdiv_eq_ediv_of_nonneg (by omega), IntKind.wrap_u64]; omega
theorem and127 (m : Int) : IntKind.i64.wrap ↑(BitVec.ofInt IntKind.i64.bits m &&& BitVec.ofInt IntKind.i64.bits 127).toNat = (cS m : Int) := by
  have h1 : (BitVec.ofInt IntKind.i64.bits m).toNat = (m % 18446744073709551616).toNat := by
    rw [BitVec.toNat_ofInt]; simp [IntKind.bits]
  rw [BitVec.toNat_and, h1, show (BitVec.ofInt IntKind.i64.bits 127).toNat = 2 ^ 7 - 1 by decide, Nat.and_two_pow_sub_one_eq_mod, IntKind.wrap_i64]
  unfold cS
  omega
theorem u8_cS (m : Int) : IntKind.u8.wrap (cS m : Int) = cS m := by
  have := cS_lt m
  rw [IntKind.wrap_u8]; omega
theorem u8_cS128 (m : Int) : IntKind.u8.wrap ((cS m : Int) + 128) = ((cS m + 128 : Nat) : Int) := by
  have := cS_lt m
  rw [IntKind.wrap_u8]; omega
set_option maxRecDepth 100000 in
theorem ref_U (n : Nat) (hn : n < 18446744073709551616) : SCall Try.prog 48 [.int .u64 n] []
    (fun x σ => ∃ r, x = .own r 0 (uB n).length ∧ σ = [(r, .arr 5 1 ((uB n).map encU))]) := by
  have hL := uB_len10 hn
  refine scall_of (n := 20) (ks := [0, 2, 3, 5]) Try.func48 rfl rfl (Nat.le_of_ble_eq_true rfl) ?_
  (refine ctlT ?_)
  refine rgT ?_
  refine lo (lop_assign (E rfl)) rfl ?_
  refine leT ?_
  (refine ctlT ?_)
  refine rgT ?_
  refine lo (lop_assign (E rfl)) rfl ?_
  refine leT ?_
  refine an ?_
  refine sw_virt 3 5 1 (by decide) (k := .nil) rfl (by decide) (fun q hq => ?_)
  (refine ctlT ?_)
  refine lp (β := Nat × List Nat × Nat) (fun b => ⟨[(3, .own b.1 0 b.2.1.length), (0, .int .u64 b.2.2)], [(b.1, .arr 5 1 (b.2.1.map encU))]⟩) (fun b => b.2.1 ++ uB b.2.2 = uB n ∧ b.2.2 < 18446744073709551616) (fun b => b.2.2) (q, [], n) (by (exact sgoT)) ⟨rfl, hn⟩ ?_
  rintro ⟨r, us, m⟩ ⟨he, hm⟩
  simp only at he hm ⊢
  have hcl : us.length + (uB m).length = (uB n).length := by rw [← List.length_append, he]
  have hup := uB_pos m
  (refine ctlT ?_)
  refine rgT ?_
  refine lo (lop_move (E rfl)) rfl ?_
  refine lo (lop_geq (E rfl) (E rfl)) rfl ?_
  refine leT ?_
  (refine ctlT ?_)
  refine sw_cond rfl (fun h => ?_) (fun h => ?_)
  · have h1 : ¬ m < 128 := by simp at h; omega
    have hcl2 : us.length + (uB (m / 128)).length + 1 = (uB n).length := by rw [uB_hi h1] at hcl; simp at hcl; omega
    rw [uB_hi h1] at he
    (refine ctlT ?_)
    refine rgT ?_
    refine lo (lop_move (E rfl)) rfl ?_
    refine lo (lop_move (E rfl)) rfl ?_
    refine z22 ?_
    refine z0 ?_
    refine lo (lop_add (E rfl) (E rfl)) rfl ?_
    refine z1 ?_; refine freshT fun r11 h11 => ?_; (repeat (rcases h11 with ⟨_, h11⟩))
    apply ap (es' := (us ++ [m % 128 + 128]).map encU) (len' := (us ++ [m % 128 + 128]).length); rfl; rfl; (exact sgT)
    · simp
    · exact .inr (.inr ⟨_, _, _, _, _, rfl, sgT, by simp, rfl⟩)
    · rw [← snoc_encU, remU_step]; rfl
    · simp
    · simp [maxLen]; omega
    · simp; omega
    · rfl
    refine apnT fun r12 h12 => ?_; (repeat (rcases h12 with ⟨_, h12⟩))
    refine lo (lop_assign (E rfl)) rfl ?_
    refine leT ?_
    (refine ctlT ?_)
    refine rgT ?_
    refine lo (lop_move (E rfl)) rfl ?_
    refine z20 ?_
    refine lo (lop_assign (E rfl)) rfl ?_
    refine leT ?_
    (refine ctlT ?_)
    refine ⟨(r12, us ++ [m % 128 + 128], m / 128), ⟨?_, ?_⟩, ?_, ?_⟩
    · simpa using he
    · show m / 128 < _; omega
    · show m / 128 < m; omega
    · rw [quoU_step hm]; (exact sgoT)
  · have h1 : m < 128 := by simp at h; omega
    rw [uB_lo h1] at he
    (refine ctlT ?_)
    refine rgT ?_
    refine lo (lop_move (E rfl)) rfl ?_
    refine lo (lop_move (E rfl)) rfl ?_
    refine z0 ?_
    refine z1 ?_; refine freshT fun r18 h18 => ?_; (repeat (rcases h18 with ⟨_, h18⟩))
    apply ap (es' := (uB n).map encU) (len' := (uB n).length); rfl; rfl; (exact sgT)
    · simp
    · exact .inr (.inr ⟨_, _, _, _, _, rfl, sgT, by simp, rfl⟩)
    · rw [← he, ← snoc_encU]; rfl
    · rw [← he]; simp
    · simp [maxLen]; omega
    · simp; omega
    · rfl
    refine apnT fun r19 h19 => ?_; (repeat (rcases h19 with ⟨_, h19⟩))
    refine lo (lop_assign (E rfl)) rfl ?_
    refine leT ?_
    (refine ctlT ?_)
    (apply aend; (exact resT))
    · exact ⟨r19, rfl, rfl⟩
    · (exact stleT)
set_option maxRecDepth 100000 in
theorem ref_S (n : Int) (hn : -9223372036854775808 ≤ n ∧ n ≤ 9223372036854775807) : SCall Try.prog 49 [.int .i64 n] []
    (fun x σ => ∃ r, x = .own r 0 (sB n).length ∧ σ = [(r, .arr 5 1 ((sB n).map encU))]) := by
  have hL : (sB n).length ≤ 10 := sB_len 9 n (by omega) (by omega)
  refine scall_of (n := 25) (ks := [0, 2, 3, 9]) Try.func49 rfl rfl (Nat.le_of_ble_eq_true rfl) ?_
  (refine ctlT ?_)
  refine rgT ?_
  refine lo (lop_assign (E rfl)) rfl ?_
  refine leT ?_
  (refine ctlT ?_)
  refine rgT ?_
  refine lo (lop_assign (E rfl)) rfl ?_
  refine leT ?_
  refine an ?_
  refine sw_virt 3 5 1 (by decide) (k := .nil) rfl (by decide) (fun q hq => ?_)
  (refine ctlT ?_)
  refine lp (β := Nat × List Nat × Int) (fun b => ⟨[(3, .own b.1 0 b.2.1.length), (0, .int .i64 b.2.2)], [(b.1, .arr 5 1 (b.2.1.map encU))]⟩) (fun b => b.2.1 ++ sB b.2.2 = sB n ∧ -9223372036854775808 ≤ b.2.2 ∧ b.2.2 ≤ 9223372036854775807) (fun b => b.2.2.natAbs) (q, [], n) (by (exact sgoT)) ⟨rfl, hn⟩ ?_
  rintro ⟨r, us, m⟩ ⟨he, hm, hm2⟩
  simp only at he hm hm2 ⊢
  have hcl : us.length + (sB m).length = (sB n).length := by rw [← List.length_append, he]
  have hup := sB_pos m
  (refine ctlT ?_)
  refine rgT ?_
  refine lo (lop_move (E rfl)) rfl ?_
  refine lo (lop_lss (E rfl) (E rfl)) rfl ?_
  refine lo (lop_move (E rfl)) rfl ?_
  refine z4 ?_
  refine z18 ?_
  refine z13 ?_
  refine leT ?_
  (refine ctlT ?_)
  refine sw_cond rfl (fun h => ?_) (fun h => ?_)
  · have h1 : ¬ (-64 ≤ m ∧ m ≤ 63) := by simp at h; omega
    have hcl2 : us.length + (sB (m / 128)).length + 1 = (sB n).length := by rw [sB_hi h1] at hcl; simp at hcl; omega
    rw [sB_hi h1] at he
    (refine ctlT ?_)
    refine rgT ?_
    refine lo (lop_move (E rfl)) rfl ?_
    refine lo (lop_move (E rfl)) rfl ?_
    refine lo (lop_and (E rfl) (E rfl)) rfl ?_
    refine z0 ?_
    refine lo (lop_add (E rfl) (E rfl)) rfl ?_
    refine z1 ?_; refine freshT fun r15 h15 => ?_; (repeat (rcases h15 with ⟨_, h15⟩))
    apply ap (es' := (us ++ [cS m + 128]).map encU) (len' := (us ++ [cS m + 128]).length); rfl; rfl; (exact sgT)
    · simp
    · exact .inr (.inr ⟨_, _, _, _, _, rfl, sgT, by simp, rfl⟩)
    · rw [← snoc_encU, and127, u8_cS, u8_cS128]; rfl
    · simp
    · simp [maxLen]; omega
    · simp; omega
    · rfl
    refine apnT fun r16 h16 => ?_; (repeat (rcases h16 with ⟨_, h16⟩))
    refine lo (lop_assign (E rfl)) rfl ?_
    refine leT ?_
    (refine ctlT ?_)
    refine rgT ?_
    refine lo (lop_move (E rfl)) rfl ?_
    refine z2 ?_
    refine lo (lop_assign (E rfl)) rfl ?_
    refine leT ?_
    (refine ctlT ?_)
    refine ⟨(r16, us ++ [cS m + 128], m / 128), ⟨?_, ?_⟩, ?_, ?_⟩
    · simpa [cS] using he
    · show _ ≤ m / 128 ∧ m / 128 ≤ _; omega
    · show (m / 128).natAbs < m.natAbs; omega
    · rw [shr7i]; (exact sgoT)
  · have h1 : -64 ≤ m ∧ m ≤ 63 := by simp at h; omega
    rw [sB_lo h1] at he
    (refine ctlT ?_)
    refine rgT ?_
    refine lo (lop_move (E rfl)) rfl ?_
    refine lo (lop_move (E rfl)) rfl ?_
    refine lo (lop_and (E rfl) (E rfl)) rfl ?_
    refine z0 ?_
    refine z1 ?_; refine freshT fun r23 h23 => ?_; (repeat (rcases h23 with ⟨_, h23⟩))
    apply ap (es' := (sB n).map encU) (len' := (sB n).length); rfl; rfl; (exact sgT)
    · simp
    · exact .inr (.inr ⟨_, _, _, _, _, rfl, sgT, by simp, rfl⟩)
    · rw [← he, ← snoc_encU, and127, u8_cS]; rfl
    · rw [← he]; simp
    · simp [maxLen]; omega
    · simp; omega
    · rfl
    refine apnT fun r24 h24 => ?_; (repeat (rcases h24 with ⟨_, h24⟩))
    refine lo (lop_assign (E rfl)) rfl ?_
    refine leT ?_
    (refine ctlT ?_)
    (apply aend; (exact resT))
    · exact ⟨r24, rfl, rfl⟩
    · (exact stleT)
end Go.Proofs.Ytkjfflabapeidaa
/-
  Package leb: U; the document's GetU.
-/
namespace Go.Proofs.Ytkjfflabapeidaa
open Go.RowKit Go.ChangeShapes Go.WideShapes Go.ChangeAt Go.Deep
set_option linter.unusedSimpArgs false
set_option linter.unusedVariables false
attribute [local irreducible] SW RS RD AThen ABlock

theorem nil_putU (n : Nat) (hn : n < 18446744073709551616) : SCall Try.prog 46 [.ro 0 [] .nil, .int .u64 n] []
    (fun x σ => ∃ r, x = .own r 0 (uB n).length ∧ σ = [(r, .arr 5 1 ((uB n).map encU))]) :=
  scall_nil (e := 5) (sz := 1) (by decide) fun q _ => leb_putU q [] (by simp) n hn
theorem nil_putS (n : Int) (hn : -9223372036854775808 ≤ n ∧ n ≤ 9223372036854775807) : SCall Try.prog 47 [.ro 0 [] .nil, .int .i64 n] []
    (fun x σ => ∃ r, x = .own r 0 (sB n).length ∧ σ = [(r, .arr 5 1 ((sB n).map encU))]) :=
  scall_nil (e := 5) (sz := 1) (by decide) fun q _ => leb_putS q [] (by simp) n hn
theorem getB_lt {l : List Nat} (h : ∀ x ∈ l, x < 256) (i : Nat) : l[i]! < 256 := by
  by_cases hi : i < l.length
  · rw [getElem!_pos l i hi]; exact h _ (List.getElem_mem hi)
  · simp [hi]
theorem take_step {l : List Nat} {k c : Nat} (h : c < k) (hk : k ≤ l.length) : (l.take k).drop c = l[c]! :: (l.take k).drop (c + 1) := by
  have h1 : c < (l.take k).length := by simp; omega
  rw [List.drop_eq_getElem_cons h1, List.getElem_take, getElem!_pos l c (by omega)]
theorem u64_ofNat {n : Nat} (hn : n < 18446744073709551616) : (BitVec.ofInt IntKind.u64.bits (n : Int)).toNat = n := by
  rw [BitVec.toNat_ofInt]; simp [IntKind.bits]; omega
theorem shlor {x y : Nat} (hx : x < 34359738368) (hy : y < 256) : IntKind.u64.wrap ↑(BitVec.ofInt IntKind.u64.bits (IntKind.u64.wrap ((x : Int) * 2 ^ min (Int.toNat 7) IntKind.u64.bits)) ||| BitVec.ofInt IntKind.u64.bits (((y % 128 : Nat) : Int))).toNat = ((y % 128 + 128 * x : Nat) : Int) := by
  have h0 : (2 : Int) ^ min (Int.toNat 7) IntKind.u64.bits = 128 := by decide
  have h1 : IntKind.u64.wrap ((x : Int) * 128) = ((x * 128 : Nat) : Int) := by rw [IntKind.wrap_u64]; omega
  rw [h0, h1, BitVec.toNat_or, u64_ofNat (by omega), u64_ofNat (by omega), show x * 128 = 2 ^ 7 * x by omega, ← Nat.two_pow_add_eq_or_of_lt (by omega), IntKind.wrap_u64]
  omega
theorem shr32 {x : Nat} : (x : Int).fdiv (2 ^ min (Int.toNat 32) IntKind.u64.bits) = ((x / 4294967296 : Nat) : Int) := by
  have : (2 : Int) ^ min (Int.toNat 32) IntKind.u64.bits = 4294967296 := by decide
  rw [this, Int.fdiv_eq_ediv_of_nonneg _ (by omega)]
  omega
theorem valU_lt5 {l : List Nat} {k c : Nat} (hk : k ≤ 5) : valU ((l.take k).drop c) < 34359738368 := by
  have h1 := valU_lt ((l.take k).drop c)
  have h2 : ((l.take k).drop c).length ≤ 5 := by simp; omega
  exact Nat.lt_of_lt_of_le h1 (Nat.le_trans (Nat.pow_le_pow_right (by decide) h2) (by decide))
set_option maxRecDepth 100000 in
theorem leb_U (l : List Nat) (hl : l.length ≤ 1000000) (hlt : ∀ x ∈ l, x < 256) : SCall Try.prog 63 [.ro 1 (l.map encU) .any, .int .i64 32] []
    (fun x σ => x = .tup [.int .u64 ((getU l).1 : Nat), .int .i64 ((getU l).2.1 : Nat), .int .i64 (getU l).2.2] ∧ σ = []) := by
  refine scall_of (n := 53) (ks := [0, 1, 4, 5, 6, 7, 8, 9, 10, 18, 22, 50]) Try.func63 rfl rfl (Nat.le_of_ble_eq_true rfl) ?_
  (refine ctlT ?_)
  refine rgT ?_
  refine lo (lop_assign (E rfl)) rfl ?_
  refine lo (lop_assign (E rfl)) rfl ?_
  refine lo (lop_assign (E rfl)) rfl ?_
  refine leT ?_
  (refine ctlT ?_)
  refine scj (β := Nat) 0 rfl (fun b => ⟨[(0, .ro 1 (l.map encU) .any), (1, .int .i64 32), (7, .int .i64 ((lenB l 5).1 : Nat)), (9, .int .u64 (valU ((l.take (lenB l 5).1).drop b) : Nat)), (10, .int .i64 b)], []⟩) (fun b => b ≤ (lenB l 5).1 ∧ (lenB l 5).2 = 0) (fun b => b) ?_ (fun P => ?_)
  · rintro n ⟨hn1, hk0⟩
    try dsimp only at hn1 hk0 ⊢
    obtain ⟨hk1, hk2, hk3⟩ := lenB_ok l 5 hk0
    generalize hk : (lenB l 5).1 = k at *
    (refine ctlT ?_)
    refine rgT ?_
    refine lo (lop_move (E rfl)) rfl ?_
    refine lo (lop_gtr (E rfl) (E rfl)) rfl ?_
    refine leT ?_
    (refine ctlT ?_)
    refine sw_cond rfl (fun h => ?_) (fun h => ?_)
    · obtain ⟨c, rfl⟩ : ∃ c, n = c + 1 := ⟨n - 1, by simp at h; omega⟩
      (refine ctlT ?_)
      refine rgT ?_
      refine lo (lop_move (E rfl)) rfl ?_
      refine z19 ?_
      refine lo (lop_assign (E rfl)) rfl ?_
      refine leT ?_
      (refine ctlT ?_)
      rw [show ((c + 1 : Nat) : Int) - 1 = (c : Nat) by omega]
      refine rgT ?_
      refine lo (lop_move (E rfl)) rfl ?_
      refine z23 ?_
      refine lo (lop_move (E rfl)) rfl ?_
      refine lo (lop_move (E rfl)) rfl ?_
      refine z15 ?_
      refine z16 ?_
      refine z3 ?_
      refine z24 ?_
      refine lo (lop_or (E rfl) (E rfl)) rfl ?_
      refine lo (lop_assign (E rfl)) rfl ?_
      refine leT ?_
      (refine ctlT ?_)
      rw [Int.toNat_natCast, u8_andn128 (getB_lt hlt c), u64_nat (n := l[c]! % 128) (by omega), shlor (valU_lt5 hk2) (getB_lt hlt c)]
      (refine ctgT ?_)
      refine ⟨c, ⟨by omega, hk0⟩, by omega, ?_⟩
      rw [take_step (c := c) (by omega) hk3, valU]
      (exact sgoT)
    · obtain rfl : n = 0 := by simp at h; omega
      rw [List.drop_zero]
      have hv : valU (l.take k) < 34359738368 := valU_lt5 (c := 0) hk2
      generalize hx : valU (l.take k) = x at hv ⊢
      (refine ctlT ?_)
      refine rgD [(0, true), (1, true), (2, true), (3, true), (4, false), (5, false), (6, true), (7, true), (8, true), (9, true), (10, true), (11, true), (12, true), (13, true), (14, true), (15, true), (16, true)] ?_
      refine dlo rfl (lop_move (E rfl)) rfl ?_
      refine dlo rfl (lop_move (E rfl)) rfl ?_
      refine z25 ?_
      refine dlo rfl (lop_move (E rfl)) rfl ?_
      refine dcw [] rfl Try.call46 (nil_putU x (by omega)) rfl ?_ ?_ ?_ ?_
      · (exact argsleT)
      · (exact stleT)
      · (exact hbtT)
      rintro _ σ' ⟨r, rfl, rfl⟩ hr
      replace hr := cnewT hr; (repeat (rcases hr with ⟨_, hr⟩))
      (apply rd_sto; (exact nflT))
      refine dpu [r] rfl Try.call73 (leb_same (l.take k) (uB x) (fun y hy => hlt y (List.mem_of_mem_take hy)) (uB_lt x)) rfl ?_ nofT ?_
      · (exact pargsT)
      refine dlo rfl (lop_not (E rfl)) rfl ?_
      refine dlo rfl (lop_move (E rfl)) rfl ?_
      refine z26 ?_
      refine z27 ?_
      refine z28 ?_
      refine z29 ?_
      refine z29 ?_
      refine z30 ?_
      refine z31 ?_
      refine z32 ?_
      refine z33 ?_
      refine deT ?_
      (refine ctlT ?_)
      have hc : (if (!decide (uB x = l.take k)) = true then true else (x : Int).fdiv (2 ^ min (Int.toNat 32) IntKind.u64.bits) != 0) = !decide (uB x = l.take k ∧ x < 4294967296) := by
        rw [shr32]
        by_cases h1 : uB x = l.take k
        · by_cases h2 : x < 4294967296
          · simp [h1, h2]; omega
          · simp [h1, h2]; omega
        · simp [h1]
      rw [hc]
      refine sw_cond rfl (fun h => ?_) (fun h => ?_)
      · have h1 : ¬ (uB x = l.take k ∧ x < 4294967296) := by
          rintro ⟨h1, h2⟩
          simp [h1] at h
          omega
        (refine ctlT ?_)
        refine rgT ?_
        refine lo (lop_assign (E rfl)) rfl ?_
        refine lo (lop_assign (E rfl)) rfl ?_
        refine lo (lop_assign (E rfl)) rfl ?_
        refine leT ?_
        (refine ctlT ?_)
        (refine ctgT ?_)
        (apply aend; (exact resT))
        · unfold getU
          rw [if_neg (by rw [hk0]; simp), hk, hx, if_neg h1]
          exact ⟨rfl, rfl⟩
        · (exact stleT)
      · have h1 : uB x = l.take k ∧ x < 4294967296 := by simpa using h
        (refine ctlT ?_)
        refine rgT ?_
        refine lo (lop_move (E rfl)) rfl ?_
        refine lo (lop_move (E rfl)) rfl ?_
        refine lo (lop_assign (E rfl)) rfl ?_
        refine lo (lop_assign (E rfl)) rfl ?_
        refine lo (lop_assign (E rfl)) rfl ?_
        refine leT ?_
        (refine ctlT ?_)
        (refine ctgT ?_)
        (apply aend; (exact resT))
        · unfold getU
          rw [if_neg (by rw [hk0]; simp), hk, hx, if_pos h1]
          exact ⟨rfl, rfl⟩
        · (exact stleT)
  · (refine ctlT ?_)
    refine rgT ?_
    refine lo (lop_move (E rfl)) rfl ?_
    refine lo (lop_move (E rfl)) rfl ?_
    (first | refine pu [] Try.call72 (leb_length l hl 32 5 (.inl ⟨rfl, rfl⟩)) rfl argsT nofT ?_ | refine pug [] rfl rfl Try.call72 (fun _ => (leb_length l hl 32 5 (.inl ⟨rfl, rfl⟩))) rfl argsT nofT ?_)
    refine lo (lop_move (E rfl)) rfl ?_
    refine lo (lop_extract (E rfl) rfl) rfl ?_
    refine lo (lop_extract (E rfl) rfl) rfl ?_
    refine lo (lop_assign (E rfl)) rfl ?_
    refine lo (lop_assign (E rfl)) rfl ?_
    refine leT ?_
    (refine ctlT ?_)
    refine rgT ?_
    refine lo (lop_move (E rfl)) rfl ?_
    refine lo (lop_neq (E rfl) (E rfl)) rfl ?_
    refine leT ?_
    (refine ctlT ?_)
    refine sw_cond rfl (fun h => ?_) (fun h => ?_)
    · have h1 : (lenB l 5).2 ≠ 0 := by simpa using h
      (refine ctlT ?_)
      refine rgT ?_
      refine lo (lop_move (E rfl)) rfl ?_
      refine lo (lop_assign (E rfl)) rfl ?_
      refine lo (lop_assign (E rfl)) rfl ?_
      refine lo (lop_assign (E rfl)) rfl ?_
      refine leT ?_
      (refine ctlT ?_)
      (refine ctgT ?_)
      (apply aend; (exact resT))
      · unfold getU
        rw [if_pos h1]
        exact ⟨rfl, rfl⟩
      · (exact stleT)
    · have h1 : (lenB l 5).2 = 0 := by simpa using h
      (refine ctlT ?_)
      refine rgT ?_
      refine lo (lop_move (E rfl)) rfl ?_
      refine lo (lop_assign (E rfl)) rfl ?_
      refine lo (lop_assign (E rfl)) rfl ?_
      refine leT ?_
      refine an ?_
      refine P (lenB l 5).1 _ ⟨Nat.le_refl _, h1⟩ ?_
      rw [show (l.take (lenB l 5).1).drop (lenB l 5).1 = [] by rw [List.drop_eq_nil_iff]; simp; omega]
      (exact sgoT)
theorem mulrem {x y : Nat} (hx : x < 34359738368) : IntKind.u64.wrap (IntKind.u64.wrap ((x : Int) * 128) + IntKind.u64.wrap ((y : Int).tmod 128)) = ((y % 128 + 128 * x : Nat) : Int) := by
  rw [Int.tmod_eq_emod_of_nonneg (by omega), IntKind.wrap_u64, IntKind.wrap_u64, IntKind.wrap_u64]; omega
set_option maxRecDepth 100000 in
theorem ref_GetU (l : List Nat) (hl : l.length ≤ 1000000) (hlt : ∀ x ∈ l, x < 256) : SCall Try.prog 74 [.ro 1 (l.map encU) .any, .int .i64 32] []
    (fun x σ => x = .tup [.int .u64 ((getU l).1 : Nat), .int .i64 ((getU l).2.1 : Nat), .int .i64 (getU l).2.2] ∧ σ = []) := by
  refine scall_of (n := 71) (ks := [0, 1, 4, 5, 6, 7, 8, 9, 10, 11, 17, 25, 30, 68]) Try.func74 rfl rfl (Nat.le_of_ble_eq_true rfl) ?_
  (refine ctlT ?_)
  refine rgT ?_
  refine lo (lop_assign (E rfl)) rfl ?_
  refine lo (lop_assign (E rfl)) rfl ?_
  refine lo (lop_assign (E rfl)) rfl ?_
  refine leT ?_
  (refine ctlT ?_)
  refine rgT ?_
  refine lo (lop_move (E rfl)) rfl ?_
  refine lo (lop_lss (E rfl) (E rfl)) rfl ?_
  refine lo (lop_move (E rfl)) rfl ?_
  refine z4 ?_
  refine z18 ?_
  refine z13 ?_
  refine leT ?_
  (refine ctlT ?_)
  refine rgT ?_
  refine lo (lop_move (E rfl)) rfl ?_
  refine lo (lop_move (E rfl)) rfl ?_
  (first | refine pu [] Try.call76 (ref_whole l hl 32 5 (.inl ⟨rfl, rfl⟩)) rfl argsT nofT ?_ | refine pug [] rfl rfl Try.call76 (fun _ => (ref_whole l hl 32 5 (.inl ⟨rfl, rfl⟩))) rfl argsT nofT ?_)
  refine lo (lop_move (E rfl)) rfl ?_
  refine lo (lop_extract (E rfl) rfl) rfl ?_
  refine lo (lop_extract (E rfl) rfl) rfl ?_
  refine lo (lop_assign (E rfl)) rfl ?_
  refine lo (lop_assign (E rfl)) rfl ?_
  refine leT ?_
  (refine ctlT ?_)
  refine rgT ?_
  refine lo (lop_move (E rfl)) rfl ?_
  refine lo (lop_neq (E rfl) (E rfl)) rfl ?_
  refine leT ?_
  (refine ctlT ?_)
  refine sw_cond rfl (fun h => ?_) (fun h => ?_)
  · have h1 : (lenB l 5).2 ≠ 0 := by simpa using h
    (refine ctlT ?_)
    refine rgT ?_
    refine lo (lop_move (E rfl)) rfl ?_
    refine lo (lop_assign (E rfl)) rfl ?_
    refine lo (lop_assign (E rfl)) rfl ?_
    refine lo (lop_assign (E rfl)) rfl ?_
    refine leT ?_
    (refine ctlT ?_)
    (apply aend; (exact resT))
    · unfold getU
      rw [if_pos h1]
      exact ⟨rfl, rfl⟩
    · (exact stleT)
  have hk0 : (lenB l 5).2 = 0 := by simpa using h
  obtain ⟨hk1, hk2, hk3⟩ := lenB_ok l 5 hk0
  generalize hk : (lenB l 5).1 = k at *
  (refine ctlT ?_)
  refine rgT ?_
  refine lo (lop_assign (E rfl)) rfl ?_
  refine lo (lop_assign (E rfl)) rfl ?_
  refine leT ?_
  (refine ctlT ?_)
  refine rgT ?_
  refine lo (lop_move (E rfl)) rfl ?_
  refine z19 ?_
  refine lo (lop_assign (E rfl)) rfl ?_
  refine leT ?_
  (refine ctlT ?_)
  refine lp (β := Nat) (fun b => ⟨[(0, .ro 1 (l.map encU) .any), (1, .int .i64 32), (7, .int .i64 k), (9, .int .u64 (valU ((l.take k).drop b) : Nat)), (10, .bool false), (11, .int .i64 ((b : Int) - 1))], []⟩) (fun b => b ≤ k) (fun b => b) k (by rw [show (l.take k).drop k = [] by rw [List.drop_eq_nil_iff]; simp; omega]; (exact sgoT)) (Nat.le_refl _) ?_
  intro n hn
  try dsimp only at hn ⊢
  (refine ctlT ?_)
  refine rgT ?_
  refine lo (lop_move (E rfl)) rfl ?_
  refine lo (lop_geq (E rfl) (E rfl)) rfl ?_
  refine leT ?_
  (refine ctlT ?_)
  refine sw_cond rfl (fun h => ?_) (fun h => ?_)
  · obtain ⟨c, rfl⟩ : ∃ c, n = c + 1 := ⟨n - 1, by simp at h; omega⟩
    rw [show ((c + 1 : Nat) : Int) - 1 = (c : Nat) by omega]
    have hx5 := valU_lt5 (l := l) (c := c + 1) hk2
    (refine ctlT ?_)
    refine rgT ?_
    refine lo (lop_move (E rfl)) rfl ?_
    refine lo (lop_move (E rfl)) rfl ?_
    refine z4 ?_
    refine z34 ?_
    refine z13 ?_
    refine lo (lop_assign (E rfl)) rfl ?_
    refine leT ?_
    (refine ctlT ?_)
    rw [show decide (144115188075855872 ≤ ((valU ((l.take k).drop (c + 1)) : Nat) : Int)) = false from decide_eq_false (by omega)]
    refine rgT ?_
    refine lo (lop_move (E rfl)) rfl ?_
    refine lo (lop_mul (E rfl) (E rfl)) rfl ?_
    refine lo (lop_move (E rfl)) rfl ?_
    refine lo (lop_move (E rfl)) rfl ?_
    refine z15 ?_
    refine z16 ?_
    refine z22 ?_
    refine z24 ?_
    refine lo (lop_add (E rfl) (E rfl)) rfl ?_
    refine lo (lop_assign (E rfl)) rfl ?_
    refine leT ?_
    (refine ctlT ?_)
    rw [Int.toNat_natCast, mulrem hx5]
    refine rgT ?_
    refine lo (lop_move (E rfl)) rfl ?_
    refine z19 ?_
    refine lo (lop_assign (E rfl)) rfl ?_
    refine leT ?_
    (refine ctlT ?_)
    refine ⟨c, by omega, by omega, ?_⟩
    rw [take_step (c := c) (by omega) hk3, valU]
    (exact sgoT)
  obtain rfl : n = 0 := by simp at h; omega
  rw [List.drop_zero]
  have hv : valU (l.take k) < 34359738368 := valU_lt5 (c := 0) hk2
  generalize hx : valU (l.take k) = x at hv ⊢
  (refine ctlT ?_)
  refine rgD [(0, true), (1, true), (2, true), (3, true), (4, true), (5, true), (6, true), (7, true), (8, true), (9, true), (10, true), (11, true), (12, true), (13, true), (16, true), (17, true), (18, true), (19, true), (14, false), (15, true), (20, true), (21, true)] ?_
  refine dlo rfl (lop_move (E rfl)) rfl ?_
  refine dlo rfl (lop_move (E rfl)) rfl ?_
  refine z26 ?_
  refine z27 ?_
  refine z28 ?_
  refine z29 ?_
  refine z29 ?_
  refine z35 ?_
  refine z36 ?_
  refine z37 ?_
  refine z32 ?_
  refine z33 ?_
  refine dlo rfl (lop_move (E rfl)) rfl ?_
  have h32 : IntKind.u64.wrap (1 * 2 ^ min (Int.toNat 32) IntKind.u64.bits) = 4294967296 := by decide
  rw [h32]
  rcases Nat.lt_or_ge x 4294967296 with h2 | h2
  · rw [show decide ((4294967296 : Int) ≤ x) = false from decide_eq_false (by omega)]
    refine z38 ?_
    refine z38 ?_
    refine z38 ?_
    refine z39 ?_
    rw [show List.take (k - 0) (List.drop 0 (l.map encU)) = (l.take k).map encU by rw [Nat.sub_zero, List.drop_zero, List.map_take]]
    refine dly rfl rfl rfl (lop_bytes_ro (e := 5) (bs := l.take k) (E rfl)) rfl ?_
    refine dcwy [] rfl rfl rfl Try.call48 (ref_U x (by omega)) rfl ?_ ?_ ?_ ?_
    · (exact argsleT)
    · (exact stleT)
    · (exact hbtT)
    rintro _ σ' ⟨r, rfl, rfl⟩ hr
    replace hr := cnewT hr; (repeat (rcases hr with ⟨_, hr⟩))
    (apply rd_sto; (exact nflT))
    refine dly rfl rfl rfl (lop_bytes_own (e := 5) (bs := uB x) (bs' := uB x) (E rfl) sgT (by omega) (by rw [List.drop_zero]; exact List.take_of_length_le (by omega))) rfl ?_
    refine z40 ?_
    refine z41 ?_
    refine deT ?_
    (refine ctlT ?_)
    rw [strU_inj (uB_lt x) (fun y hy => hlt y (List.mem_of_mem_take hy))]
    refine sw_cond rfl (fun h => ?_) (fun h => ?_)
    · have h1 : ¬ (uB x = l.take k ∧ x < 4294967296) := by
        rintro ⟨h1, h2⟩
        simp [h1] at h
      (refine ctlT ?_)
      refine rgT ?_
      refine lo (lop_assign (E rfl)) rfl ?_
      refine lo (lop_assign (E rfl)) rfl ?_
      refine lo (lop_assign (E rfl)) rfl ?_
      refine leT ?_
      (refine ctlT ?_)
      (apply aend; (exact resT))
      · unfold getU
        rw [if_neg (by rw [hk0]; simp), hk, hx, if_neg h1]
        exact ⟨rfl, rfl⟩
      · (exact stleT)
    · have h1 : uB x = l.take k ∧ x < 4294967296 := ⟨by simpa using h, h2⟩
      (refine ctlT ?_)
      refine rgT ?_
      refine lo (lop_move (E rfl)) rfl ?_
      refine lo (lop_move (E rfl)) rfl ?_
      refine lo (lop_assign (E rfl)) rfl ?_
      refine lo (lop_assign (E rfl)) rfl ?_
      refine lo (lop_assign (E rfl)) rfl ?_
      refine leT ?_
      (refine ctlT ?_)
      (apply aend; (exact resT))
      · unfold getU
        rw [if_neg (by rw [hk0]; simp), hk, hx, if_pos h1]
        exact ⟨rfl, rfl⟩
      · (exact stleT)
  · rw [show decide ((4294967296 : Int) ≤ x) = true from decide_eq_true (by omega)]
    have h1 : ¬ (uB x = l.take k ∧ x < 4294967296) := by omega
    refine z26 ?_
    refine z26 ?_
    refine z26 ?_
    refine z42 ?_
    refine dln rfl rfl rfl rfl rfl ?_
    refine rd_heavy_no rfl rfl rfl rfl rfl ?_
    refine dln rfl rfl rfl rfl rfl ?_
    refine z43 ?_
    refine z33 ?_
    refine deT ?_
    (refine ctlT ?_)
    refine rgT ?_
    refine lo (lop_assign (E rfl)) rfl ?_
    refine lo (lop_assign (E rfl)) rfl ?_
    refine lo (lop_assign (E rfl)) rfl ?_
    refine leT ?_
    (refine ctlT ?_)
    (apply aend; (exact resT))
    · unfold getU
      rw [if_neg (by rw [hk0]; simp), hk, hx, if_neg h1]
      exact ⟨rfl, rfl⟩
    · (exact stleT)
end Go.Proofs.Ytkjfflabapeidaa
/-
  Package leb: S; the document's GetS.
-/
namespace Go.Proofs.Ytkjfflabapeidaa
open Go.RowKit Go.ChangeShapes Go.WideShapes Go.ChangeAt Go.Deep
set_option linter.unusedSimpArgs false
set_option linter.unusedVariables false
attribute [local irreducible] SW RS RD AThen ABlock

theorem valS_bd : ∀ (l : List Nat), -9223372036854775808 ≤ valS l ∧ valS l ≤ 9223372036854775807
  | [] => by simp [valS]
  | [b] => by rw [valS]; split <;> omega
  | b :: c :: t => by rw [valS, IntKind.wrap_i64]; omega
/-- what has been read of the bytes from c on, before the first one: the sign -/
def sv (l : List Nat) (k c : Nat) : Int := if c < k then valS ((l.take k).drop c) else if 64 ≤ l[k - 1]! % 128 then -1 else 0
theorem sv_zero {l : List Nat} {k : Nat} (hk : 1 ≤ k) : sv l k 0 = valS (l.take k) := by
  unfold sv; rw [if_pos (by omega), List.drop_zero]
theorem sv_bd (l : List Nat) (k c : Nat) : -9223372036854775808 ≤ sv l k c ∧ sv l k c ≤ 9223372036854775807 := by
  unfold sv
  split
  · exact valS_bd _
  · split <;> omega
theorem sv_step {l : List Nat} {k c : Nat} (h : c < k) (hk : k ≤ l.length) : sv l k c = IntKind.i64.wrap (sv l k (c + 1) * 128 + ((l[c]! % 128 : Nat) : Int)) := by
  unfold sv
  rw [if_pos h, take_step h hk]
  by_cases h1 : c + 1 < k
  · rw [if_pos h1, valS_cons _ (by simp; omega)]
  · obtain rfl : k = c + 1 := by omega
    rw [if_neg h1, show (l.take (c + 1)).drop (c + 1) = [] by rw [List.drop_eq_nil_iff]; simp; omega, valS, Nat.add_sub_cancel]
    generalize l[c]! = y
    split <;> rw [IntKind.wrap_i64] <;> omega
theorem sv_last {l : List Nat} {j : Nat} (hk : j + 1 ≤ l.length) : sv l (j + 1) j = if 64 ≤ l[j]! % 128 then ((l[j]! % 128 : Nat) : Int) - 128 else ((l[j]! % 128 : Nat) : Int) := by
  rw [sv_step (by omega) hk]
  unfold sv
  rw [if_neg (by omega), Nat.add_sub_cancel]
  generalize l[j]! = y
  split <;> rw [IntKind.wrap_i64] <;> omega
theorem i64_ofInt (y : Int) : (BitVec.ofInt IntKind.i64.bits y).toNat = (y % 18446744073709551616).toNat := by
  rw [BitVec.toNat_ofInt]; simp [IntKind.bits]
theorem shlorS {x : Int} {y : Nat} : IntKind.i64.wrap ↑(BitVec.ofInt IntKind.i64.bits (IntKind.i64.wrap (x * 2 ^ min (Int.toNat 7) IntKind.i64.bits)) ||| BitVec.ofInt IntKind.i64.bits (((y % 128 : Nat) : Int))).toNat = IntKind.i64.wrap (x * 128 + ((y % 128 : Nat) : Int)) := by
  have h0 : (2 : Int) ^ min (Int.toNat 7) IntKind.i64.bits = 128 := by decide
  obtain ⟨z, hz⟩ : ∃ z : Nat, (IntKind.i64.wrap (x * 128) % 18446744073709551616).toNat = 2 ^ 7 * z := by
    refine ⟨(IntKind.i64.wrap (x * 128) % 18446744073709551616).toNat / 128, ?_⟩
    rw [IntKind.wrap_i64]; omega
  have h2 : (((y % 128 : Nat) : Int) % 18446744073709551616).toNat = y % 128 := by omega
  rw [h0, BitVec.toNat_or, i64_ofInt, i64_ofInt, hz, h2, ← Nat.two_pow_add_eq_or_of_lt (by omega)]
  rw [IntKind.wrap_i64] at hz
  rw [IntKind.wrap_i64, IntKind.wrap_i64]
  omega
set_option maxRecDepth 100000 in
theorem u8_and64' {x : Nat} (h : x < 256) : IntKind.u8.wrap ↑(BitVec.ofInt IntKind.u8.bits (x : Int) &&& BitVec.ofInt IntKind.u8.bits 64).toNat = if x % 128 < 64 then 0 else 64 := by
  have h1 : ∀ x < 256, x &&& 64 = if x % 128 < 64 then 0 else 64 := by decide
  rw [BitVec.toNat_and, u8_nat (by omega), show (BitVec.ofInt IntKind.u8.bits 64).toNat = 64 by decide, h1 x h, IntKind.wrap_u8]
  split <;> rfl
theorem i64_small {n : Nat} (h : n < 256) : IntKind.i64.wrap (n : Int) = n := by rw [IntKind.wrap_i64]; omega
theorem mostS_eq {bits : Nat} (hb : bits = 32 ∨ bits = 64) : (bits : Int) = 32 ∧ mostS bits = 5 ∨ (bits : Int) = 64 ∧ mostS bits = 10 := by
  rcases hb with rfl | rfl
  · exact .inl ⟨rfl, rfl⟩
  · exact .inr ⟨rfl, rfl⟩
theorem topS {bits : Nat} (hb : bits = 32 ∨ bits = 64) {x : Int} (hv : -9223372036854775808 ≤ x ∧ x ≤ 9223372036854775807) : (x.fdiv (2 ^ min ((bits : Int) - 1).toNat IntKind.i64.bits) = 0 ∨ x.fdiv (2 ^ min ((bits : Int) - 1).toNat IntKind.i64.bits) = -1) ↔ (bits = 32 → -2147483648 ≤ x ∧ x ≤ 2147483647) := by
  rcases hb with rfl | rfl
  · rw [show (2 : Int) ^ min (((32 : Nat) : Int) - 1).toNat IntKind.i64.bits = 2147483648 by decide, Int.fdiv_eq_ediv_of_nonneg _ (by omega)]
    omega
  · rw [show (2 : Int) ^ min (((64 : Nat) : Int) - 1).toNat IntKind.i64.bits = 9223372036854775808 by decide, Int.fdiv_eq_ediv_of_nonneg _ (by omega)]
    omega
theorem getS_no {bits : Nat} {l : List Nat} {k : Nat} (hk0 : (lenB l (mostS bits)).2 = 0) (hk : (lenB l (mostS bits)).1 = k) (h : ¬ (sB (valS (l.take k)) = l.take k ∧ (bits = 32 → -2147483648 ≤ valS (l.take k) ∧ valS (l.take k) ≤ 2147483647))) : getS bits l = (0, 0, 1) := by
  unfold getS
  rw [if_neg (by rw [hk0]; simp), hk, if_neg h]
theorem getS_yes {bits : Nat} {l : List Nat} {k : Nat} (hk0 : (lenB l (mostS bits)).2 = 0) (hk : (lenB l (mostS bits)).1 = k) (h : sB (valS (l.take k)) = l.take k ∧ (bits = 32 → -2147483648 ≤ valS (l.take k) ∧ valS (l.take k) ≤ 2147483647)) : getS bits l = (valS (l.take k), k, 0) := by
  unfold getS
  rw [if_neg (by rw [hk0]; simp), hk, if_pos h]
set_option maxRecDepth 100000 in
theorem leb_S (l : List Nat) (hl : l.length ≤ 1000000) (hlt : ∀ x ∈ l, x < 256) (bits : Nat) (hb : bits = 32 ∨ bits = 64) : SCall Try.prog 64 [.ro 1 (l.map encU) .any, .int .i64 bits] []
    (fun x σ => x = .tup [.int .i64 (getS bits l).1, .int .i64 ((getS bits l).2.1 : Nat), .int .i64 (getS bits l).2.2] ∧ σ = []) := by
  refine scall_of (n := 63) (ks := [0, 1, 4, 5, 6, 7, 8, 9, 10, 11, 19, 28, 30, 60]) Try.func64 rfl rfl (Nat.le_of_ble_eq_true rfl) ?_
  (refine ctlT ?_)
  refine rgT ?_
  refine lo (lop_assign (E rfl)) rfl ?_
  refine lo (lop_assign (E rfl)) rfl ?_
  refine lo (lop_assign (E rfl)) rfl ?_
  refine leT ?_
  (refine ctlT ?_)
  obtain ⟨m, hm⟩ : ∃ m, m = mostS bits := ⟨_, rfl⟩
  have hlen : lenB l (mostS bits) = lenB l m := by rw [hm]
  refine scj (β := Nat) 0 rfl (fun b => ⟨[(0, .ro 1 (l.map encU) .any), (1, .int .i64 bits), (7, .int .i64 ((lenB l m).1 : Nat)), (9, .int .i64 (sv l (lenB l m).1 b)), (10, .int .i64 b)], []⟩) (fun b => b ≤ (lenB l m).1 ∧ (lenB l m).2 = 0) (fun b => b) ?_ (fun P => ?_)
  · rintro n ⟨hn1, hk0⟩
    try dsimp only at hn1 hk0 ⊢
    obtain ⟨hk1, hk2, hk3⟩ := lenB_ok l m hk0
    generalize hk : (lenB l m).1 = k at *
    (refine ctlT ?_)
    refine rgT ?_
    refine lo (lop_move (E rfl)) rfl ?_
    refine lo (lop_gtr (E rfl) (E rfl)) rfl ?_
    refine leT ?_
    (refine ctlT ?_)
    refine sw_cond rfl (fun h => ?_) (fun h => ?_)
    · obtain ⟨c, rfl⟩ : ∃ c, n = c + 1 := ⟨n - 1, by simp at h; omega⟩
      (refine ctlT ?_)
      refine rgT ?_
      refine lo (lop_move (E rfl)) rfl ?_
      refine z19 ?_
      refine lo (lop_assign (E rfl)) rfl ?_
      refine leT ?_
      (refine ctlT ?_)
      rw [show ((c + 1 : Nat) : Int) - 1 = (c : Nat) by omega]
      refine rgT ?_
      refine lo (lop_move (E rfl)) rfl ?_
      refine z23 ?_
      refine lo (lop_move (E rfl)) rfl ?_
      refine lo (lop_move (E rfl)) rfl ?_
      refine z15 ?_
      refine z16 ?_
      refine z3 ?_
      refine z44 ?_
      refine lo (lop_or (E rfl) (E rfl)) rfl ?_
      refine lo (lop_assign (E rfl)) rfl ?_
      refine leT ?_
      (refine ctlT ?_)
      rw [Int.toNat_natCast, u8_andn128 (getB_lt hlt c), i64_small (n := l[c]! % 128) (by omega), shlorS, ← sv_step (by omega) hk3]
      (refine ctgT ?_)
      refine ⟨c, ⟨by omega, hk0⟩, by omega, ?_⟩
      (exact sgoT)
    · obtain rfl : n = 0 := by simp at h; omega
      rw [sv_zero hk1]
      have hv := valS_bd (l.take k)
      generalize hx : valS (l.take k) = x at hv ⊢
      (refine ctlT ?_)
      refine rgT ?_
      refine lo (lop_move (E rfl)) rfl ?_
      refine lo (lop_move (E rfl)) rfl ?_
      refine z19 ?_
      refine z2 ?_
      refine lo (lop_assign (E rfl)) rfl ?_
      refine leT ?_
      (refine ctlT ?_)
      refine rgD [(0, true), (1, true), (2, true), (3, true), (4, false), (5, false), (6, true), (7, true), (8, true), (9, true), (10, true), (11, true), (12, true), (13, true), (14, true)] ?_
      refine dlo rfl (lop_move (E rfl)) rfl ?_
      refine dlo rfl (lop_move (E rfl)) rfl ?_
      refine z25 ?_
      refine dlo rfl (lop_move (E rfl)) rfl ?_
      refine dcw [] rfl Try.call47 (nil_putS x hv) rfl ?_ ?_ ?_ ?_
      · (exact argsleT)
      · (exact stleT)
      · (exact hbtT)
      rintro _ σ' ⟨r, rfl, rfl⟩ hr
      replace hr := cnewT hr; (repeat (rcases hr with ⟨_, hr⟩))
      (apply rd_sto; (exact nflT))
      refine dpu [r] rfl Try.call73 (leb_same (l.take k) (sB x) (fun y hy => hlt y (List.mem_of_mem_take hy)) (sB_lt _ x (Nat.le_refl _))) rfl ?_ nofT ?_
      · (exact pargsT)
      refine dlo rfl (lop_not (E rfl)) rfl ?_
      refine dlo rfl (lop_move (E rfl)) rfl ?_
      refine z26 ?_
      refine z45 ?_
      refine z28 ?_
      refine z29 ?_
      refine z31 ?_
      refine z32 ?_
      refine z33 ?_
      refine deT ?_
      (refine ctlT ?_)
      have ht := topS hb hv
      generalize x.fdiv (2 ^ min ((bits : Int) - 1).toNat IntKind.i64.bits) = y at ht ⊢
      refine sw_cond rfl (fun h => ?_) (fun h => ?_)
      · have h1 : ¬ (sB x = l.take k ∧ (bits = 32 → -2147483648 ≤ x ∧ x ≤ 2147483647)) := by
          rintro ⟨h1, h2⟩
          rcases ht.2 h2 with rfl | rfl <;> simp [h1] at h
        rw [← hx] at h1
        (refine ctlT ?_)
        refine rgT ?_
        refine lo (lop_assign (E rfl)) rfl ?_
        refine lo (lop_assign (E rfl)) rfl ?_
        refine lo (lop_assign (E rfl)) rfl ?_
        refine leT ?_
        (refine ctlT ?_)
        (refine ctgT ?_)
        (apply aend; (exact resT))
        · rw [getS_no (by rw [hlen]; exact hk0) (by rw [hlen]; exact hk) h1]
          exact ⟨rfl, rfl⟩
        · (exact stleT)
      · have h1 : sB x = l.take k ∧ (bits = 32 → -2147483648 ≤ x ∧ x ≤ 2147483647) := by
          by_cases h2 : sB x = l.take k
          · refine ⟨h2, ht.1 ?_⟩
            by_cases h3 : y = 0
            · exact .inl h3
            · exact .inr (by simpa [h2, h3] using h)
          · simp [h2] at h
        rw [← hx] at h1
        (refine ctlT ?_)
        refine rgT ?_
        refine lo (lop_move (E rfl)) rfl ?_
        refine lo (lop_move (E rfl)) rfl ?_
        refine lo (lop_assign (E rfl)) rfl ?_
        refine lo (lop_assign (E rfl)) rfl ?_
        refine lo (lop_assign (E rfl)) rfl ?_
        refine leT ?_
        (refine ctlT ?_)
        (refine ctgT ?_)
        (apply aend; (exact resT))
        · rw [getS_yes (by rw [hlen]; exact hk0) (by rw [hlen]; exact hk) h1, hx]
          exact ⟨rfl, rfl⟩
        · (exact stleT)
  · (refine ctlT ?_)
    refine rgT ?_
    refine lo (lop_move (E rfl)) rfl ?_
    refine lo (lop_move (E rfl)) rfl ?_
    (first | refine pu [] Try.call72 (leb_length l hl bits m (by rw [hm]; exact mostS_eq hb)) rfl argsT nofT ?_ | refine pug [] rfl rfl Try.call72 (fun _ => (leb_length l hl bits m (by rw [hm]; exact mostS_eq hb))) rfl argsT nofT ?_)
    refine lo (lop_move (E rfl)) rfl ?_
    refine lo (lop_extract (E rfl) rfl) rfl ?_
    refine lo (lop_extract (E rfl) rfl) rfl ?_
    refine lo (lop_assign (E rfl)) rfl ?_
    refine lo (lop_assign (E rfl)) rfl ?_
    refine leT ?_
    (refine ctlT ?_)
    refine rgT ?_
    refine lo (lop_move (E rfl)) rfl ?_
    refine lo (lop_neq (E rfl) (E rfl)) rfl ?_
    refine leT ?_
    (refine ctlT ?_)
    refine sw_cond rfl (fun h => ?_) (fun h => ?_)
    · have h1 : (lenB l m).2 ≠ 0 := by simpa using h
      (refine ctlT ?_)
      refine rgT ?_
      refine lo (lop_move (E rfl)) rfl ?_
      refine lo (lop_assign (E rfl)) rfl ?_
      refine lo (lop_assign (E rfl)) rfl ?_
      refine lo (lop_assign (E rfl)) rfl ?_
      refine leT ?_
      (refine ctlT ?_)
      (refine ctgT ?_)
      (apply aend; (exact resT))
      · unfold getS
        rw [hlen, if_pos h1]
        exact ⟨rfl, rfl⟩
      · (exact stleT)
    · have hk0 : (lenB l m).2 = 0 := by simpa using h
      obtain ⟨hk1, hk2, hk3⟩ := lenB_ok l m hk0
      have hsv : sv l (lenB l m).1 (lenB l m).1 = if 64 ≤ l[(lenB l m).1 - 1]! % 128 then -1 else 0 := by unfold sv; rw [if_neg (by omega)]
      obtain ⟨j, hj⟩ : ∃ j, (lenB l m).1 = j + 1 := ⟨(lenB l m).1 - 1, by omega⟩
      rw [hj] at hsv P hk1 hk2 hk3 ⊢
      rw [Nat.add_sub_cancel] at hsv
      (refine ctlT ?_)
      refine rgT ?_
      refine lo (lop_move (E rfl)) rfl ?_
      refine lo (lop_assign (E rfl)) rfl ?_
      refine lo (lop_assign (E rfl)) rfl ?_
      refine leT ?_
      (refine ctlT ?_)
      refine rgT ?_
      refine lo (lop_move (E rfl)) rfl ?_
      refine lo (lop_move (E rfl)) rfl ?_
      refine z19 ?_
      rw [show ((j + 1 : Nat) : Int) - 1 = (j : Nat) by omega]
      refine z15 ?_
      refine z16 ?_
      refine lo (lop_and (E rfl) (E rfl)) rfl ?_
      refine lo (lop_neq (E rfl) (E rfl)) rfl ?_
      refine leT ?_
      (refine ctlT ?_)
      rw [Int.toNat_natCast, u8_and64' (getB_lt hlt j)]
      refine sw_cond rfl (fun h => ?_) (fun h => ?_)
      · have h2 : 64 ≤ l[j]! % 128 := by
          by_cases h3 : l[j]! % 128 < 64
          · rw [if_pos h3] at h; simp at h
          · omega
        rw [if_pos h2] at hsv
        refine rgT ?_
        refine lo (lop_assign (E rfl)) rfl ?_
        refine leT ?_
        refine an ?_
        refine P (j + 1) _ ⟨Nat.le_refl _, hk0⟩ ?_
        rw [hsv]
        (exact sgoT)
      · have h2 : ¬ 64 ≤ l[j]! % 128 := by
          by_cases h3 : l[j]! % 128 < 64
          · omega
          · rw [if_neg h3] at h; simp at h
        rw [if_neg h2] at hsv
        refine ck ?_
        refine an ?_
        refine P (j + 1) _ ⟨Nat.le_refl _, hk0⟩ ?_
        rw [hsv]
        (exact sgoT)
theorem mulremS {x : Int} {y : Nat} : IntKind.i64.wrap (IntKind.i64.wrap (x * 128) + IntKind.i64.wrap ((y : Int).tmod 128)) = IntKind.i64.wrap (x * 128 + ((y % 128 : Nat) : Int)) := by
  rw [Int.tmod_eq_emod_of_nonneg (by omega), IntKind.wrap_i64, IntKind.wrap_i64, IntKind.wrap_i64, IntKind.wrap_i64]; omega
theorem rem128 {y : Nat} : IntKind.i64.wrap ((y : Int).tmod 128) = ((y % 128 : Nat) : Int) := by
  rw [Int.tmod_eq_emod_of_nonneg (by omega), IntKind.wrap_i64]; omega
set_option maxRecDepth 100000 in
theorem ref_GetS (l : List Nat) (hl : l.length ≤ 1000000) (hlt : ∀ x ∈ l, x < 256) (bits : Nat) (hb : bits = 32 ∨ bits = 64) : SCall Try.prog 75 [.ro 1 (l.map encU) .any, .int .i64 bits] []
    (fun x σ => x = .tup [.int .i64 (getS bits l).1, .int .i64 ((getS bits l).2.1 : Nat), .int .i64 (getS bits l).2.2] ∧ σ = []) := by
  refine scall_of (n := 82) (ks := [0, 1, 4, 5, 6, 7, 8, 9, 10, 16, 24, 34, 40, 79]) Try.func75 rfl rfl (Nat.le_of_ble_eq_true rfl) ?_
  obtain ⟨m, hm⟩ : ∃ m, m = mostS bits := ⟨_, rfl⟩
  have hlen : lenB l (mostS bits) = lenB l m := by rw [hm]
  (refine ctlT ?_)
  refine rgT ?_
  refine lo (lop_assign (E rfl)) rfl ?_
  refine lo (lop_assign (E rfl)) rfl ?_
  refine lo (lop_assign (E rfl)) rfl ?_
  refine leT ?_
  (refine ctlT ?_)
  refine rgT ?_
  refine lo (lop_move (E rfl)) rfl ?_
  refine lo (lop_lss (E rfl) (E rfl)) rfl ?_
  refine lo (lop_move (E rfl)) rfl ?_
  refine z4 ?_
  refine z18 ?_
  refine z13 ?_
  refine leT ?_
  (refine ctlT ?_)
  refine sw_cond rfl (fun h => ?_) (fun h => ?_)
  · exfalso; simp at h; omega
  (refine ctlT ?_)
  refine rgT ?_
  refine lo (lop_move (E rfl)) rfl ?_
  refine lo (lop_move (E rfl)) rfl ?_
  (first | refine pu [] Try.call76 (ref_whole l hl bits m (by rw [hm]; exact mostS_eq hb)) rfl argsT nofT ?_ | refine pug [] rfl rfl Try.call76 (fun _ => (ref_whole l hl bits m (by rw [hm]; exact mostS_eq hb))) rfl argsT nofT ?_)
  refine lo (lop_move (E rfl)) rfl ?_
  refine lo (lop_extract (E rfl) rfl) rfl ?_
  refine lo (lop_extract (E rfl) rfl) rfl ?_
  refine lo (lop_assign (E rfl)) rfl ?_
  refine lo (lop_assign (E rfl)) rfl ?_
  refine leT ?_
  (refine ctlT ?_)
  refine rgT ?_
  refine lo (lop_move (E rfl)) rfl ?_
  refine lo (lop_neq (E rfl) (E rfl)) rfl ?_
  refine leT ?_
  (refine ctlT ?_)
  refine sw_cond rfl (fun h => ?_) (fun h => ?_)
  · have h1 : (lenB l m).2 ≠ 0 := by simpa using h
    (refine ctlT ?_)
    refine rgT ?_
    refine lo (lop_move (E rfl)) rfl ?_
    refine lo (lop_assign (E rfl)) rfl ?_
    refine lo (lop_assign (E rfl)) rfl ?_
    refine lo (lop_assign (E rfl)) rfl ?_
    refine leT ?_
    (refine ctlT ?_)
    (apply aend; (exact resT))
    · unfold getS
      rw [hlen, if_pos h1]
      exact ⟨rfl, rfl⟩
    · (exact stleT)
  have hk0 : (lenB l m).2 = 0 := by simpa using h
  obtain ⟨hk1, hk2, hk3⟩ := lenB_ok l m hk0
  obtain ⟨j, hj⟩ : ∃ j, (lenB l m).1 = j + 1 := ⟨(lenB l m).1 - 1, by omega⟩
  rw [hj] at hk1 hk2 hk3 ⊢
  have hs := sv_last hk3
  have hz := sv_zero (l := l) hk1
  (refine ctlT ?_)
  refine rgT ?_
  refine lo (lop_move (E rfl)) rfl ?_
  refine lo (lop_move (E rfl)) rfl ?_
  refine z19 ?_
  rw [show ((j + 1 : Nat) : Int) - 1 = (j : Nat) by omega]
  refine z15 ?_
  refine z16 ?_
  refine z22 ?_
  refine z44 ?_
  refine lo (lop_assign (E rfl)) rfl ?_
  refine leT ?_
  refine an ?_
  rw [Int.toNat_natCast, rem128]
  refine sj (fun _ : Unit => ⟨[(0, .ro 1 (l.map encU) .any), (1, .int .i64 bits), (7, .int .i64 ((j + 1 : Nat) : Int)), (9, .int .i64 (sv l (j + 1) j))], []⟩) (fun _ => True) ?_ (fun _ _ => ?_)
  · (refine ctlT ?_)
    refine rgT ?_
    refine lo (lop_move (E rfl)) rfl ?_
    refine lo (lop_geq (E rfl) (E rfl)) rfl ?_
    refine leT ?_
    (refine ctlT ?_)
    refine sw_cond rfl (fun h => ?_) (fun h => ?_)
    · rw [if_pos (by have := of_decide_eq_true h; omega)] at hs
      (refine ctlT ?_)
      refine rgT ?_
      refine lo (lop_move (E rfl)) rfl ?_
      refine z19 ?_
      refine lo (lop_assign (E rfl)) rfl ?_
      refine leT ?_
      (refine ctlT ?_)
      rw [hs]
      refine ⟨(), trivial, ?_⟩
      (exact sgoT)
    · rw [if_neg (by have := of_decide_eq_false h; omega)] at hs
      (refine ctlT ?_)
      rw [hs]
      refine ⟨(), trivial, ?_⟩
      (exact sgoT)
  (refine ctlT ?_)
  refine rgT ?_
  refine lo (lop_move (E rfl)) rfl ?_
  refine z19 ?_
  refine lo (lop_assign (E rfl)) rfl ?_
  refine leT ?_
  (refine ctlT ?_)
  rw [show ((j + 1 : Nat) : Int) - 2 = (j : Int) - 1 by omega]
  refine lp (β := Nat) (fun b => ⟨[(0, .ro 1 (l.map encU) .any), (1, .int .i64 bits), (7, .int .i64 ((j + 1 : Nat) : Int)), (9, .int .i64 (sv l (j + 1) b)), (10, .int .i64 ((b : Int) - 1))], []⟩) (fun b => b ≤ j) (fun b => b) j (by (exact sgoT)) (Nat.le_refl _) ?_
  intro n hn
  try dsimp only at hn ⊢
  (refine ctlT ?_)
  refine rgT ?_
  refine lo (lop_move (E rfl)) rfl ?_
  refine lo (lop_geq (E rfl) (E rfl)) rfl ?_
  refine leT ?_
  (refine ctlT ?_)
  refine sw_cond rfl (fun h => ?_) (fun h => ?_)
  · obtain ⟨c, rfl⟩ : ∃ c, n = c + 1 := ⟨n - 1, by simp at h; omega⟩
    rw [show ((c + 1 : Nat) : Int) - 1 = (c : Nat) by omega]
    (refine ctlT ?_)
    refine rgT ?_
    refine lo (lop_move (E rfl)) rfl ?_
    refine lo (lop_mul (E rfl) (E rfl)) rfl ?_
    refine lo (lop_move (E rfl)) rfl ?_
    refine lo (lop_move (E rfl)) rfl ?_
    refine z15 ?_
    refine z16 ?_
    refine z22 ?_
    refine z44 ?_
    refine z17 ?_
    refine lo (lop_assign (E rfl)) rfl ?_
    refine leT ?_
    (refine ctlT ?_)
    rw [Int.toNat_natCast, mulremS, ← sv_step (by omega) hk3]
    refine rgT ?_
    refine lo (lop_move (E rfl)) rfl ?_
    refine z19 ?_
    refine lo (lop_assign (E rfl)) rfl ?_
    refine leT ?_
    (refine ctlT ?_)
    refine ⟨c, by omega, by omega, ?_⟩
    (exact sgoT)
  obtain rfl : n = 0 := by simp at h; omega
  rw [hz]
  have hv := valS_bd (l.take (j + 1))
  generalize hx : valS (l.take (j + 1)) = x at hv ⊢
  (refine ctlT ?_)
  refine rgD [(0, true), (1, true), (2, true), (3, true), (4, true), (5, true), (6, true), (7, true), (8, true), (9, true), (10, true), (11, true), (12, true), (13, true), (14, true), (15, true), (16, true), (17, true), (18, true), (19, true), (22, true), (23, true), (24, true), (25, true), (20, false), (21, true), (26, true), (27, true)] ?_
  refine dlo rfl (lop_move (E rfl)) rfl ?_
  refine z46 ?_
  refine dlo rfl (lop_move (E rfl)) rfl ?_
  refine z26 ?_
  refine z26 ?_
  refine z47 ?_
  refine z48 ?_
  refine z49 ?_
  refine z50 ?_
  refine z28 ?_
  refine z29 ?_
  refine z29 ?_
  refine z51 ?_
  refine z35 ?_
  refine z36 ?_
  refine z37 ?_
  refine z52 ?_
  refine z53 ?_
  refine dlo rfl (lop_move (E rfl)) rfl ?_
  have hE : (if decide ((bits : Int) < 64) = true then if decide (x < IntKind.i64.wrap (-1 * 2 ^ min ((bits : Int) - 1).toNat IntKind.i64.bits)) = true then true else decide (IntKind.i64.wrap (1 * 2 ^ min ((bits : Int) - 1).toNat IntKind.i64.bits) ≤ x) else false) = decide (¬ (bits = 32 → -2147483648 ≤ x ∧ x ≤ 2147483647)) := by
    rcases hb with rfl | rfl
    · rw [show IntKind.i64.wrap (-1 * 2 ^ min (((32 : Nat) : Int) - 1).toNat IntKind.i64.bits) = -2147483648 by decide, show IntKind.i64.wrap (1 * 2 ^ min (((32 : Nat) : Int) - 1).toNat IntKind.i64.bits) = 2147483648 by decide]
      by_cases h1 : x < -2147483648
      · rw [decide_eq_true (p := ¬ (32 = 32 → -2147483648 ≤ x ∧ x ≤ 2147483647)) (by omega)]; simp [h1]
      · by_cases h3 : 2147483648 ≤ x
        · rw [decide_eq_true (p := ¬ (32 = 32 → -2147483648 ≤ x ∧ x ≤ 2147483647)) (by omega)]; simp [h1, h3]
        · rw [decide_eq_false (p := ¬ (32 = 32 → -2147483648 ≤ x ∧ x ≤ 2147483647)) (by omega)]; simp [h1, h3]
    · simp
  rw [hE]
  by_cases h2 : bits = 32 → -2147483648 ≤ x ∧ x ≤ 2147483647
  · rw [show decide (¬ (bits = 32 → -2147483648 ≤ x ∧ x ≤ 2147483647)) = false from decide_eq_false (by simpa using h2)]
    refine z38 ?_
    refine z38 ?_
    refine z38 ?_
    refine z39 ?_
    rw [show List.take (j + 1 - 0) (List.drop 0 (l.map encU)) = (l.take (j + 1)).map encU by rw [Nat.sub_zero, List.drop_zero, List.map_take]]
    refine dly rfl rfl rfl (lop_bytes_ro (e := 5) (bs := l.take (j + 1)) (E rfl)) rfl ?_
    refine dcwy [] rfl rfl rfl Try.call49 (ref_S x hv) rfl ?_ ?_ ?_ ?_
    · (exact argsleT)
    · (exact stleT)
    · (exact hbtT)
    rintro _ σ' ⟨r, rfl, rfl⟩ hr
    replace hr := cnewT hr; (repeat (rcases hr with ⟨_, hr⟩))
    (apply rd_sto; (exact nflT))
    refine dly rfl rfl rfl (lop_bytes_own (e := 5) (bs := sB x) (bs' := sB x) (E rfl) sgT (by omega) (by rw [List.drop_zero]; exact List.take_of_length_le (by omega))) rfl ?_
    refine z40 ?_
    refine z41 ?_
    refine deT ?_
    (refine ctlT ?_)
    rw [strU_inj (sB_lt _ x (Nat.le_refl _)) (fun y hy => hlt y (List.mem_of_mem_take hy))]
    refine sw_cond rfl (fun h => ?_) (fun h => ?_)
    · have h1 : ¬ (sB x = l.take (j + 1) ∧ (bits = 32 → -2147483648 ≤ x ∧ x ≤ 2147483647)) := by
        rintro ⟨h1, h2⟩
        simp [h1] at h
      rw [← hx] at h1
      (refine ctlT ?_)
      refine rgT ?_
      refine lo (lop_assign (E rfl)) rfl ?_
      refine lo (lop_assign (E rfl)) rfl ?_
      refine lo (lop_assign (E rfl)) rfl ?_
      refine leT ?_
      (refine ctlT ?_)
      (apply aend; (exact resT))
      · rw [getS_no (by rw [hlen]; exact hk0) (by rw [hlen]; exact hj) h1]
        exact ⟨rfl, rfl⟩
      · (exact stleT)
    · have h1 : sB x = l.take (j + 1) ∧ (bits = 32 → -2147483648 ≤ x ∧ x ≤ 2147483647) := ⟨by simpa using h, h2⟩
      rw [← hx] at h1
      (refine ctlT ?_)
      refine rgT ?_
      refine lo (lop_move (E rfl)) rfl ?_
      refine lo (lop_move (E rfl)) rfl ?_
      refine lo (lop_assign (E rfl)) rfl ?_
      refine lo (lop_assign (E rfl)) rfl ?_
      refine lo (lop_assign (E rfl)) rfl ?_
      refine leT ?_
      (refine ctlT ?_)
      (apply aend; (exact resT))
      · rw [getS_yes (by rw [hlen]; exact hk0) (by rw [hlen]; exact hj) h1, hx]
        exact ⟨rfl, rfl⟩
      · (exact stleT)
  · rw [show decide (¬ (bits = 32 → -2147483648 ≤ x ∧ x ≤ 2147483647)) = true from decide_eq_true (by simpa using h2)]
    have h1 : ¬ (sB x = l.take (j + 1) ∧ (bits = 32 → -2147483648 ≤ x ∧ x ≤ 2147483647)) := fun hh => h2 hh.2
    rw [← hx] at h1
    refine z26 ?_
    refine z26 ?_
    refine z26 ?_
    refine z42 ?_
    refine dln rfl rfl rfl rfl rfl ?_
    refine rd_heavy_no rfl rfl rfl rfl rfl ?_
    refine dln rfl rfl rfl rfl rfl ?_
    refine z43 ?_
    refine z33 ?_
    refine deT ?_
    (refine ctlT ?_)
    refine rgT ?_
    refine lo (lop_assign (E rfl)) rfl ?_
    refine lo (lop_assign (E rfl)) rfl ?_
    refine lo (lop_assign (E rfl)) rfl ?_
    refine leT ?_
    (refine ctlT ?_)
    (apply aend; (exact resT))
    · rw [getS_no (by rw [hlen]; exact hk0) (by rw [hlen]; exact hj) h1]
      exact ⟨rfl, rfl⟩
    · (exact stleT)
end Go.Proofs.Ytkjfflabapeidaa
/-
  Which instructions there are: kinds, forms.
-/
namespace Go.Proofs.Ytkjfflabapeidaa
open Go.RowKit Go.ChangeShapes Go.WideShapes Go.ChangeAt Go.Deep
set_option linter.unusedSimpArgs false
set_option linter.unusedVariables false
attribute [local irreducible] SW RS RD AThen ABlock

def encI (n : Int) : List AV := [.int .i64 n]
def bt2 (n a b : Int) : Bool := if decide (a ≤ n) = true then decide (n ≤ b) else false
set_option maxRecDepth 100000 in
theorem ints_between (n a b : Int) : SCall Try.prog 71 [.int .i64 n, .int .i64 a, .int .i64 b] [] (fun x σ => x = .bool (bt2 n a b) ∧ σ = []) := by
  refine scall_of (n := 15) (ks := [0, 1, 2, 6]) Try.func71 rfl rfl (Nat.le_of_ble_eq_true rfl) ?_
  (refine ctlT ?_)
  refine rgT ?_
  refine lo (lop_assign (E rfl)) rfl ?_
  refine leT ?_
  (refine ctlT ?_)
  refine rgT ?_
  refine lo (lop_move (E rfl)) rfl ?_
  refine lo (lop_move (E rfl)) rfl ?_
  refine lo (lop_geq (E rfl) (E rfl)) rfl ?_
  refine lo (lop_move (E rfl)) rfl ?_
  refine z4 ?_
  refine z4 ?_
  refine z54 ?_
  refine z7 ?_
  refine lo (lop_assign (E rfl)) rfl ?_
  refine leT ?_
  (refine ctlT ?_)
  (apply aend; (exact resT))
  · exact ⟨rfl, rfl⟩
  · (exact stleT)
/-- which it is as one of 32 bits, and its kind; 0: none -/
def ofN (op : Int) : Int × Int :=
  if (bt2 op 69 79 || bt2 op 103 120) = true then (1, op) else if bt2 op 80 90 = true then (2, IntKind.i64.wrap (IntKind.i64.wrap (op - 80) + 69)) else if bt2 op 121 138 = true then (2, IntKind.i64.wrap (IntKind.i64.wrap (op - 121) + 103)) else (0, 0)
set_option maxRecDepth 100000 in
theorem ints_of (op : Int) : SCall Try.prog 70 [.int .i64 op] [] (fun x σ => x = .tup [.int .i64 (ofN op).1, .int .i64 (ofN op).2] ∧ σ = []) := by
  refine scall_of (n := 22) (ks := [0, 2, 3, 4, 10, 16]) Try.func70 rfl rfl (Nat.le_of_ble_eq_true rfl) ?_
  (refine ctlT ?_)
  refine rgT ?_
  refine lo (lop_assign (E rfl)) rfl ?_
  refine lo (lop_assign (E rfl)) rfl ?_
  refine leT ?_
  (refine ctlT ?_)
  refine rgT ?_
  refine lo (lop_move (E rfl)) rfl ?_
  (first | refine ln rfl rfl rfl rfl ?_ | refine lw rfl rfl (lop_no (v := .bool false)) rfl ?_ | refine pu [] Try.call71 (ints_between _ _ _) rfl argsT nofT ?_ | refine pug [] rfl rfl Try.call71 (fun _ => (ints_between _ _ _)) rfl argsT nofT ?_ | refine puw [] rfl rfl Try.call71 (fun _ => (ints_between _ _ _)) rfl argsT nofT ?_)
  refine lo (lop_assign (E rfl)) rfl ?_
  refine leT ?_
  (refine ctlT ?_)
  apply sw_orr rfl; exact fdelT
  · intro _; (refine ctlT ?_)
    refine rgT ?_
    refine lo (lop_move (E rfl)) rfl ?_
    (first | refine ln rfl rfl rfl rfl ?_ | refine lw rfl rfl (lop_no (v := .bool false)) rfl ?_ | refine pu [] Try.call71 (ints_between _ _ _) rfl argsT nofT ?_ | refine pug [] rfl rfl Try.call71 (fun _ => (ints_between _ _ _)) rfl argsT nofT ?_ | refine puw [] rfl rfl Try.call71 (fun _ => (ints_between _ _ _)) rfl argsT nofT ?_)
    refine lo (lop_assign (E rfl)) rfl ?_
    refine leT ?_
    (refine ctlT ?_)
    (exact sgoT)
  (refine ctlT ?_)
  refine sw_cond rfl (fun g1 => ?_) (fun g1 => ?_)
  · (refine ctlT ?_)
    refine rgT ?_
    refine lo (lop_move (E rfl)) rfl ?_
    refine lo (lop_assign (E rfl)) rfl ?_
    refine lo (lop_assign (E rfl)) rfl ?_
    refine leT ?_
    (refine ctlT ?_)
    (apply aend; (exact resT))
    · (unfold ofN; simp only [g1, if_true, if_false, Bool.false_eq_true]; exact ⟨rfl, rfl⟩)
    · (exact stleT)
  (refine ctlT ?_)
  refine rgT ?_
  refine lo (lop_move (E rfl)) rfl ?_
  (first | refine ln rfl rfl rfl rfl ?_ | refine lw rfl rfl (lop_no (v := .bool false)) rfl ?_ | refine pu [] Try.call71 (ints_between _ _ _) rfl argsT nofT ?_ | refine pug [] rfl rfl Try.call71 (fun _ => (ints_between _ _ _)) rfl argsT nofT ?_ | refine puw [] rfl rfl Try.call71 (fun _ => (ints_between _ _ _)) rfl argsT nofT ?_)
  refine lo (lop_assign (E rfl)) rfl ?_
  refine leT ?_
  (refine ctlT ?_)
  refine sw_cond rfl (fun g2 => ?_) (fun g2 => ?_)
  · (refine ctlT ?_)
    refine rgT ?_
    refine lo (lop_move (E rfl)) rfl ?_
    refine z19 ?_
    refine z17 ?_
    refine lo (lop_assign (E rfl)) rfl ?_
    refine lo (lop_assign (E rfl)) rfl ?_
    refine leT ?_
    (refine ctlT ?_)
    (apply aend; (exact resT))
    · (unfold ofN; simp only [g1, g2, if_true, if_false, Bool.false_eq_true]; exact ⟨rfl, rfl⟩)
    · (exact stleT)
  (refine ctlT ?_)
  refine rgT ?_
  refine lo (lop_move (E rfl)) rfl ?_
  (first | refine ln rfl rfl rfl rfl ?_ | refine lw rfl rfl (lop_no (v := .bool false)) rfl ?_ | refine pu [] Try.call71 (ints_between _ _ _) rfl argsT nofT ?_ | refine pug [] rfl rfl Try.call71 (fun _ => (ints_between _ _ _)) rfl argsT nofT ?_ | refine puw [] rfl rfl Try.call71 (fun _ => (ints_between _ _ _)) rfl argsT nofT ?_)
  refine lo (lop_assign (E rfl)) rfl ?_
  refine leT ?_
  (refine ctlT ?_)
  refine sw_cond rfl (fun g3 => ?_) (fun g3 => ?_)
  · (refine ctlT ?_)
    refine rgT ?_
    refine lo (lop_move (E rfl)) rfl ?_
    refine z19 ?_
    refine z17 ?_
    refine lo (lop_assign (E rfl)) rfl ?_
    refine lo (lop_assign (E rfl)) rfl ?_
    refine leT ?_
    (refine ctlT ?_)
    (apply aend; (exact resT))
    · (unfold ofN; simp only [g1, g2, g3, if_true, if_false, Bool.false_eq_true]; exact ⟨rfl, rfl⟩)
    · (exact stleT)
  (refine ctlT ?_)
  refine rgT ?_
  refine lo (lop_assign (E rfl)) rfl ?_
  refine lo (lop_assign (E rfl)) rfl ?_
  refine leT ?_
  (refine ctlT ?_)
  (apply aend; (exact resT))
  · (unfold ofN; simp only [g1, g2, g3, if_true, if_false, Bool.false_eq_true]; exact ⟨rfl, rfl⟩)
  · (exact stleT)
/-- what an instruction takes and makes; is it one? -/
def kN (op : Int) : List Int × Int × Bool :=
  if (op == 167) = true then ([2], 1, true) else if (op == 172 || op == 173) = true then ([1], 2, true)
  else if ((ofN op).1 == 0) = true then ([], 0, false) else if ((ofN op).2 == 69) = true then ([(ofN op).1], 1, true)
  else if bt2 (ofN op).2 70 79 = true then ([(ofN op).1, (ofN op).1], 1, true) else if bt2 (ofN op).2 103 105 = true then ([(ofN op).1], (ofN op).1, true)
  else ([(ofN op).1, (ofN op).1], (ofN op).1, true)
def kindsR (r : List Int × Int × Bool) (x : AV) (σ : Sto) : Prop :=
  if r.2.2 = true then ∃ q, x = .tup [.own q 0 r.1.length, .int .i64 r.2.1, .bool true] ∧ σ = [(q, .arr 3 1 (r.1.map encI))] else x = .tup [.ro 0 [] .nil, .int .i64 0, .bool false] ∧ σ = []
theorem kindsR_yes {l : List Int} {r : Int} {q : Nat} {x : AV} {σ : Sto} (hx : x = .tup [.own q 0 l.length, .int .i64 r, .bool true]) (hs : σ = [(q, .arr 3 1 (l.map encI))]) : kindsR (l, r, true) x σ := by
  unfold kindsR; rw [if_pos rfl]; exact ⟨q, hx, hs⟩
theorem kindsR_no {l : List Int} {r : Int} {x : AV} {σ : Sto} (hx : x = .tup [.ro 0 [] .nil, .int .i64 0, .bool false]) (hs : σ = []) : kindsR (l, r, false) x σ := by
  unfold kindsR; rw [if_neg (by simp)]; exact ⟨hx, hs⟩
set_option maxRecDepth 100000 in
theorem ints_kinds (op : Int) : SCall Try.prog 60 [.int .i64 op] [] (kindsR (kN op)) := by
  refine scall_of (n := 44) (ks := [0, 2, 3, 4, 5, 6, 7, 8, 11, 20, 23, 28, 34]) Try.func60 rfl rfl (Nat.le_of_ble_eq_true rfl) ?_
  (refine ctlT ?_)
  refine rgT ?_
  refine lo (lop_assign (E rfl)) rfl ?_
  refine lo (lop_assign (E rfl)) rfl ?_
  refine lo (lop_assign (E rfl)) rfl ?_
  refine leT ?_
  (refine ctlT ?_)
  refine rgT ?_
  refine lo (lop_move (E rfl)) rfl ?_
  refine leT ?_
  (refine ctlT ?_)
  refine rgT ?_
  refine lo (lop_eql (E rfl) (E rfl)) rfl ?_
  refine lo (lop_assign (E rfl)) rfl ?_
  refine leT ?_
  (refine ctlT ?_)
  refine sw_cond rfl (fun g1 => ?_) (fun g1 => ?_)
  · (refine ctlT ?_)
    refine rgT ?_
    refine z1 ?_; refine freshT fun r10 h10 => ?_; (repeat (rcases h10 with ⟨_, h10⟩))
    refine lo (lop_assign (E rfl)) rfl ?_
    refine lo (lop_assign (E rfl)) rfl ?_
    refine lo (lop_assign (E rfl)) rfl ?_
    refine leT ?_
    (refine ctlT ?_)
    (apply aend; (exact resT))
    · (unfold kN; simp only [g1, if_true, if_false, Bool.false_eq_true]; first | exact kindsR_yes rfl rfl | exact kindsR_no rfl rfl)
    · (exact stleT)
  (refine ctlT ?_)
  refine rgT ?_
  refine lo (lop_eql (E rfl) (E rfl)) rfl ?_
  refine lo (lop_assign (E rfl)) rfl ?_
  refine leT ?_
  (refine ctlT ?_)
  apply sw_orr rfl; exact fdelT
  · intro _; (refine ctlT ?_)
    refine rgT ?_
    refine lo (lop_eql (E rfl) (E rfl)) rfl ?_
    refine lo (lop_assign (E rfl)) rfl ?_
    refine leT ?_
    (refine ctlT ?_)
    (exact sgoT)
  (refine ctlT ?_)
  refine sw_cond rfl (fun g2 => ?_) (fun g2 => ?_)
  · (refine ctlT ?_)
    refine rgT ?_
    refine z1 ?_; refine freshT fun r14 h14 => ?_; (repeat (rcases h14 with ⟨_, h14⟩))
    refine lo (lop_assign (E rfl)) rfl ?_
    refine lo (lop_assign (E rfl)) rfl ?_
    refine lo (lop_assign (E rfl)) rfl ?_
    refine leT ?_
    (refine ctlT ?_)
    (apply aend; (exact resT))
    · (unfold kN; simp only [g1, g2, if_true, if_false, Bool.false_eq_true]; first | exact kindsR_yes rfl rfl | exact kindsR_no rfl rfl)
    · (exact stleT)
  (refine ctlT ?_)
  refine rgT ?_
  refine lo (lop_move (E rfl)) rfl ?_
  (first | refine ln rfl rfl rfl rfl ?_ | refine lw rfl rfl (lop_no (v := .bool false)) rfl ?_ | refine pu [] Try.call70 (ints_of _) rfl argsT nofT ?_ | refine pug [] rfl rfl Try.call70 (fun _ => (ints_of _)) rfl argsT nofT ?_ | refine puw [] rfl rfl Try.call70 (fun _ => (ints_of _)) rfl argsT nofT ?_)
  refine lo (lop_move (E rfl)) rfl ?_
  refine lo (lop_extract (E rfl) rfl) rfl ?_
  refine lo (lop_extract (E rfl) rfl) rfl ?_
  refine lo (lop_assign (E rfl)) rfl ?_
  refine lo (lop_assign (E rfl)) rfl ?_
  refine leT ?_
  (refine ctlT ?_)
  refine rgT ?_
  refine lo (lop_move (E rfl)) rfl ?_
  refine lo (lop_eql (E rfl) (E rfl)) rfl ?_
  refine lo (lop_assign (E rfl)) rfl ?_
  refine leT ?_
  (refine ctlT ?_)
  refine sw_cond rfl (fun g3 => ?_) (fun g3 => ?_)
  · (refine ctlT ?_)
    refine rgT ?_
    refine lo (lop_assign (E rfl)) rfl ?_
    refine lo (lop_assign (E rfl)) rfl ?_
    refine lo (lop_assign (E rfl)) rfl ?_
    refine leT ?_
    (refine ctlT ?_)
    (apply aend; (exact resT))
    · (unfold kN; simp only [g1, g2, g3, if_true, if_false, Bool.false_eq_true]; first | exact kindsR_yes rfl rfl | exact kindsR_no rfl rfl)
    · (exact stleT)
  (refine ctlT ?_)
  refine rgT ?_
  refine lo (lop_move (E rfl)) rfl ?_
  refine lo (lop_eql (E rfl) (E rfl)) rfl ?_
  refine lo (lop_assign (E rfl)) rfl ?_
  refine leT ?_
  (refine ctlT ?_)
  refine sw_cond rfl (fun g4 => ?_) (fun g4 => ?_)
  · (refine ctlT ?_)
    refine rgT ?_
    refine lo (lop_move (E rfl)) rfl ?_
    refine z1 ?_; refine freshT fun r27 h27 => ?_; (repeat (rcases h27 with ⟨_, h27⟩))
    refine lo (lop_assign (E rfl)) rfl ?_
    refine lo (lop_assign (E rfl)) rfl ?_
    refine lo (lop_assign (E rfl)) rfl ?_
    refine leT ?_
    (refine ctlT ?_)
    (apply aend; (exact resT))
    · (unfold kN; simp only [g1, g2, g3, g4, if_true, if_false, Bool.false_eq_true]; first | exact kindsR_yes rfl rfl | exact kindsR_no rfl rfl)
    · (exact stleT)
  (refine ctlT ?_)
  refine rgT ?_
  refine lo (lop_move (E rfl)) rfl ?_
  (first | refine ln rfl rfl rfl rfl ?_ | refine lw rfl rfl (lop_no (v := .bool false)) rfl ?_ | refine pu [] Try.call71 (ints_between _ _ _) rfl argsT nofT ?_ | refine pug [] rfl rfl Try.call71 (fun _ => (ints_between _ _ _)) rfl argsT nofT ?_ | refine puw [] rfl rfl Try.call71 (fun _ => (ints_between _ _ _)) rfl argsT nofT ?_)
  refine lo (lop_assign (E rfl)) rfl ?_
  refine leT ?_
  (refine ctlT ?_)
  refine sw_cond rfl (fun g5 => ?_) (fun g5 => ?_)
  · (refine ctlT ?_)
    refine rgT ?_
    refine lo (lop_move (E rfl)) rfl ?_
    refine lo (lop_move (E rfl)) rfl ?_
    refine z1 ?_; refine freshT fun r33 h33 => ?_; (repeat (rcases h33 with ⟨_, h33⟩))
    refine lo (lop_assign (E rfl)) rfl ?_
    refine lo (lop_assign (E rfl)) rfl ?_
    refine lo (lop_assign (E rfl)) rfl ?_
    refine leT ?_
    (refine ctlT ?_)
    (apply aend; (exact resT))
    · (unfold kN; simp only [g1, g2, g3, g4, g5, if_true, if_false, Bool.false_eq_true]; first | exact kindsR_yes rfl rfl | exact kindsR_no rfl rfl)
    · (exact stleT)
  (refine ctlT ?_)
  refine rgT ?_
  refine lo (lop_move (E rfl)) rfl ?_
  (first | refine ln rfl rfl rfl rfl ?_ | refine lw rfl rfl (lop_no (v := .bool false)) rfl ?_ | refine pu [] Try.call71 (ints_between _ _ _) rfl argsT nofT ?_ | refine pug [] rfl rfl Try.call71 (fun _ => (ints_between _ _ _)) rfl argsT nofT ?_ | refine puw [] rfl rfl Try.call71 (fun _ => (ints_between _ _ _)) rfl argsT nofT ?_)
  refine lo (lop_assign (E rfl)) rfl ?_
  refine leT ?_
  (refine ctlT ?_)
  refine sw_cond rfl (fun g6 => ?_) (fun g6 => ?_)
  · (refine ctlT ?_)
    refine rgT ?_
    refine lo (lop_move (E rfl)) rfl ?_
    refine z1 ?_; refine freshT fun r38 h38 => ?_; (repeat (rcases h38 with ⟨_, h38⟩))
    refine lo (lop_move (E rfl)) rfl ?_
    refine lo (lop_assign (E rfl)) rfl ?_
    refine lo (lop_assign (E rfl)) rfl ?_
    refine lo (lop_assign (E rfl)) rfl ?_
    refine leT ?_
    (refine ctlT ?_)
    (apply aend; (exact resT))
    · (unfold kN; simp only [g1, g2, g3, g4, g5, g6, if_true, if_false, Bool.false_eq_true]; first | exact kindsR_yes rfl rfl | exact kindsR_no rfl rfl)
    · (exact stleT)
  (refine ctlT ?_)
  refine rgT ?_
  refine lo (lop_move (E rfl)) rfl ?_
  refine lo (lop_move (E rfl)) rfl ?_
  refine z1 ?_; refine freshT fun r42 h42 => ?_; (repeat (rcases h42 with ⟨_, h42⟩))
  refine lo (lop_move (E rfl)) rfl ?_
  refine lo (lop_assign (E rfl)) rfl ?_
  refine lo (lop_assign (E rfl)) rfl ?_
  refine lo (lop_assign (E rfl)) rfl ?_
  refine leT ?_
  (refine ctlT ?_)
  (apply aend; (exact resT))
  · (unfold kN; simp only [g1, g2, g3, g4, g5, g6, if_true, if_false, Bool.false_eq_true]; first | exact kindsR_yes rfl rfl | exact kindsR_no rfl rfl)
  · (exact stleT)
def clsN (op : Int) : Int × Int :=
  if (bt2 op 69 79 || bt2 op 103 120) = true then (op, 1) else if bt2 op 80 90 = true then (IntKind.i64.wrap (IntKind.i64.wrap (op - 80) + 69), 2) else if bt2 op 121 138 = true then (IntKind.i64.wrap (IntKind.i64.wrap (op - 121) + 103), 2)
  else if (op == 167) = true then (op, 2) else if (op == 172 || op == 173) = true then (op, 1) else (0, 0)
set_option maxRecDepth 100000 in
theorem ref_class (op : Int) : SCall Try.prog 69 [.int .i64 op] [] (fun x σ => x = .tup [.int .i64 (clsN op).1, .int .i64 (clsN op).2] ∧ σ = []) := by
  refine scall_of (n := 48) (ks := [0, 2, 3, 4, 18, 28, 38, 42]) Try.func69 rfl rfl (Nat.le_of_ble_eq_true rfl) ?_
  (refine ctlT ?_)
  refine rgT ?_
  refine lo (lop_assign (E rfl)) rfl ?_
  refine lo (lop_assign (E rfl)) rfl ?_
  refine leT ?_
  (refine ctlT ?_)
  refine rgT ?_
  refine lo (lop_move (E rfl)) rfl ?_
  refine lo (lop_geq (E rfl) (E rfl)) rfl ?_
  refine lo (lop_move (E rfl)) rfl ?_
  refine z4 ?_
  refine z55 ?_
  refine z7 ?_
  refine lo (lop_assign (E rfl)) rfl ?_
  refine leT ?_
  (refine ctlT ?_)
  apply sw_orr rfl; exact fdelT
  · intro _; (refine ctlT ?_)
    refine rgT ?_
    refine lo (lop_move (E rfl)) rfl ?_
    refine lo (lop_geq (E rfl) (E rfl)) rfl ?_
    refine lo (lop_move (E rfl)) rfl ?_
    refine z4 ?_
    refine z55 ?_
    refine z7 ?_
    refine lo (lop_assign (E rfl)) rfl ?_
    refine leT ?_
    (refine ctlT ?_)
    (exact sgoT)
  (refine ctlT ?_)
  refine sw_cond rfl (fun g1 => ?_) (fun g1 => ?_)
  · (refine ctlT ?_)
    refine rgT ?_
    refine lo (lop_move (E rfl)) rfl ?_
    refine lo (lop_assign (E rfl)) rfl ?_
    refine lo (lop_assign (E rfl)) rfl ?_
    refine leT ?_
    (refine ctlT ?_)
    (apply aend; (exact resT))
    · (unfold clsN bt2; simp only [g1, if_true, if_false, Bool.false_eq_true]; exact ⟨rfl, rfl⟩)
    · (exact stleT)
  (refine ctlT ?_)
  refine rgT ?_
  refine lo (lop_move (E rfl)) rfl ?_
  refine lo (lop_geq (E rfl) (E rfl)) rfl ?_
  refine lo (lop_move (E rfl)) rfl ?_
  refine z4 ?_
  refine z55 ?_
  refine z7 ?_
  refine lo (lop_assign (E rfl)) rfl ?_
  refine leT ?_
  (refine ctlT ?_)
  refine sw_cond rfl (fun g2 => ?_) (fun g2 => ?_)
  · (refine ctlT ?_)
    refine rgT ?_
    refine lo (lop_move (E rfl)) rfl ?_
    refine z19 ?_
    refine z17 ?_
    refine lo (lop_assign (E rfl)) rfl ?_
    refine lo (lop_assign (E rfl)) rfl ?_
    refine leT ?_
    (refine ctlT ?_)
    (apply aend; (exact resT))
    · (unfold clsN bt2; simp only [g1, g2, if_true, if_false, Bool.false_eq_true]; exact ⟨rfl, rfl⟩)
    · (exact stleT)
  (refine ctlT ?_)
  refine rgT ?_
  refine lo (lop_move (E rfl)) rfl ?_
  refine lo (lop_geq (E rfl) (E rfl)) rfl ?_
  refine lo (lop_move (E rfl)) rfl ?_
  refine z4 ?_
  refine z55 ?_
  refine z7 ?_
  refine lo (lop_assign (E rfl)) rfl ?_
  refine leT ?_
  (refine ctlT ?_)
  refine sw_cond rfl (fun g3 => ?_) (fun g3 => ?_)
  · (refine ctlT ?_)
    refine rgT ?_
    refine lo (lop_move (E rfl)) rfl ?_
    refine z19 ?_
    refine z17 ?_
    refine lo (lop_assign (E rfl)) rfl ?_
    refine lo (lop_assign (E rfl)) rfl ?_
    refine leT ?_
    (refine ctlT ?_)
    (apply aend; (exact resT))
    · (unfold clsN bt2; simp only [g1, g2, g3, if_true, if_false, Bool.false_eq_true]; exact ⟨rfl, rfl⟩)
    · (exact stleT)
  (refine ctlT ?_)
  refine rgT ?_
  refine lo (lop_move (E rfl)) rfl ?_
  refine lo (lop_eql (E rfl) (E rfl)) rfl ?_
  refine lo (lop_assign (E rfl)) rfl ?_
  refine leT ?_
  (refine ctlT ?_)
  refine sw_cond rfl (fun g4 => ?_) (fun g4 => ?_)
  · (refine ctlT ?_)
    refine rgT ?_
    refine lo (lop_move (E rfl)) rfl ?_
    refine lo (lop_assign (E rfl)) rfl ?_
    refine lo (lop_assign (E rfl)) rfl ?_
    refine leT ?_
    (refine ctlT ?_)
    (apply aend; (exact resT))
    · (unfold clsN bt2; simp only [g1, g2, g3, g4, if_true, if_false, Bool.false_eq_true]; exact ⟨rfl, rfl⟩)
    · (exact stleT)
  (refine ctlT ?_)
  refine rgT ?_
  refine lo (lop_move (E rfl)) rfl ?_
  refine lo (lop_eql (E rfl) (E rfl)) rfl ?_
  refine lo (lop_assign (E rfl)) rfl ?_
  refine leT ?_
  (refine ctlT ?_)
  apply sw_orr rfl; exact fdelT
  · intro _; (refine ctlT ?_)
    refine rgT ?_
    refine lo (lop_move (E rfl)) rfl ?_
    refine lo (lop_eql (E rfl) (E rfl)) rfl ?_
    refine lo (lop_assign (E rfl)) rfl ?_
    refine leT ?_
    (refine ctlT ?_)
    (exact sgoT)
  (refine ctlT ?_)
  refine sw_cond rfl (fun g5 => ?_) (fun g5 => ?_)
  · (refine ctlT ?_)
    refine rgT ?_
    refine lo (lop_move (E rfl)) rfl ?_
    refine lo (lop_assign (E rfl)) rfl ?_
    refine lo (lop_assign (E rfl)) rfl ?_
    refine leT ?_
    (refine ctlT ?_)
    (apply aend; (exact resT))
    · (unfold clsN bt2; simp only [g1, g2, g3, g4, g5, if_true, if_false, Bool.false_eq_true]; exact ⟨rfl, rfl⟩)
    · (exact stleT)
  (refine ctlT ?_)
  refine rgT ?_
  refine lo (lop_assign (E rfl)) rfl ?_
  refine lo (lop_assign (E rfl)) rfl ?_
  refine leT ?_
  (refine ctlT ?_)
  (apply aend; (exact resT))
  · (unfold clsN bt2; simp only [g1, g2, g3, g4, g5, if_true, if_false, Bool.false_eq_true]; exact ⟨rfl, rfl⟩)
  · (exact stleT)
def rkN (op : Int) : Int × Int × Int × Bool :=
  if ((clsN op).1 == 0) = true then (0, 0, 0, false) else if ((clsN op).1 == 69) = true then (1, (clsN op).2, 1, true) else if decide ((clsN op).1 ≤ 79) = true then (2, (clsN op).2, 1, true)
  else if decide ((clsN op).1 ≤ 105) = true then (1, (clsN op).2, (clsN op).2, true) else if decide ((clsN op).1 ≤ 120) = true then (2, (clsN op).2, (clsN op).2, true)
  else if ((clsN op).1 == 167) = true then (1, (clsN op).2, 1, true) else (1, (clsN op).2, 2, true)
set_option maxRecDepth 100000 in
theorem ref_kinds (op : Int) : SCall Try.prog 56 [.int .i64 op] [] (fun x σ => x = .tup [.int .i64 (rkN op).1, .int .i64 (rkN op).2.1, .int .i64 (rkN op).2.2.1, .bool (rkN op).2.2.2] ∧ σ = []) := by
  refine scall_of (n := 39) (ks := [0, 2, 3, 4, 5, 6, 7, 13, 16, 20, 24, 29, 34]) Try.func56 rfl rfl (Nat.le_of_ble_eq_true rfl) ?_
  (refine ctlT ?_)
  refine rgT ?_
  refine lo (lop_assign (E rfl)) rfl ?_
  refine lo (lop_assign (E rfl)) rfl ?_
  refine lo (lop_assign (E rfl)) rfl ?_
  refine lo (lop_assign (E rfl)) rfl ?_
  refine leT ?_
  (refine ctlT ?_)
  refine rgT ?_
  refine lo (lop_move (E rfl)) rfl ?_
  (first | refine ln rfl rfl rfl rfl ?_ | refine lw rfl rfl (lop_no (v := .bool false)) rfl ?_ | refine pu [] Try.call69 (ref_class _) rfl argsT nofT ?_ | refine pug [] rfl rfl Try.call69 (fun _ => (ref_class _)) rfl argsT nofT ?_ | refine puw [] rfl rfl Try.call69 (fun _ => (ref_class _)) rfl argsT nofT ?_)
  refine lo (lop_move (E rfl)) rfl ?_
  refine lo (lop_extract (E rfl) rfl) rfl ?_
  refine lo (lop_extract (E rfl) rfl) rfl ?_
  refine lo (lop_assign (E rfl)) rfl ?_
  refine lo (lop_assign (E rfl)) rfl ?_
  refine leT ?_
  (refine ctlT ?_)
  refine rgT ?_
  refine lo (lop_move (E rfl)) rfl ?_
  refine lo (lop_eql (E rfl) (E rfl)) rfl ?_
  refine lo (lop_assign (E rfl)) rfl ?_
  refine leT ?_
  (refine ctlT ?_)
  refine sw_cond rfl (fun g1 => ?_) (fun g1 => ?_)
  · (refine ctlT ?_)
    refine rgT ?_
    refine lo (lop_assign (E rfl)) rfl ?_
    refine lo (lop_assign (E rfl)) rfl ?_
    refine lo (lop_assign (E rfl)) rfl ?_
    refine lo (lop_assign (E rfl)) rfl ?_
    refine leT ?_
    (refine ctlT ?_)
    (apply aend; (exact resT))
    · (unfold rkN; simp only [g1, if_true, if_false, Bool.false_eq_true]; exact ⟨rfl, rfl⟩)
    · (exact stleT)
  (refine ctlT ?_)
  refine rgT ?_
  refine lo (lop_move (E rfl)) rfl ?_
  refine lo (lop_eql (E rfl) (E rfl)) rfl ?_
  refine lo (lop_assign (E rfl)) rfl ?_
  refine leT ?_
  (refine ctlT ?_)
  refine sw_cond rfl (fun g2 => ?_) (fun g2 => ?_)
  · (refine ctlT ?_)
    refine rgT ?_
    refine lo (lop_move (E rfl)) rfl ?_
    refine lo (lop_assign (E rfl)) rfl ?_
    refine lo (lop_assign (E rfl)) rfl ?_
    refine lo (lop_assign (E rfl)) rfl ?_
    refine lo (lop_assign (E rfl)) rfl ?_
    refine leT ?_
    (refine ctlT ?_)
    (apply aend; (exact resT))
    · (unfold rkN; simp only [g1, g2, if_true, if_false, Bool.false_eq_true]; exact ⟨rfl, rfl⟩)
    · (exact stleT)
  (refine ctlT ?_)
  refine rgT ?_
  refine lo (lop_move (E rfl)) rfl ?_
  refine lo (lop_leq (E rfl) (E rfl)) rfl ?_
  refine lo (lop_assign (E rfl)) rfl ?_
  refine leT ?_
  (refine ctlT ?_)
  refine sw_cond rfl (fun g3 => ?_) (fun g3 => ?_)
  · (refine ctlT ?_)
    refine rgT ?_
    refine lo (lop_move (E rfl)) rfl ?_
    refine lo (lop_assign (E rfl)) rfl ?_
    refine lo (lop_assign (E rfl)) rfl ?_
    refine lo (lop_assign (E rfl)) rfl ?_
    refine lo (lop_assign (E rfl)) rfl ?_
    refine leT ?_
    (refine ctlT ?_)
    (apply aend; (exact resT))
    · (unfold rkN; simp only [g1, g2, g3, if_true, if_false, Bool.false_eq_true]; exact ⟨rfl, rfl⟩)
    · (exact stleT)
  (refine ctlT ?_)
  refine rgT ?_
  refine lo (lop_move (E rfl)) rfl ?_
  refine lo (lop_leq (E rfl) (E rfl)) rfl ?_
  refine lo (lop_assign (E rfl)) rfl ?_
  refine leT ?_
  (refine ctlT ?_)
  refine sw_cond rfl (fun g4 => ?_) (fun g4 => ?_)
  · (refine ctlT ?_)
    refine rgT ?_
    refine lo (lop_move (E rfl)) rfl ?_
    refine lo (lop_move (E rfl)) rfl ?_
    refine lo (lop_assign (E rfl)) rfl ?_
    refine lo (lop_assign (E rfl)) rfl ?_
    refine lo (lop_assign (E rfl)) rfl ?_
    refine lo (lop_assign (E rfl)) rfl ?_
    refine leT ?_
    (refine ctlT ?_)
    (apply aend; (exact resT))
    · (unfold rkN; simp only [g1, g2, g3, g4, if_true, if_false, Bool.false_eq_true]; exact ⟨rfl, rfl⟩)
    · (exact stleT)
  (refine ctlT ?_)
  refine rgT ?_
  refine lo (lop_move (E rfl)) rfl ?_
  refine lo (lop_leq (E rfl) (E rfl)) rfl ?_
  refine lo (lop_assign (E rfl)) rfl ?_
  refine leT ?_
  (refine ctlT ?_)
  refine sw_cond rfl (fun g5 => ?_) (fun g5 => ?_)
  · (refine ctlT ?_)
    refine rgT ?_
    refine lo (lop_move (E rfl)) rfl ?_
    refine lo (lop_move (E rfl)) rfl ?_
    refine lo (lop_assign (E rfl)) rfl ?_
    refine lo (lop_assign (E rfl)) rfl ?_
    refine lo (lop_assign (E rfl)) rfl ?_
    refine lo (lop_assign (E rfl)) rfl ?_
    refine leT ?_
    (refine ctlT ?_)
    (apply aend; (exact resT))
    · (unfold rkN; simp only [g1, g2, g3, g4, g5, if_true, if_false, Bool.false_eq_true]; exact ⟨rfl, rfl⟩)
    · (exact stleT)
  (refine ctlT ?_)
  refine rgT ?_
  refine lo (lop_move (E rfl)) rfl ?_
  refine lo (lop_eql (E rfl) (E rfl)) rfl ?_
  refine lo (lop_assign (E rfl)) rfl ?_
  refine leT ?_
  (refine ctlT ?_)
  refine sw_cond rfl (fun g6 => ?_) (fun g6 => ?_)
  · (refine ctlT ?_)
    refine rgT ?_
    refine lo (lop_move (E rfl)) rfl ?_
    refine lo (lop_assign (E rfl)) rfl ?_
    refine lo (lop_assign (E rfl)) rfl ?_
    refine lo (lop_assign (E rfl)) rfl ?_
    refine lo (lop_assign (E rfl)) rfl ?_
    refine leT ?_
    (refine ctlT ?_)
    (apply aend; (exact resT))
    · (unfold rkN; simp only [g1, g2, g3, g4, g5, g6, if_true, if_false, Bool.false_eq_true]; exact ⟨rfl, rfl⟩)
    · (exact stleT)
  (refine ctlT ?_)
  refine rgT ?_
  refine lo (lop_move (E rfl)) rfl ?_
  refine lo (lop_assign (E rfl)) rfl ?_
  refine lo (lop_assign (E rfl)) rfl ?_
  refine lo (lop_assign (E rfl)) rfl ?_
  refine lo (lop_assign (E rfl)) rfl ?_
  refine leT ?_
  (refine ctlT ?_)
  (apply aend; (exact resT))
  · (unfold rkN; simp only [g1, g2, g3, g4, g5, g6, if_true, if_false, Bool.false_eq_true]; exact ⟨rfl, rfl⟩)
  · (exact stleT)
def formW (op : Int) (k : Bool) : Int :=
  if (op == 0 || (op == 1 || (op == 5 || (op == 11 || (op == 15 || (op == 26 || op == 27)))))) = true then 1
  else if (op == 2 || (op == 3 || op == 4)) = true then 2
  else if (op == 12 || (op == 13 || (op == 16 || (op == 32 || (op == 33 || (op == 34 || (op == 35 || op == 36))))))) = true then 3
  else if (op == 14) = true then 4 else if (op == 17) = true then 5
  else if (op == 40 || (op == 41 || (op == 44 || (op == 45 || (op == 54 || (op == 55 || op == 58)))))) = true then 6
  else if (op == 63 || op == 64) = true then 7 else if (op == 65) = true then 8 else if (op == 66) = true then 9
  else if k = true then 1 else 0
set_option maxRecDepth 100000 in
theorem ref_form (op : Int) : SCall Try.prog 27 [.int .i64 op] [] (fun x σ => x = .int .i64 (formW op (rkN op).2.2.2) ∧ σ = []) := by
  refine scall_of (n := 56) (ks := [0, 2, 6, 7, 8, 16, 20, 29, 31, 33, 41, 44, 46, 55]) Try.func27 rfl rfl (Nat.le_of_ble_eq_true rfl) ?_
  (refine ctlT ?_)
  refine rgT ?_
  refine lo (lop_assign (E rfl)) rfl ?_
  refine leT ?_
  (refine ctlT ?_)
  refine rgT ?_
  refine lo (lop_move (E rfl)) rfl ?_
  refine leT ?_
  (refine ctlT ?_)
  refine rgT ?_
  refine lo (lop_eql (E rfl) (E rfl)) rfl ?_
  refine lo (lop_assign (E rfl)) rfl ?_
  refine leT ?_
  (refine ctlT ?_)
  apply sw_orr rfl; exact fdelT
  · intro _; (refine ctlT ?_)
    refine rgT ?_
    refine lo (lop_eql (E rfl) (E rfl)) rfl ?_
    refine lo (lop_assign (E rfl)) rfl ?_
    refine leT ?_
    (refine ctlT ?_)
    apply sw_orq rfl; exact fdelT
    · intro _; (refine ctlT ?_)
      refine rgT ?_
      refine lo (lop_eql (E rfl) (E rfl)) rfl ?_
      refine lo (lop_assign (E rfl)) rfl ?_
      refine leT ?_
      (refine ctlT ?_)
      apply sw_orq rfl; exact fdelT
      · intro _; (refine ctlT ?_)
        refine rgT ?_
        refine lo (lop_eql (E rfl) (E rfl)) rfl ?_
        refine lo (lop_assign (E rfl)) rfl ?_
        refine leT ?_
        (refine ctlT ?_)
        apply sw_orq rfl; exact fdelT
        · intro _; (refine ctlT ?_)
          refine rgT ?_
          refine lo (lop_eql (E rfl) (E rfl)) rfl ?_
          refine lo (lop_assign (E rfl)) rfl ?_
          refine leT ?_
          (refine ctlT ?_)
          apply sw_orq rfl; exact fdelT
          · intro _; (refine ctlT ?_)
            refine rgT ?_
            refine lo (lop_eql (E rfl) (E rfl)) rfl ?_
            refine lo (lop_assign (E rfl)) rfl ?_
            refine leT ?_
            (refine ctlT ?_)
            apply sw_orq rfl; exact fdelT
            · intro _; (refine ctlT ?_)
              refine rgT ?_
              refine lo (lop_eql (E rfl) (E rfl)) rfl ?_
              refine lo (lop_assign (E rfl)) rfl ?_
              refine leT ?_
              (refine ctlT ?_)
              (exact sgoT)
            (exact sgoT)
          (exact sgoT)
        (exact sgoT)
      (exact sgoT)
    (exact sgoT)
  (refine ctlT ?_)
  refine sw_cond rfl (fun g1 => ?_) (fun g1 => ?_)
  · (refine ctlT ?_)
    refine rgT ?_
    refine lo (lop_assign (E rfl)) rfl ?_
    refine leT ?_
    (refine ctlT ?_)
    (apply aend; (exact resT))
    · (unfold formW; simp only [g1, if_true, if_false, Bool.false_eq_true]; exact ⟨rfl, rfl⟩)
    · (exact stleT)
  (refine ctlT ?_)
  refine rgT ?_
  refine lo (lop_eql (E rfl) (E rfl)) rfl ?_
  refine lo (lop_assign (E rfl)) rfl ?_
  refine leT ?_
  (refine ctlT ?_)
  apply sw_orr rfl; exact fdelT
  · intro _; (refine ctlT ?_)
    refine rgT ?_
    refine lo (lop_eql (E rfl) (E rfl)) rfl ?_
    refine lo (lop_assign (E rfl)) rfl ?_
    refine leT ?_
    (refine ctlT ?_)
    apply sw_orq rfl; exact fdelT
    · intro _; (refine ctlT ?_)
      refine rgT ?_
      refine lo (lop_eql (E rfl) (E rfl)) rfl ?_
      refine lo (lop_assign (E rfl)) rfl ?_
      refine leT ?_
      (refine ctlT ?_)
      (exact sgoT)
    (exact sgoT)
  (refine ctlT ?_)
  refine sw_cond rfl (fun g2 => ?_) (fun g2 => ?_)
  · (refine ctlT ?_)
    refine rgT ?_
    refine lo (lop_assign (E rfl)) rfl ?_
    refine leT ?_
    (refine ctlT ?_)
    (apply aend; (exact resT))
    · (unfold formW; simp only [g1, g2, if_true, if_false, Bool.false_eq_true]; exact ⟨rfl, rfl⟩)
    · (exact stleT)
  (refine ctlT ?_)
  refine rgT ?_
  refine lo (lop_eql (E rfl) (E rfl)) rfl ?_
  refine lo (lop_assign (E rfl)) rfl ?_
  refine leT ?_
  (refine ctlT ?_)
  apply sw_orr rfl; exact fdelT
  · intro _; (refine ctlT ?_)
    refine rgT ?_
    refine lo (lop_eql (E rfl) (E rfl)) rfl ?_
    refine lo (lop_assign (E rfl)) rfl ?_
    refine leT ?_
    (refine ctlT ?_)
    apply sw_orq rfl; exact fdelT
    · intro _; (refine ctlT ?_)
      refine rgT ?_
      refine lo (lop_eql (E rfl) (E rfl)) rfl ?_
      refine lo (lop_assign (E rfl)) rfl ?_
      refine leT ?_
      (refine ctlT ?_)
      apply sw_orq rfl; exact fdelT
      · intro _; (refine ctlT ?_)
        refine rgT ?_
        refine lo (lop_eql (E rfl) (E rfl)) rfl ?_
        refine lo (lop_assign (E rfl)) rfl ?_
        refine leT ?_
        (refine ctlT ?_)
        apply sw_orq rfl; exact fdelT
        · intro _; (refine ctlT ?_)
          refine rgT ?_
          refine lo (lop_eql (E rfl) (E rfl)) rfl ?_
          refine lo (lop_assign (E rfl)) rfl ?_
          refine leT ?_
          (refine ctlT ?_)
          apply sw_orq rfl; exact fdelT
          · intro _; (refine ctlT ?_)
            refine rgT ?_
            refine lo (lop_eql (E rfl) (E rfl)) rfl ?_
            refine lo (lop_assign (E rfl)) rfl ?_
            refine leT ?_
            (refine ctlT ?_)
            apply sw_orq rfl; exact fdelT
            · intro _; (refine ctlT ?_)
              refine rgT ?_
              refine lo (lop_eql (E rfl) (E rfl)) rfl ?_
              refine lo (lop_assign (E rfl)) rfl ?_
              refine leT ?_
              (refine ctlT ?_)
              apply sw_orq rfl; exact fdelT
              · intro _; (refine ctlT ?_)
                refine rgT ?_
                refine lo (lop_eql (E rfl) (E rfl)) rfl ?_
                refine lo (lop_assign (E rfl)) rfl ?_
                refine leT ?_
                (refine ctlT ?_)
                (exact sgoT)
              (exact sgoT)
            (exact sgoT)
          (exact sgoT)
        (exact sgoT)
      (exact sgoT)
    (exact sgoT)
  (refine ctlT ?_)
  refine sw_cond rfl (fun g3 => ?_) (fun g3 => ?_)
  · (refine ctlT ?_)
    refine rgT ?_
    refine lo (lop_assign (E rfl)) rfl ?_
    refine leT ?_
    (refine ctlT ?_)
    (apply aend; (exact resT))
    · (unfold formW; simp only [g1, g2, g3, if_true, if_false, Bool.false_eq_true]; exact ⟨rfl, rfl⟩)
    · (exact stleT)
  (refine ctlT ?_)
  refine rgT ?_
  refine lo (lop_eql (E rfl) (E rfl)) rfl ?_
  refine lo (lop_assign (E rfl)) rfl ?_
  refine leT ?_
  (refine ctlT ?_)
  refine sw_cond rfl (fun g4 => ?_) (fun g4 => ?_)
  · (refine ctlT ?_)
    refine rgT ?_
    refine lo (lop_assign (E rfl)) rfl ?_
    refine leT ?_
    (refine ctlT ?_)
    (apply aend; (exact resT))
    · (unfold formW; simp only [g1, g2, g3, g4, if_true, if_false, Bool.false_eq_true]; exact ⟨rfl, rfl⟩)
    · (exact stleT)
  (refine ctlT ?_)
  refine rgT ?_
  refine lo (lop_eql (E rfl) (E rfl)) rfl ?_
  refine lo (lop_assign (E rfl)) rfl ?_
  refine leT ?_
  (refine ctlT ?_)
  refine sw_cond rfl (fun g5 => ?_) (fun g5 => ?_)
  · (refine ctlT ?_)
    refine rgT ?_
    refine lo (lop_assign (E rfl)) rfl ?_
    refine leT ?_
    (refine ctlT ?_)
    (apply aend; (exact resT))
    · (unfold formW; simp only [g1, g2, g3, g4, g5, if_true, if_false, Bool.false_eq_true]; exact ⟨rfl, rfl⟩)
    · (exact stleT)
  (refine ctlT ?_)
  refine rgT ?_
  refine lo (lop_eql (E rfl) (E rfl)) rfl ?_
  refine lo (lop_assign (E rfl)) rfl ?_
  refine leT ?_
  (refine ctlT ?_)
  apply sw_orr rfl; exact fdelT
  · intro _; (refine ctlT ?_)
    refine rgT ?_
    refine lo (lop_eql (E rfl) (E rfl)) rfl ?_
    refine lo (lop_assign (E rfl)) rfl ?_
    refine leT ?_
    (refine ctlT ?_)
    apply sw_orq rfl; exact fdelT
    · intro _; (refine ctlT ?_)
      refine rgT ?_
      refine lo (lop_eql (E rfl) (E rfl)) rfl ?_
      refine lo (lop_assign (E rfl)) rfl ?_
      refine leT ?_
      (refine ctlT ?_)
      apply sw_orq rfl; exact fdelT
      · intro _; (refine ctlT ?_)
        refine rgT ?_
        refine lo (lop_eql (E rfl) (E rfl)) rfl ?_
        refine lo (lop_assign (E rfl)) rfl ?_
        refine leT ?_
        (refine ctlT ?_)
        apply sw_orq rfl; exact fdelT
        · intro _; (refine ctlT ?_)
          refine rgT ?_
          refine lo (lop_eql (E rfl) (E rfl)) rfl ?_
          refine lo (lop_assign (E rfl)) rfl ?_
          refine leT ?_
          (refine ctlT ?_)
          apply sw_orq rfl; exact fdelT
          · intro _; (refine ctlT ?_)
            refine rgT ?_
            refine lo (lop_eql (E rfl) (E rfl)) rfl ?_
            refine lo (lop_assign (E rfl)) rfl ?_
            refine leT ?_
            (refine ctlT ?_)
            apply sw_orq rfl; exact fdelT
            · intro _; (refine ctlT ?_)
              refine rgT ?_
              refine lo (lop_eql (E rfl) (E rfl)) rfl ?_
              refine lo (lop_assign (E rfl)) rfl ?_
              refine leT ?_
              (refine ctlT ?_)
              (exact sgoT)
            (exact sgoT)
          (exact sgoT)
        (exact sgoT)
      (exact sgoT)
    (exact sgoT)
  (refine ctlT ?_)
  refine sw_cond rfl (fun g6 => ?_) (fun g6 => ?_)
  · (refine ctlT ?_)
    refine rgT ?_
    refine lo (lop_assign (E rfl)) rfl ?_
    refine leT ?_
    (refine ctlT ?_)
    (apply aend; (exact resT))
    · (unfold formW; simp only [g1, g2, g3, g4, g5, g6, if_true, if_false, Bool.false_eq_true]; exact ⟨rfl, rfl⟩)
    · (exact stleT)
  (refine ctlT ?_)
  refine rgT ?_
  refine lo (lop_eql (E rfl) (E rfl)) rfl ?_
  refine lo (lop_assign (E rfl)) rfl ?_
  refine leT ?_
  (refine ctlT ?_)
  apply sw_orr rfl; exact fdelT
  · intro _; (refine ctlT ?_)
    refine rgT ?_
    refine lo (lop_eql (E rfl) (E rfl)) rfl ?_
    refine lo (lop_assign (E rfl)) rfl ?_
    refine leT ?_
    (refine ctlT ?_)
    (exact sgoT)
  (refine ctlT ?_)
  refine sw_cond rfl (fun g7 => ?_) (fun g7 => ?_)
  · (refine ctlT ?_)
    refine rgT ?_
    refine lo (lop_assign (E rfl)) rfl ?_
    refine leT ?_
    (refine ctlT ?_)
    (apply aend; (exact resT))
    · (unfold formW; simp only [g1, g2, g3, g4, g5, g6, g7, if_true, if_false, Bool.false_eq_true]; exact ⟨rfl, rfl⟩)
    · (exact stleT)
  (refine ctlT ?_)
  refine rgT ?_
  refine lo (lop_eql (E rfl) (E rfl)) rfl ?_
  refine lo (lop_assign (E rfl)) rfl ?_
  refine leT ?_
  (refine ctlT ?_)
  refine sw_cond rfl (fun g8 => ?_) (fun g8 => ?_)
  · (refine ctlT ?_)
    refine rgT ?_
    refine lo (lop_assign (E rfl)) rfl ?_
    refine leT ?_
    (refine ctlT ?_)
    (apply aend; (exact resT))
    · (unfold formW; simp only [g1, g2, g3, g4, g5, g6, g7, g8, if_true, if_false, Bool.false_eq_true]; exact ⟨rfl, rfl⟩)
    · (exact stleT)
  (refine ctlT ?_)
  refine rgT ?_
  refine lo (lop_eql (E rfl) (E rfl)) rfl ?_
  refine lo (lop_assign (E rfl)) rfl ?_
  refine leT ?_
  (refine ctlT ?_)
  refine sw_cond rfl (fun g9 => ?_) (fun g9 => ?_)
  · (refine ctlT ?_)
    refine rgT ?_
    refine lo (lop_assign (E rfl)) rfl ?_
    refine leT ?_
    (refine ctlT ?_)
    (apply aend; (exact resT))
    · (unfold formW; simp only [g1, g2, g3, g4, g5, g6, g7, g8, g9, if_true, if_false, Bool.false_eq_true]; exact ⟨rfl, rfl⟩)
    · (exact stleT)
  (refine ctlT ?_)
  refine rgT ?_
  refine lo (lop_move (E rfl)) rfl ?_
  (first | refine ln rfl rfl rfl rfl ?_ | refine lw rfl rfl (lop_no (v := .bool false)) rfl ?_ | refine pu [] Try.call56 (ref_kinds _) rfl argsT nofT ?_ | refine pug [] rfl rfl Try.call56 (fun _ => (ref_kinds _)) rfl argsT nofT ?_ | refine puw [] rfl rfl Try.call56 (fun _ => (ref_kinds _)) rfl argsT nofT ?_)
  refine lo (lop_move (E rfl)) rfl ?_
  refine lo (lop_extract (E rfl) rfl) rfl ?_
  refine lo (lop_extract (E rfl) rfl) rfl ?_
  refine lo (lop_extract (E rfl) rfl) rfl ?_
  refine lo (lop_extract (E rfl) rfl) rfl ?_
  refine lo (lop_assign (E rfl)) rfl ?_
  refine lo (lop_assign (E rfl)) rfl ?_
  refine lo (lop_assign (E rfl)) rfl ?_
  refine lo (lop_assign (E rfl)) rfl ?_
  refine leT ?_
  (refine ctlT ?_)
  refine rgT ?_
  refine lo (lop_move (E rfl)) rfl ?_
  refine leT ?_
  (refine ctlT ?_)
  refine sw_cond rfl (fun g10 => ?_) (fun g10 => ?_)
  · (refine ctlT ?_)
    refine rgT ?_
    refine lo (lop_assign (E rfl)) rfl ?_
    refine leT ?_
    (refine ctlT ?_)
    (apply aend; (exact resT))
    · (unfold formW; simp only [g1, g2, g3, g4, g5, g6, g7, g8, g9, g10, if_true, if_false, Bool.false_eq_true]; exact ⟨rfl, rfl⟩)
    · (exact stleT)
  (refine ctlT ?_)
  refine rgT ?_
  refine lo (lop_assign (E rfl)) rfl ?_
  refine leT ?_
  (refine ctlT ?_)
  (apply aend; (exact resT))
  · (unfold formW; simp only [g1, g2, g3, g4, g5, g6, g7, g8, g9, g10, if_true, if_false, Bool.false_eq_true]; exact ⟨rfl, rfl⟩)
  · (exact stleT)
theorem ints_kinds_ok (op : Int) : SCall Try.prog 60 [.int .i64 op] [] (fun x _ => ∃ a b, x = .tup [a, b, .bool (kN op).2.2]) :=
  (ints_kinds op).mono fun x σ h => by
    unfold kindsR at h
    split at h
    · next e => obtain ⟨q, rfl, -⟩ := h; exact ⟨_, _, by rw [e]⟩
    · next e => obtain ⟨rfl, -⟩ := h; exact ⟨_, _, by rw [show (kN op).2.2 = false by simpa using e]⟩
set_option maxRecDepth 100000 in
theorem instr_form (op : Int) : SCall Try.prog 40 [.int .i64 op] [] (fun x σ => x = .int .i64 (formW op (kN op).2.2) ∧ σ = []) := by
  refine scall_of (n := 54) (ks := [0, 2, 5, 6, 7, 15, 19, 28, 30, 32, 40, 43, 45, 53]) Try.func40 rfl rfl (Nat.le_of_ble_eq_true rfl) ?_
  (refine ctlT ?_)
  refine rgT ?_
  refine lo (lop_assign (E rfl)) rfl ?_
  refine leT ?_
  (refine ctlT ?_)
  refine rgT ?_
  refine lo (lop_move (E rfl)) rfl ?_
  refine leT ?_
  (refine ctlT ?_)
  refine rgT ?_
  refine lo (lop_eql (E rfl) (E rfl)) rfl ?_
  refine lo (lop_assign (E rfl)) rfl ?_
  refine leT ?_
  (refine ctlT ?_)
  apply sw_orr rfl; exact fdelT
  · intro _; (refine ctlT ?_)
    refine rgT ?_
    refine lo (lop_eql (E rfl) (E rfl)) rfl ?_
    refine lo (lop_assign (E rfl)) rfl ?_
    refine leT ?_
    (refine ctlT ?_)
    apply sw_orq rfl; exact fdelT
    · intro _; (refine ctlT ?_)
      refine rgT ?_
      refine lo (lop_eql (E rfl) (E rfl)) rfl ?_
      refine lo (lop_assign (E rfl)) rfl ?_
      refine leT ?_
      (refine ctlT ?_)
      apply sw_orq rfl; exact fdelT
      · intro _; (refine ctlT ?_)
        refine rgT ?_
        refine lo (lop_eql (E rfl) (E rfl)) rfl ?_
        refine lo (lop_assign (E rfl)) rfl ?_
        refine leT ?_
        (refine ctlT ?_)
        apply sw_orq rfl; exact fdelT
        · intro _; (refine ctlT ?_)
          refine rgT ?_
          refine lo (lop_eql (E rfl) (E rfl)) rfl ?_
          refine lo (lop_assign (E rfl)) rfl ?_
          refine leT ?_
          (refine ctlT ?_)
          apply sw_orq rfl; exact fdelT
          · intro _; (refine ctlT ?_)
            refine rgT ?_
            refine lo (lop_eql (E rfl) (E rfl)) rfl ?_
            refine lo (lop_assign (E rfl)) rfl ?_
            refine leT ?_
            (refine ctlT ?_)
            apply sw_orq rfl; exact fdelT
            · intro _; (refine ctlT ?_)
              refine rgT ?_
              refine lo (lop_eql (E rfl) (E rfl)) rfl ?_
              refine lo (lop_assign (E rfl)) rfl ?_
              refine leT ?_
              (refine ctlT ?_)
              (exact sgoT)
            (exact sgoT)
          (exact sgoT)
        (exact sgoT)
      (exact sgoT)
    (exact sgoT)
  (refine ctlT ?_)
  refine sw_cond rfl (fun g1 => ?_) (fun g1 => ?_)
  · (refine ctlT ?_)
    refine rgT ?_
    refine lo (lop_assign (E rfl)) rfl ?_
    refine leT ?_
    (refine ctlT ?_)
    (apply aend; (exact resT))
    · (unfold formW; simp only [g1, if_true, if_false, Bool.false_eq_true]; exact ⟨rfl, rfl⟩)
    · (exact stleT)
  (refine ctlT ?_)
  refine rgT ?_
  refine lo (lop_eql (E rfl) (E rfl)) rfl ?_
  refine lo (lop_assign (E rfl)) rfl ?_
  refine leT ?_
  (refine ctlT ?_)
  apply sw_orr rfl; exact fdelT
  · intro _; (refine ctlT ?_)
    refine rgT ?_
    refine lo (lop_eql (E rfl) (E rfl)) rfl ?_
    refine lo (lop_assign (E rfl)) rfl ?_
    refine leT ?_
    (refine ctlT ?_)
    apply sw_orq rfl; exact fdelT
    · intro _; (refine ctlT ?_)
      refine rgT ?_
      refine lo (lop_eql (E rfl) (E rfl)) rfl ?_
      refine lo (lop_assign (E rfl)) rfl ?_
      refine leT ?_
      (refine ctlT ?_)
      (exact sgoT)
    (exact sgoT)
  (refine ctlT ?_)
  refine sw_cond rfl (fun g2 => ?_) (fun g2 => ?_)
  · (refine ctlT ?_)
    refine rgT ?_
    refine lo (lop_assign (E rfl)) rfl ?_
    refine leT ?_
    (refine ctlT ?_)
    (apply aend; (exact resT))
    · (unfold formW; simp only [g1, g2, if_true, if_false, Bool.false_eq_true]; exact ⟨rfl, rfl⟩)
    · (exact stleT)
  (refine ctlT ?_)
  refine rgT ?_
  refine lo (lop_eql (E rfl) (E rfl)) rfl ?_
  refine lo (lop_assign (E rfl)) rfl ?_
  refine leT ?_
  (refine ctlT ?_)
  apply sw_orr rfl; exact fdelT
  · intro _; (refine ctlT ?_)
    refine rgT ?_
    refine lo (lop_eql (E rfl) (E rfl)) rfl ?_
    refine lo (lop_assign (E rfl)) rfl ?_
    refine leT ?_
    (refine ctlT ?_)
    apply sw_orq rfl; exact fdelT
    · intro _; (refine ctlT ?_)
      refine rgT ?_
      refine lo (lop_eql (E rfl) (E rfl)) rfl ?_
      refine lo (lop_assign (E rfl)) rfl ?_
      refine leT ?_
      (refine ctlT ?_)
      apply sw_orq rfl; exact fdelT
      · intro _; (refine ctlT ?_)
        refine rgT ?_
        refine lo (lop_eql (E rfl) (E rfl)) rfl ?_
        refine lo (lop_assign (E rfl)) rfl ?_
        refine leT ?_
        (refine ctlT ?_)
        apply sw_orq rfl; exact fdelT
        · intro _; (refine ctlT ?_)
          refine rgT ?_
          refine lo (lop_eql (E rfl) (E rfl)) rfl ?_
          refine lo (lop_assign (E rfl)) rfl ?_
          refine leT ?_
          (refine ctlT ?_)
          apply sw_orq rfl; exact fdelT
          · intro _; (refine ctlT ?_)
            refine rgT ?_
            refine lo (lop_eql (E rfl) (E rfl)) rfl ?_
            refine lo (lop_assign (E rfl)) rfl ?_
            refine leT ?_
            (refine ctlT ?_)
            apply sw_orq rfl; exact fdelT
            · intro _; (refine ctlT ?_)
              refine rgT ?_
              refine lo (lop_eql (E rfl) (E rfl)) rfl ?_
              refine lo (lop_assign (E rfl)) rfl ?_
              refine leT ?_
              (refine ctlT ?_)
              apply sw_orq rfl; exact fdelT
              · intro _; (refine ctlT ?_)
                refine rgT ?_
                refine lo (lop_eql (E rfl) (E rfl)) rfl ?_
                refine lo (lop_assign (E rfl)) rfl ?_
                refine leT ?_
                (refine ctlT ?_)
                (exact sgoT)
              (exact sgoT)
            (exact sgoT)
          (exact sgoT)
        (exact sgoT)
      (exact sgoT)
    (exact sgoT)
  (refine ctlT ?_)
  refine sw_cond rfl (fun g3 => ?_) (fun g3 => ?_)
  · (refine ctlT ?_)
    refine rgT ?_
    refine lo (lop_assign (E rfl)) rfl ?_
    refine leT ?_
    (refine ctlT ?_)
    (apply aend; (exact resT))
    · (unfold formW; simp only [g1, g2, g3, if_true, if_false, Bool.false_eq_true]; exact ⟨rfl, rfl⟩)
    · (exact stleT)
  (refine ctlT ?_)
  refine rgT ?_
  refine lo (lop_eql (E rfl) (E rfl)) rfl ?_
  refine lo (lop_assign (E rfl)) rfl ?_
  refine leT ?_
  (refine ctlT ?_)
  refine sw_cond rfl (fun g4 => ?_) (fun g4 => ?_)
  · (refine ctlT ?_)
    refine rgT ?_
    refine lo (lop_assign (E rfl)) rfl ?_
    refine leT ?_
    (refine ctlT ?_)
    (apply aend; (exact resT))
    · (unfold formW; simp only [g1, g2, g3, g4, if_true, if_false, Bool.false_eq_true]; exact ⟨rfl, rfl⟩)
    · (exact stleT)
  (refine ctlT ?_)
  refine rgT ?_
  refine lo (lop_eql (E rfl) (E rfl)) rfl ?_
  refine lo (lop_assign (E rfl)) rfl ?_
  refine leT ?_
  (refine ctlT ?_)
  refine sw_cond rfl (fun g5 => ?_) (fun g5 => ?_)
  · (refine ctlT ?_)
    refine rgT ?_
    refine lo (lop_assign (E rfl)) rfl ?_
    refine leT ?_
    (refine ctlT ?_)
    (apply aend; (exact resT))
    · (unfold formW; simp only [g1, g2, g3, g4, g5, if_true, if_false, Bool.false_eq_true]; exact ⟨rfl, rfl⟩)
    · (exact stleT)
  (refine ctlT ?_)
  refine rgT ?_
  refine lo (lop_eql (E rfl) (E rfl)) rfl ?_
  refine lo (lop_assign (E rfl)) rfl ?_
  refine leT ?_
  (refine ctlT ?_)
  apply sw_orr rfl; exact fdelT
  · intro _; (refine ctlT ?_)
    refine rgT ?_
    refine lo (lop_eql (E rfl) (E rfl)) rfl ?_
    refine lo (lop_assign (E rfl)) rfl ?_
    refine leT ?_
    (refine ctlT ?_)
    apply sw_orq rfl; exact fdelT
    · intro _; (refine ctlT ?_)
      refine rgT ?_
      refine lo (lop_eql (E rfl) (E rfl)) rfl ?_
      refine lo (lop_assign (E rfl)) rfl ?_
      refine leT ?_
      (refine ctlT ?_)
      apply sw_orq rfl; exact fdelT
      · intro _; (refine ctlT ?_)
        refine rgT ?_
        refine lo (lop_eql (E rfl) (E rfl)) rfl ?_
        refine lo (lop_assign (E rfl)) rfl ?_
        refine leT ?_
        (refine ctlT ?_)
        apply sw_orq rfl; exact fdelT
        · intro _; (refine ctlT ?_)
          refine rgT ?_
          refine lo (lop_eql (E rfl) (E rfl)) rfl ?_
          refine lo (lop_assign (E rfl)) rfl ?_
          refine leT ?_
          (refine ctlT ?_)
          apply sw_orq rfl; exact fdelT
          · intro _; (refine ctlT ?_)
            refine rgT ?_
            refine lo (lop_eql (E rfl) (E rfl)) rfl ?_
            refine lo (lop_assign (E rfl)) rfl ?_
            refine leT ?_
            (refine ctlT ?_)
            apply sw_orq rfl; exact fdelT
            · intro _; (refine ctlT ?_)
              refine rgT ?_
              refine lo (lop_eql (E rfl) (E rfl)) rfl ?_
              refine lo (lop_assign (E rfl)) rfl ?_
              refine leT ?_
              (refine ctlT ?_)
              (exact sgoT)
            (exact sgoT)
          (exact sgoT)
        (exact sgoT)
      (exact sgoT)
    (exact sgoT)
  (refine ctlT ?_)
  refine sw_cond rfl (fun g6 => ?_) (fun g6 => ?_)
  · (refine ctlT ?_)
    refine rgT ?_
    refine lo (lop_assign (E rfl)) rfl ?_
    refine leT ?_
    (refine ctlT ?_)
    (apply aend; (exact resT))
    · (unfold formW; simp only [g1, g2, g3, g4, g5, g6, if_true, if_false, Bool.false_eq_true]; exact ⟨rfl, rfl⟩)
    · (exact stleT)
  (refine ctlT ?_)
  refine rgT ?_
  refine lo (lop_eql (E rfl) (E rfl)) rfl ?_
  refine lo (lop_assign (E rfl)) rfl ?_
  refine leT ?_
  (refine ctlT ?_)
  apply sw_orr rfl; exact fdelT
  · intro _; (refine ctlT ?_)
    refine rgT ?_
    refine lo (lop_eql (E rfl) (E rfl)) rfl ?_
    refine lo (lop_assign (E rfl)) rfl ?_
    refine leT ?_
    (refine ctlT ?_)
    (exact sgoT)
  (refine ctlT ?_)
  refine sw_cond rfl (fun g7 => ?_) (fun g7 => ?_)
  · (refine ctlT ?_)
    refine rgT ?_
    refine lo (lop_assign (E rfl)) rfl ?_
    refine leT ?_
    (refine ctlT ?_)
    (apply aend; (exact resT))
    · (unfold formW; simp only [g1, g2, g3, g4, g5, g6, g7, if_true, if_false, Bool.false_eq_true]; exact ⟨rfl, rfl⟩)
    · (exact stleT)
  (refine ctlT ?_)
  refine rgT ?_
  refine lo (lop_eql (E rfl) (E rfl)) rfl ?_
  refine lo (lop_assign (E rfl)) rfl ?_
  refine leT ?_
  (refine ctlT ?_)
  refine sw_cond rfl (fun g8 => ?_) (fun g8 => ?_)
  · (refine ctlT ?_)
    refine rgT ?_
    refine lo (lop_assign (E rfl)) rfl ?_
    refine leT ?_
    (refine ctlT ?_)
    (apply aend; (exact resT))
    · (unfold formW; simp only [g1, g2, g3, g4, g5, g6, g7, g8, if_true, if_false, Bool.false_eq_true]; exact ⟨rfl, rfl⟩)
    · (exact stleT)
  (refine ctlT ?_)
  refine rgT ?_
  refine lo (lop_eql (E rfl) (E rfl)) rfl ?_
  refine lo (lop_assign (E rfl)) rfl ?_
  refine leT ?_
  (refine ctlT ?_)
  refine sw_cond rfl (fun g9 => ?_) (fun g9 => ?_)
  · (refine ctlT ?_)
    refine rgT ?_
    refine lo (lop_assign (E rfl)) rfl ?_
    refine leT ?_
    (refine ctlT ?_)
    (apply aend; (exact resT))
    · (unfold formW; simp only [g1, g2, g3, g4, g5, g6, g7, g8, g9, if_true, if_false, Bool.false_eq_true]; exact ⟨rfl, rfl⟩)
    · (exact stleT)
  (refine ctlT ?_)
  refine rgT ?_
  refine lo (lop_move (E rfl)) rfl ?_
  refine cw [] Try.call60 (ints_kinds_ok op) rfl ?_ ?_ ?_
  · (exact argsleT)
  · (exact stleT)
  rintro _ σ' ⟨a, b, rfl⟩ -
  (apply rs_sto; (exact nflT))
  refine lo (lop_move (E rfl)) rfl ?_
  refine lo (lop_extract (E rfl) rfl) rfl ?_
  refine lo (lop_extract (E rfl) rfl) rfl ?_
  refine lo (lop_extract (E rfl) rfl) rfl ?_
  refine lo (lop_assign (E rfl)) rfl ?_
  refine lo (lop_assign (E rfl)) rfl ?_
  refine lo (lop_assign (E rfl)) rfl ?_
  refine leT ?_
  (refine ctlT ?_)
  refine rgT ?_
  refine lo (lop_move (E rfl)) rfl ?_
  refine leT ?_
  (refine ctlT ?_)
  refine sw_cond rfl (fun g10 => ?_) (fun g10 => ?_)
  · (refine ctlT ?_)
    refine rgT ?_
    refine lo (lop_assign (E rfl)) rfl ?_
    refine leT ?_
    (refine ctlT ?_)
    (apply aend; (exact resT))
    · (unfold formW; simp only [g1, g2, g3, g4, g5, g6, g7, g8, g9, g10, if_true, if_false, Bool.false_eq_true]; exact ⟨rfl, rfl⟩)
    · (exact stleT)
  (refine ctlT ?_)
  refine rgT ?_
  refine lo (lop_assign (E rfl)) rfl ?_
  refine leT ?_
  (refine ctlT ?_)
  (apply aend; (exact resT))
  · (unfold formW; simp only [g1, g2, g3, g4, g5, g6, g7, g8, g9, g10, if_true, if_false, Bool.false_eq_true]; exact ⟨rfl, rfl⟩)
  · (exact stleT)
/-! ### the two are one -/
def kOk (op : Int) : Bool := decide (69 ≤ op ∧ op ≤ 90 ∨ 103 ≤ op ∧ op ≤ 138 ∨ op = 167 ∨ op = 172 ∨ op = 173)
theorem bt2_eq (n a b : Int) : bt2 n a b = decide (a ≤ n ∧ n ≤ b) := by
  unfold bt2
  by_cases h : a ≤ n <;> simp [h]
theorem ofN_zero (op : Int) : ((ofN op).1 == 0) = !decide (69 ≤ op ∧ op ≤ 90 ∨ 103 ≤ op ∧ op ≤ 138) := by
  unfold ofN
  simp only [bt2_eq, Bool.or_eq_true, decide_eq_true_eq]
  repeat' split
  · rw [decide_eq_true (by omega)]; rfl
  · rw [decide_eq_true (by omega)]; rfl
  · rw [decide_eq_true (by omega)]; rfl
  · rw [decide_eq_false (by omega)]; rfl
theorem kN_ok (op : Int) : (kN op).2.2 = kOk op := by
  unfold kN
  rw [ofN_zero]
  unfold kOk
  by_cases h1 : op = 167
  · subst h1; decide
  by_cases h2 : op = 172 ∨ op = 173
  · rcases h2 with rfl | rfl <;> decide
  by_cases h3 : 69 ≤ op ∧ op ≤ 90 ∨ 103 ≤ op ∧ op ≤ 138
  · rw [decide_eq_true h3, decide_eq_true (by omega)]
    repeat' split
    all_goals first | rfl | simp_all
  · rw [decide_eq_false h3, decide_eq_false (by omega), if_neg (by simp; omega), if_neg (by simp; omega)]
    rfl
theorem clsN_zero (op : Int) (h : -9223372036854775808 ≤ op ∧ op ≤ 9223372036854775807) : ((clsN op).1 == 0) = !kOk op := by
  unfold clsN kOk
  simp only [bt2_eq, Bool.or_eq_true, decide_eq_true_eq, beq_iff_eq]
  repeat' split
  all_goals first
    | (rw [decide_eq_true (by omega)]; simp only [IntKind.wrap_i64, Bool.not_true, beq_eq_false_iff_ne]; omega)
    | (rw [decide_eq_false (by omega)]; rfl)
theorem rkN_ok (op : Int) (h : -9223372036854775808 ≤ op ∧ op ≤ 9223372036854775807) : (rkN op).2.2.2 = kOk op := by
  unfold rkN
  rw [clsN_zero op h]
  cases kOk op
  · rfl
  · repeat' split
    all_goals first | rfl | simp_all
def formN (op : Int) : Int := formW op (kOk op)
end Go.Proofs.Ytkjfflabapeidaa
/-
  Instructions: which may be, which are the same.
-/
namespace Go.Proofs.Ytkjfflabapeidaa
open Go.RowKit Go.ChangeShapes Go.WideShapes Go.ChangeAt Go.Deep
set_option linter.unusedSimpArgs false
set_option linter.unusedVariables false
attribute [local irreducible] SW RS RD AThen ABlock

set_option maxRecDepth 100000 in
theorem ref_eqInts {k1 k2 : Rk} (xs ys : List Int) : SCall Try.prog 32 [.ro 1 (xs.map encI) k1, .ro 1 (ys.map encI) k2] [] (fun x σ => x = .bool (decide (xs = ys)) ∧ σ = []) := by
  refine scall_of (n := 26) (ks := [0, 1, 4, 5, 10, 14, 25]) Try.func32 rfl rfl (Nat.le_of_ble_eq_true rfl) ?_
  refine sw_max (i := 0) rfl fun hm => ?_
  rw [List.length_map] at hm
  unfold maxLen at hm
  (refine ctlT ?_)
  refine rgT ?_
  refine lo (lop_assign (E rfl)) rfl ?_
  refine leT ?_
  (refine ctlT ?_)
  refine rgT ?_
  refine lo (lop_move (E rfl)) rfl ?_
  refine z14 ?_
  refine lo (lop_move (E rfl)) rfl ?_
  refine z14 ?_
  refine lo (lop_neq (E rfl) (E rfl)) rfl ?_
  refine leT ?_
  (refine ctlT ?_)
  refine sw_cond rfl (fun h => ?_) (fun h => ?_)
  · (refine ctlT ?_)
    refine rgT ?_
    refine lo (lop_assign (E rfl)) rfl ?_
    refine leT ?_
    (refine ctlT ?_)
    (apply aend; (exact resT))
    · have hne : xs ≠ ys := by rintro rfl; simp at h
      exact ⟨by simp [resAV, ofConst, hne], rfl⟩
    · (exact stleT)
  have hl : xs.length = ys.length := by simp at h; omega
  (refine ctlT ?_)
  refine rgT ?_
  refine lo (lop_assign (E rfl)) rfl ?_
  refine leT ?_
  (refine ctlT ?_)
  refine lp (β := Nat) (fun k => ⟨[(0, .ro 1 (xs.map encI) k1), (1, .ro 1 (ys.map encI) k2), (4, .bool false), (5, .int .i64 k)], []⟩) (fun k => k ≤ xs.length ∧ xs.take k = ys.take k) (fun k => xs.length - k) 0 ?_ ⟨Nat.zero_le _, rfl⟩ ?_
  · (exact sgoT)
  rintro k ⟨hk, ht⟩
  (refine ctlT ?_)
  refine rgT ?_
  refine lo (lop_move (E rfl)) rfl ?_
  refine lo (lop_move (E rfl)) rfl ?_
  refine z14 ?_
  refine lo (lop_lss (E rfl) (E rfl)) rfl ?_
  refine leT ?_
  (refine ctlT ?_)
  refine sw_cond rfl (fun h1 => ?_) (fun h1 => ?_)
  · have hlt : k < xs.length := by simp at h1; omega
    obtain ⟨x, hx⟩ : ∃ x, xs[k]? = some x := ⟨_, List.getElem?_eq_getElem hlt⟩
    obtain ⟨y, hy⟩ : ∃ y, ys[k]? = some y := ⟨_, List.getElem?_eq_getElem (by omega)⟩
    (refine ctlT ?_)
    refine rgD [(0, true), (1, true), (2, true), (3, true), (4, true), (5, true), (6, true), (7, true), (8, true)] ?_
    refine dlo rfl (lop_move (E rfl)) rfl ?_
    refine dlo rfl (lop_move (E rfl)) rfl ?_
    refine z56 ?_
    refine z57 ?_
    refine dlo rfl (lop_move (E rfl)) rfl ?_
    refine dlo rfl (lop_move (E rfl)) rfl ?_
    refine z56 ?_
    refine z57 ?_
    refine z58 ?_
    refine deT ?_
    (refine ctlT ?_)
    refine sw_cond rfl (fun h2 => ?_) (fun h2 => ?_)
    · (refine ctlT ?_)
      refine rgT ?_
      refine lo (lop_assign (E rfl)) rfl ?_
      refine leT ?_
      (refine ctlT ?_)
      (apply aend; (exact resT))
      · have hne : xs ≠ ys := by rintro rfl; rw [hx] at hy; simp at hy; subst hy; simp at h2
        exact ⟨by simp [resAV, ofConst, hne], rfl⟩
      · (exact stleT)
    · (refine ctlT ?_)
      refine rgT ?_
      refine lo (lop_move (E rfl)) rfl ?_
      refine z17 ?_
      refine lo (lop_assign (E rfl)) rfl ?_
      refine leT ?_
      (refine ctlT ?_)
      refine ⟨k + 1, ⟨by omega, ?_⟩, by omega, ?_⟩
      · rw [List.take_add_one, List.take_add_one, ht, hx, hy]
        simp at h2
        rw [h2]
      · (exact sgoT)
  · (refine ctlT ?_)
    refine rgT ?_
    refine lo (lop_assign (E rfl)) rfl ?_
    refine leT ?_
    (refine ctlT ?_)
    (apply aend; (exact resT))
    · simp at h1
      have : xs = ys := by rwa [List.take_of_length_le (by omega), List.take_of_length_le (by omega)] at ht
      exact ⟨by simp [resAV, ofConst, this], rfl⟩
    · (exact stleT)
set_option maxRecDepth 100000 in
theorem lib_equal_int {k1 k2 : Rk} (xs ys : List Int) : SCall Try.prog 45 [.ro 1 (xs.map encI) k1, .ro 1 (ys.map encI) k2] [] (fun x σ => x = .bool (decide (xs = ys)) ∧ σ = []) := by
  refine scall_of (n := 26) (ks := [0, 1, 4, 5, 10, 12, 13, 14, 24]) Try.func45 rfl rfl (Nat.le_of_ble_eq_true rfl) ?_
  refine sw_max (i := 0) rfl fun hm => ?_
  rw [List.length_map] at hm
  unfold maxLen at hm
  (refine ctlT ?_)
  refine rgT ?_
  refine lo (lop_assign (E rfl)) rfl ?_
  refine leT ?_
  (refine ctlT ?_)
  refine rgT ?_
  refine lo (lop_move (E rfl)) rfl ?_
  refine z14 ?_
  refine lo (lop_move (E rfl)) rfl ?_
  refine z14 ?_
  refine lo (lop_neq (E rfl) (E rfl)) rfl ?_
  refine leT ?_
  (refine ctlT ?_)
  refine sw_cond rfl (fun h => ?_) (fun h => ?_)
  · (refine ctlT ?_)
    refine rgT ?_
    refine lo (lop_assign (E rfl)) rfl ?_
    refine leT ?_
    (refine ctlT ?_)
    (apply aend; (exact resT))
    · have hne : xs ≠ ys := by rintro rfl; simp at h
      exact ⟨by simp [resAV, ofConst, hne], rfl⟩
    · (exact stleT)
  have hl : xs.length = ys.length := by simp at h; omega
  (refine ctlT ?_)
  refine rgT ?_
  refine lo (lop_move (E rfl)) rfl ?_
  refine z14 ?_
  refine lo (lop_move (E rfl)) rfl ?_
  refine leT ?_
  (refine ctlT ?_)
  refine lp (β := Nat) (fun k => ⟨[(0, .ro 1 (xs.map encI) k1), (1, .ro 1 (ys.map encI) k2), (4, .bool false), (12, .int .i64 xs.length), (13, .int .i64 k)], []⟩) (fun k => k ≤ xs.length ∧ xs.take k = ys.take k) (fun k => xs.length - k) 0 ?_ ⟨Nat.zero_le _, rfl⟩ ?_
  · (exact sgoT)
  rintro k ⟨hk, ht⟩
  (refine ctlT ?_)
  refine rgT ?_
  refine lo (lop_lss (E rfl) (E rfl)) rfl ?_
  refine leT ?_
  (refine ctlT ?_)
  refine sw_cond rfl (fun h1 => ?_) (fun h1 => ?_)
  · have hlt : k < xs.length := by simp at h1; omega
    obtain ⟨x, hx⟩ : ∃ x, xs[k]? = some x := ⟨_, List.getElem?_eq_getElem hlt⟩
    obtain ⟨y, hy⟩ : ∃ y, ys[k]? = some y := ⟨_, List.getElem?_eq_getElem (by omega)⟩
    (refine ctlT ?_)
    refine rgT ?_
    refine lo (lop_move (E rfl)) rfl ?_
    refine lo (lop_assign (E rfl)) rfl ?_
    refine leT ?_
    (refine ctlT ?_)
    refine rgD [(0, true), (1, true), (2, true), (3, true), (4, true), (5, true), (6, true), (7, true), (8, true)] ?_
    refine dlo rfl (lop_move (E rfl)) rfl ?_
    refine dlo rfl (lop_move (E rfl)) rfl ?_
    refine z56 ?_
    refine z57 ?_
    refine dlo rfl (lop_move (E rfl)) rfl ?_
    refine dlo rfl (lop_move (E rfl)) rfl ?_
    refine z56 ?_
    refine z57 ?_
    refine z58 ?_
    refine deT ?_
    (refine ctlT ?_)
    refine sw_cond rfl (fun h2 => ?_) (fun h2 => ?_)
    · (refine ctlT ?_)
      refine rgT ?_
      refine lo (lop_assign (E rfl)) rfl ?_
      refine leT ?_
      (refine ctlT ?_)
      (apply aend; (exact resT))
      · have hne : xs ≠ ys := by rintro rfl; rw [hx] at hy; simp at hy; subst hy; simp at h2
        exact ⟨by simp [resAV, ofConst, hne], rfl⟩
      · (exact stleT)
    · (refine ctlT ?_)
      refine rgT ?_
      refine z17 ?_
      refine lo (lop_move (E rfl)) rfl ?_
      refine leT ?_
      (refine ctlT ?_)
      refine ⟨k + 1, ⟨by omega, ?_⟩, by omega, ?_⟩
      · rw [List.take_add_one, List.take_add_one, ht, hx, hy]
        simp at h2
        rw [h2]
      · (exact sgoT)
  · (refine ctlT ?_)
    refine rgT ?_
    refine lo (lop_assign (E rfl)) rfl ?_
    refine leT ?_
    (refine ctlT ?_)
    (apply aend; (exact resT))
    · simp at h1
      have : xs = ys := by rwa [List.take_of_length_le (by omega), List.take_of_length_le (by omega)] at ht
      exact ⟨by simp [resAV, ofConst, this], rfl⟩
    · (exact stleT)
/-- a function value that tells p of a number, and leaves the entries σ as they are -/
def Tells (P : Program) (f : FuncId) (caps : List AV) (σ : Sto) (p : Int → Bool) : Prop :=
  (∀ args w, (callFunc f args).run P w = .ok (.enter f args) w) ∧ ∀ c, SCall P f ([] ++ [.int .i64 c] ++ caps) σ (fun r σ' => r = .bool (p c) ∧ σ' = σ)
set_option maxRecDepth 100000 in
theorem lib_indexFunc {k : Rk} {f : FuncId} {caps : List AV} {σ : Sto} {p : Int → Bool} (hp : Tells Try.prog f caps σ p) (l : List Int) : SCall Try.prog 61 [.ro 1 (l.map encI) k, .fn (.func f) [] caps] σ (fun x σ' => ∃ m : Int, x = .int .i64 m ∧ decide (0 ≤ m) = l.any p ∧ σ' = σ) := by
  refine scall_of (n := 19) (ks := [0, 1, 4, 5, 7, 8, 9, 16]) Try.func61 rfl rfl (Nat.le_of_ble_eq_true rfl) ?_
  refine sw_max (i := 0) rfl fun hm => ?_
  rw [List.length_map] at hm
  unfold maxLen at hm
  (refine ctlT ?_)
  refine rgT ?_
  refine lo (lop_assign (E rfl)) rfl ?_
  refine leT ?_
  (refine ctlT ?_)
  refine rgT ?_
  refine lo (lop_move (E rfl)) rfl ?_
  refine z14 ?_
  refine lo (lop_move (E rfl)) rfl ?_
  refine leT ?_
  (refine ctlT ?_)
  refine lp (β := Nat) (fun j => ⟨[(0, .ro 1 (l.map encI) k), (1, .fn (.func f) [] caps), (7, .int .i64 l.length), (8, .int .i64 j)], σ⟩) (fun j => j ≤ l.length ∧ (l.take j).any p = false) (fun j => l.length - j) 0 ?_ ⟨Nat.zero_le _, rfl⟩ ?_
  · (exact sgoT)
  rintro j ⟨hj, ht⟩
  (refine ctlT ?_)
  refine rgT ?_
  refine lo (lop_lss (E rfl) (E rfl)) rfl ?_
  refine leT ?_
  (refine ctlT ?_)
  refine sw_cond rfl (fun h1 => ?_) (fun h1 => ?_)
  · have hlt : j < l.length := by simp at h1; omega
    obtain ⟨x, hx⟩ : ∃ x, l[j]? = some x := ⟨_, List.getElem?_eq_getElem hlt⟩
    (refine ctlT ?_)
    refine rgT ?_
    refine lo (lop_move (E rfl)) rfl ?_
    refine lo (lop_assign (E rfl)) rfl ?_
    refine leT ?_
    (refine ctlT ?_)
    refine rgT ?_
    refine lo (lop_move (E rfl)) rfl ?_
    refine lo (lop_move (E rfl)) rfl ?_
    refine lo (lop_move (E rfl)) rfl ?_
    refine z15 ?_
    refine z16 ?_
    refine cf_ σ rfl hp.1 (hp.2 x) rfl ?_ ?_ ?_
    · (exact argsleT)
    · exact fun _ h => h
    rintro r σ' ⟨rfl, rfl⟩ -
    rw [sdrop_all, List.append_nil]
    refine leT ?_
    (refine ctlT ?_)
    refine sw_cond rfl (fun h2 => ?_) (fun h2 => ?_)
    · (refine ctlT ?_)
      refine rgT ?_
      refine lo (lop_move (E rfl)) rfl ?_
      refine lo (lop_assign (E rfl)) rfl ?_
      refine leT ?_
      (refine ctlT ?_)
      (apply aend; (exact resT))
      · refine ⟨j, rfl, ?_, rfl⟩
        rw [decide_eq_true (by omega)]
        exact (List.any_eq_true.2 ⟨x, List.mem_of_getElem? hx, h2⟩).symm
      · (exact stleT)
    · (refine ctlT ?_)
      refine rgT ?_
      refine z17 ?_
      refine lo (lop_move (E rfl)) rfl ?_
      refine leT ?_
      (refine ctlT ?_)
      refine ⟨j + 1, ⟨by omega, ?_⟩, by omega, ?_⟩
      · rw [List.take_add_one, hx, List.any_append, ht]
        simp [h2]
      · (exact sgoT)
  · (refine ctlT ?_)
    refine rgT ?_
    refine lo (lop_assign (E rfl)) rfl ?_
    refine leT ?_
    (refine ctlT ?_)
    (apply aend; (exact resT))
    · simp at h1
      rw [List.take_of_length_le (by omega)] at ht
      exact ⟨-1, rfl, by rw [ht]; rfl, rfl⟩
    · (exact stleT)
set_option maxRecDepth 100000 in
theorem lib_containsFunc {k : Rk} {f : FuncId} {caps : List AV} {σ : Sto} {p : Int → Bool} (hp : Tells Try.prog f caps σ p) (l : List Int) : SCall Try.prog 43 [.ro 1 (l.map encI) k, .fn (.func f) [] caps] σ (fun x σ' => x = .bool (l.any p) ∧ σ' = σ) := by
  refine scall_of (n := 9) (ks := [0, 1, 4]) Try.func43 rfl rfl (Nat.le_of_ble_eq_true rfl) ?_
  (refine ctlT ?_)
  refine rgT ?_
  refine lo (lop_assign (E rfl)) rfl ?_
  refine leT ?_
  (refine ctlT ?_)
  refine rgT ?_
  refine lo (lop_move (E rfl)) rfl ?_
  refine lo (lop_move (E rfl)) rfl ?_
  refine cw σ Try.call61 (lib_indexFunc (k := k) hp l) rfl ?_ ?_ ?_
  · (exact argsleT)
  · exact fun _ h => h
  rintro x σ' ⟨m, rfl, hm, rfl⟩ -
  rw [sdrop_all, List.append_nil]
  refine lo (lop_geq (E rfl) (E rfl)) rfl ?_
  refine lo (lop_assign (E rfl)) rfl ?_
  refine leT ?_
  (refine ctlT ?_)
  (apply aend; (exact resT))
  · exact ⟨by simp only [resAV]; rw [← hm], rfl⟩
  · (exact stleT)
end Go.Proofs.Ytkjfflabapeidaa
/-
  Instructions: which may be, which are the same.
-/
namespace Go.Proofs.Ytkjfflabapeidaa
open Go.RowKit Go.ChangeShapes Go.WideShapes Go.ChangeAt Go.Deep
set_option linter.unusedSimpArgs false
set_option linter.unusedVariables false
attribute [local irreducible] SW RS RD AThen ABlock

structure Ins where
  op : Int
  a : Int
  b : Int
  l : List Int
/-- an instruction as parts; its list in words k -/
def iv (k : Rk) (x : Ins) : List AV := [.int .i64 x.op, .int .i64 x.a, .int .i64 x.b, .ro 1 (x.l.map encI) k]
def Ins.Ok (x : Ins) : Prop := -9223372036854775808 ≤ x.op ∧ x.op ≤ 9223372036854775807 ∧ -9223372036854775808 ≤ x.a ∧ x.a ≤ 9223372036854775807 ∧ x.l.length ≤ 1000000
set_option maxRecDepth 100000 in
theorem instr_between (n a b : Int) : SCall Try.prog 41 [.int .i64 n, .int .i64 a, .int .i64 b] [] (fun x σ => x = .bool (bt2 n a b) ∧ σ = []) := by
  refine scall_of (n := 15) (ks := [0, 1, 2, 6]) Try.func41 rfl rfl (Nat.le_of_ble_eq_true rfl) ?_
  (refine ctlT ?_)
  refine rgT ?_
  refine lo (lop_assign (E rfl)) rfl ?_
  refine leT ?_
  (refine ctlT ?_)
  refine rgT ?_
  refine lo (lop_move (E rfl)) rfl ?_
  refine lo (lop_move (E rfl)) rfl ?_
  refine lo (lop_geq (E rfl) (E rfl)) rfl ?_
  refine lo (lop_move (E rfl)) rfl ?_
  refine z4 ?_
  refine z4 ?_
  refine z54 ?_
  refine z7 ?_
  refine lo (lop_assign (E rfl)) rfl ?_
  refine leT ?_
  (refine ctlT ?_)
  (apply aend; (exact resT))
  · exact ⟨rfl, rfl⟩
  · (exact stleT)
set_option maxRecDepth 100000 in
theorem instr_small (n : Int) : SCall Try.prog 42 [.int .i64 n] [] (fun x σ => x = .bool (bt2 n 0 1000) ∧ σ = []) := by
  refine scall_of (n := 5) (ks := [0, 2]) Try.func42 rfl rfl (Nat.le_of_ble_eq_true rfl) ?_
  (refine ctlT ?_)
  refine rgT ?_
  refine lo (lop_assign (E rfl)) rfl ?_
  refine leT ?_
  (refine ctlT ?_)
  refine rgT ?_
  refine lo (lop_move (E rfl)) rfl ?_
  (first | refine ln rfl rfl rfl rfl ?_ | refine lw rfl rfl (lop_no (v := .bool false)) rfl ?_ | refine pu [] Try.call41 (instr_between _ _ _) rfl argsT nofT ?_ | refine pug [] rfl rfl Try.call41 (fun _ => (instr_between _ _ _)) rfl argsT nofT ?_ | refine puw [] rfl rfl Try.call41 (fun _ => (instr_between _ _ _)) rfl argsT nofT ?_)
  refine lo (lop_assign (E rfl)) rfl ?_
  refine leT ?_
  (refine ctlT ?_)
  (apply aend; (exact resT))
  · exact ⟨rfl, rfl⟩
  · (exact stleT)
set_option maxRecDepth 100000 in
theorem instr_not_small : Tells Try.prog 44 [] [] (fun n => !bt2 n 0 1000) := by
  refine ⟨Try.call44, fun n => ?_⟩
  refine scall_of (n := 6) (ks := [0, 2]) Try.func44 rfl rfl (Nat.le_of_ble_eq_true rfl) ?_
  (refine ctlT ?_)
  refine rgT ?_
  refine lo (lop_assign (E rfl)) rfl ?_
  refine leT ?_
  (refine ctlT ?_)
  refine rgT ?_
  refine lo (lop_move (E rfl)) rfl ?_
  (first | refine ln rfl rfl rfl rfl ?_ | refine lw rfl rfl (lop_no (v := .bool false)) rfl ?_ | refine pu [] Try.call42 (instr_small _) rfl argsT nofT ?_ | refine pug [] rfl rfl Try.call42 (fun _ => (instr_small _)) rfl argsT nofT ?_ | refine puw [] rfl rfl Try.call42 (fun _ => (instr_small _)) rfl argsT nofT ?_)
  refine lo (lop_not (E rfl)) rfl ?_
  refine lo (lop_assign (E rfl)) rfl ?_
  refine leT ?_
  (refine ctlT ?_)
  (apply aend; (exact resT))
  · exact ⟨rfl, rfl⟩
  · (exact stleT)
theorem instr_formN (op : Int) : SCall Try.prog 40 [.int .i64 op] [] (fun x σ => x = .int .i64 (formN op) ∧ σ = []) := by
  have := instr_form op
  rwa [kN_ok] at this
theorem ref_formN (op : Int) (h : -9223372036854775808 ≤ op ∧ op ≤ 9223372036854775807) : SCall Try.prog 27 [.int .i64 op] [] (fun x σ => x = .int .i64 (formN op) ∧ σ = []) := by
  have := ref_form op
  rwa [rkN_ok op h] at this
def preN (x : Ins) (f : Int) : Bool := if (if (f != 4) = true then decide (0 < (x.l.length : Int)) else false) = true then true else if (f != 6) = true then (x.b != 0) else false
/-- which instructions may be -/
def mayN (x : Ins) : Bool :=
  if preN x (formN x.op) = true then false
  else if (formN x.op == 1 || formN x.op == 7) = true then (x.a == 0)
  else if (formN x.op == 2) = true then bt2 x.a 0 2
  else if (formN x.op == 3 || formN x.op == 5) = true then bt2 x.a 0 1000
  else if (formN x.op == 4) = true then (if (if bt2 x.a 0 1000 = true then decide ((x.l.length : Int) ≤ 50) else false) = true then !(x.l.any fun n => !bt2 n 0 1000) else false)
  else if (formN x.op == 6) = true then (if bt2 x.a 0 3 = true then bt2 x.b 0 4294967295 else false)
  else if (formN x.op == 8) = true then bt2 x.a (-2147483648) 2147483647
  else (formN x.op == 9)
theorem acc_raw (a b : Int) : (if (if (if decide (0 ≤ a) = true then decide (a ≤ 3) else false) = true then decide (0 ≤ b) else false) = true then decide (b < 4294967296) else false) =
    (if (if decide (0 ≤ a) = true then decide (a ≤ 3) else false) = true then (if decide (0 ≤ b) = true then decide (b ≤ 4294967295) else false) else false) := by
  rw [show decide (b ≤ 4294967295) = decide (b < 4294967296) by rw [decide_eq_decide]; omega]
  generalize (if decide (0 ≤ a) = true then decide (a ≤ 3) else false) = b1
  cases b1 <;> simp
theorem c32_raw (a : Int) : (if decide (-2147483648 ≤ a) = true then decide (a < 2147483648) else false) = (if decide (-2147483648 ≤ a) = true then decide (a ≤ 2147483647) else false) := by
  rw [show decide (a ≤ 2147483647) = decide (a < 2147483648) by rw [decide_eq_decide]; omega]
set_option maxRecDepth 100000 in
theorem instr_may (k : Rk) (x : Ins) : SCall Try.prog 20 [.agg (iv k x)] [] (fun r σ => r = .bool (mayN x) ∧ σ = []) := by
  refine scall_of (n := 76) (ks := [0, 1, 2, 3, 23, 24, 25, 31, 36, 42, 59, 69, 74]) Try.func20 rfl rfl (Nat.le_of_ble_eq_true rfl) ?_
  unfold iv
  (refine ctlT ?_)
  refine rgT ?_
  apply bx; rfl; rfl; (exact zcT); rfl; refine freshT fun r1 h1 => ?_; (repeat (rcases h1 with ⟨_, h1⟩))
  refine lo (lop_assign (E rfl)) rfl ?_
  refine leT ?_
  (refine ctlT ?_)
  refine rgT ?_
  refine z59 ?_
  refine z60 ?_
  (first | refine ln rfl rfl rfl rfl ?_ | refine lw rfl rfl (lop_no (v := .bool false)) rfl ?_ | refine pu [] Try.call40 (instr_formN _) rfl argsT nofT ?_ | refine pug [] rfl rfl Try.call40 (fun _ => (instr_formN _)) rfl argsT nofT ?_ | refine puw [] rfl rfl Try.call40 (fun _ => (instr_formN _)) rfl argsT nofT ?_)
  refine lo (lop_assign (E rfl)) rfl ?_
  refine leT ?_
  (refine ctlT ?_)
  refine rgT ?_
  refine lo (lop_move (E rfl)) rfl ?_
  refine lo (lop_neq (E rfl) (E rfl)) rfl ?_
  refine lo (lop_move (E rfl)) rfl ?_
  refine z61 ?_
  refine z62 ?_
  refine z63 ?_
  refine z18 ?_
  refine z7 ?_
  refine lo (lop_move (E rfl)) rfl ?_
  refine z4 ?_
  refine z64 ?_
  refine z8 ?_
  refine z65 ?_
  refine z66 ?_
  refine z11 ?_
  refine z12 ?_
  refine z13 ?_
  refine leT ?_
  (refine ctlT ?_)
  refine sw_cond rfl (fun g1 => ?_) (fun g1 => ?_)
  · (refine ctlT ?_)
    refine rgT ?_
    refine lo (lop_assign (E rfl)) rfl ?_
    refine leT ?_
    (refine ctlT ?_)
    (apply aend; (exact resT))
    · (unfold mayN preN; simp only [g1, if_true, if_false, Bool.false_eq_true]; exact ⟨rfl, rfl⟩)
    · (exact stleT)
  (refine ctlT ?_)
  refine rgT ?_
  refine lo (lop_move (E rfl)) rfl ?_
  refine leT ?_
  (refine ctlT ?_)
  refine rgT ?_
  refine lo (lop_eql (E rfl) (E rfl)) rfl ?_
  refine lo (lop_assign (E rfl)) rfl ?_
  refine leT ?_
  (refine ctlT ?_)
  apply sw_orr rfl; exact fdelT
  · intro _; (refine ctlT ?_)
    refine rgT ?_
    refine lo (lop_eql (E rfl) (E rfl)) rfl ?_
    refine lo (lop_assign (E rfl)) rfl ?_
    refine leT ?_
    (refine ctlT ?_)
    (exact sgoT)
  (refine ctlT ?_)
  refine sw_cond rfl (fun g2 => ?_) (fun g2 => ?_)
  · (refine ctlT ?_)
    refine rgT ?_
    refine z59 ?_
    refine z60 ?_
    refine lo (lop_eql (E rfl) (E rfl)) rfl ?_
    refine lo (lop_assign (E rfl)) rfl ?_
    refine leT ?_
    (refine ctlT ?_)
    (apply aend; (exact resT))
    · (unfold mayN preN; simp only [g1, g2, if_true, if_false, Bool.false_eq_true]; exact ⟨rfl, rfl⟩)
    · (exact stleT)
  (refine ctlT ?_)
  refine rgT ?_
  refine lo (lop_eql (E rfl) (E rfl)) rfl ?_
  refine lo (lop_assign (E rfl)) rfl ?_
  refine leT ?_
  (refine ctlT ?_)
  refine sw_cond rfl (fun g3 => ?_) (fun g3 => ?_)
  · (refine ctlT ?_)
    refine rgT ?_
    refine z59 ?_
    refine z60 ?_
    (first | refine ln rfl rfl rfl rfl ?_ | refine lw rfl rfl (lop_no (v := .bool false)) rfl ?_ | refine pu [] Try.call41 (instr_between _ _ _) rfl argsT nofT ?_ | refine pug [] rfl rfl Try.call41 (fun _ => (instr_between _ _ _)) rfl argsT nofT ?_ | refine puw [] rfl rfl Try.call41 (fun _ => (instr_between _ _ _)) rfl argsT nofT ?_)
    refine lo (lop_assign (E rfl)) rfl ?_
    refine leT ?_
    (refine ctlT ?_)
    (apply aend; (exact resT))
    · (unfold mayN preN; simp only [g1, g2, g3, if_true, if_false, Bool.false_eq_true]; exact ⟨rfl, rfl⟩)
    · (exact stleT)
  (refine ctlT ?_)
  refine rgT ?_
  refine lo (lop_eql (E rfl) (E rfl)) rfl ?_
  refine lo (lop_assign (E rfl)) rfl ?_
  refine leT ?_
  (refine ctlT ?_)
  apply sw_orr rfl; exact fdelT
  · intro _; (refine ctlT ?_)
    refine rgT ?_
    refine lo (lop_eql (E rfl) (E rfl)) rfl ?_
    refine lo (lop_assign (E rfl)) rfl ?_
    refine leT ?_
    (refine ctlT ?_)
    (exact sgoT)
  (refine ctlT ?_)
  refine sw_cond rfl (fun g4 => ?_) (fun g4 => ?_)
  · (refine ctlT ?_)
    refine rgT ?_
    refine z59 ?_
    refine z60 ?_
    (first | refine ln rfl rfl rfl rfl ?_ | refine lw rfl rfl (lop_no (v := .bool false)) rfl ?_ | refine pu [] Try.call42 (instr_small _) rfl argsT nofT ?_ | refine pug [] rfl rfl Try.call42 (fun _ => (instr_small _)) rfl argsT nofT ?_ | refine puw [] rfl rfl Try.call42 (fun _ => (instr_small _)) rfl argsT nofT ?_)
    refine lo (lop_assign (E rfl)) rfl ?_
    refine leT ?_
    (refine ctlT ?_)
    (apply aend; (exact resT))
    · (unfold mayN preN; simp only [g1, g2, g3, g4, if_true, if_false, Bool.false_eq_true]; exact ⟨rfl, rfl⟩)
    · (exact stleT)
  (refine ctlT ?_)
  refine rgT ?_
  refine lo (lop_eql (E rfl) (E rfl)) rfl ?_
  refine lo (lop_assign (E rfl)) rfl ?_
  refine leT ?_
  (refine ctlT ?_)
  refine sw_cond rfl (fun g5 => ?_) (fun g5 => ?_)
  · (refine ctlT ?_)
    refine rgT ?_
    refine z59 ?_
    refine z60 ?_
    (first | refine ln rfl rfl rfl rfl ?_ | refine lw rfl rfl (lop_no (v := .bool false)) rfl ?_ | refine pu [] Try.call42 (instr_small _) rfl argsT nofT ?_ | refine pug [] rfl rfl Try.call42 (fun _ => (instr_small _)) rfl argsT nofT ?_ | refine puw [] rfl rfl Try.call42 (fun _ => (instr_small _)) rfl argsT nofT ?_)
    refine lo (lop_move (E rfl)) rfl ?_
    refine z61 ?_
    refine z62 ?_
    refine z63 ?_
    refine z55 ?_
    refine z7 ?_
    refine lo (lop_move (E rfl)) rfl ?_
    refine z61 ?_
    refine z62 ?_
    (first | refine ln rfl rfl rfl rfl ?_ | refine lw rfl rfl (lop_no (v := .bool false)) rfl ?_ | refine pu [] Try.call43 (lib_containsFunc instr_not_small x.l) rfl argsT nofT ?_ | refine pug [] rfl rfl Try.call43 (fun _ => (lib_containsFunc instr_not_small x.l)) rfl argsT nofT ?_ | refine puw [] rfl rfl Try.call43 (fun _ => (lib_containsFunc instr_not_small x.l)) rfl argsT nofT ?_)
    refine z67 ?_
    refine z7 ?_
    refine lo (lop_assign (E rfl)) rfl ?_
    refine leT ?_
    (refine ctlT ?_)
    (apply aend; (exact resT))
    · (unfold mayN preN; simp only [g1, g2, g3, g4, g5, if_true, if_false, Bool.false_eq_true]; exact ⟨rfl, rfl⟩)
    · (exact stleT)
  (refine ctlT ?_)
  refine rgT ?_
  refine lo (lop_eql (E rfl) (E rfl)) rfl ?_
  refine lo (lop_assign (E rfl)) rfl ?_
  refine leT ?_
  (refine ctlT ?_)
  refine sw_cond rfl (fun g6 => ?_) (fun g6 => ?_)
  · (refine ctlT ?_)
    refine rgT ?_
    refine z59 ?_
    refine z60 ?_
    (first | refine ln rfl rfl rfl rfl ?_ | refine lw rfl rfl (lop_no (v := .bool false)) rfl ?_ | refine pu [] Try.call41 (instr_between _ _ _) rfl argsT nofT ?_ | refine pug [] rfl rfl Try.call41 (fun _ => (instr_between _ _ _)) rfl argsT nofT ?_ | refine puw [] rfl rfl Try.call41 (fun _ => (instr_between _ _ _)) rfl argsT nofT ?_)
    refine lo (lop_move (E rfl)) rfl ?_
    refine z61 ?_
    refine z62 ?_
    (first | refine ln rfl rfl rfl rfl ?_ | refine lw rfl rfl (lop_no (v := .bool false)) rfl ?_ | refine pu [] Try.call41 (instr_between _ _ _) rfl argsT nofT ?_ | refine pug [] rfl rfl Try.call41 (fun _ => (instr_between _ _ _)) rfl argsT nofT ?_ | refine puw [] rfl rfl Try.call41 (fun _ => (instr_between _ _ _)) rfl argsT nofT ?_)
    refine z68 ?_
    refine lo (lop_assign (E rfl)) rfl ?_
    refine leT ?_
    (refine ctlT ?_)
    (apply aend; (exact resT))
    · (unfold mayN preN; simp only [g1, g2, g3, g4, g5, g6, if_true, if_false, Bool.false_eq_true]; exact ⟨rfl, rfl⟩)
    · (exact stleT)
  (refine ctlT ?_)
  refine rgT ?_
  refine lo (lop_eql (E rfl) (E rfl)) rfl ?_
  refine lo (lop_assign (E rfl)) rfl ?_
  refine leT ?_
  (refine ctlT ?_)
  refine sw_cond rfl (fun g7 => ?_) (fun g7 => ?_)
  · (refine ctlT ?_)
    refine rgT ?_
    refine z59 ?_
    refine z60 ?_
    (first | refine ln rfl rfl rfl rfl ?_ | refine lw rfl rfl (lop_no (v := .bool false)) rfl ?_ | refine pu [] Try.call41 (instr_between _ _ _) rfl argsT nofT ?_ | refine pug [] rfl rfl Try.call41 (fun _ => (instr_between _ _ _)) rfl argsT nofT ?_ | refine puw [] rfl rfl Try.call41 (fun _ => (instr_between _ _ _)) rfl argsT nofT ?_)
    refine lo (lop_assign (E rfl)) rfl ?_
    refine leT ?_
    (refine ctlT ?_)
    (apply aend; (exact resT))
    · (unfold mayN preN; simp only [g1, g2, g3, g4, g5, g6, g7, if_true, if_false, Bool.false_eq_true]; exact ⟨rfl, rfl⟩)
    · (exact stleT)
  (refine ctlT ?_)
  refine rgT ?_
  refine lo (lop_eql (E rfl) (E rfl)) rfl ?_
  refine lo (lop_assign (E rfl)) rfl ?_
  refine leT ?_
  (refine ctlT ?_)
  refine sw_cond rfl (fun g8 => ?_) (fun g8 => ?_)
  · (refine ctlT ?_)
    refine rgT ?_
    refine lo (lop_assign (E rfl)) rfl ?_
    refine leT ?_
    (refine ctlT ?_)
    (apply aend; (exact resT))
    · (unfold mayN preN; simp only [g1, g2, g3, g4, g5, g6, g7, g8, if_true, if_false, Bool.false_eq_true]; exact ⟨rfl, rfl⟩)
    · (exact stleT)
  (refine ctlT ?_)
  refine rgT ?_
  refine lo (lop_assign (E rfl)) rfl ?_
  refine leT ?_
  (refine ctlT ?_)
  (apply aend; (exact resT))
  · (unfold mayN preN; simp only [g1, g2, g3, g4, g5, g6, g7, g8, if_true, if_false, Bool.false_eq_true]; exact ⟨rfl, rfl⟩)
  · (exact stleT)
set_option maxRecDepth 100000 in
theorem ref_mayInstr (k : Rk) (x : Ins) (hx : x.Ok) : SCall Try.prog 19 [.agg (iv k x)] [] (fun r σ => r = .bool (mayN x) ∧ σ = []) := by
  have hop : -9223372036854775808 ≤ x.op ∧ x.op ≤ 9223372036854775807 := ⟨hx.1, hx.2.1⟩
  have hl := hx.2.2.2.2
  refine scall_of (n := 122) (ks := [0, 1, 2, 3, 4, 24, 25, 26, 32, 42, 53, 59, 75, 90, 110]) Try.func19 rfl rfl (Nat.le_of_ble_eq_true rfl) ?_
  unfold iv
  (refine ctlT ?_)
  refine rgT ?_
  apply bx; rfl; rfl; (exact zcT); rfl; refine freshT fun r1 h1 => ?_; (repeat (rcases h1 with ⟨_, h1⟩))
  refine lo (lop_assign (E rfl)) rfl ?_
  refine leT ?_
  (refine ctlT ?_)
  refine rgT ?_
  refine z59 ?_
  refine z60 ?_
  (first | refine ln rfl rfl rfl rfl ?_ | refine lw rfl rfl (lop_no (v := .bool false)) rfl ?_ | refine pu [] Try.call27 (ref_formN _ (by assumption)) rfl argsT nofT ?_ | refine pug [] rfl rfl Try.call27 (fun _ => (ref_formN _ (by assumption))) rfl argsT nofT ?_ | refine puw [] rfl rfl Try.call27 (fun _ => (ref_formN _ (by assumption))) rfl argsT nofT ?_)
  refine lo (lop_assign (E rfl)) rfl ?_
  refine leT ?_
  (refine ctlT ?_)
  refine rgT ?_
  refine lo (lop_move (E rfl)) rfl ?_
  refine lo (lop_neq (E rfl) (E rfl)) rfl ?_
  refine lo (lop_move (E rfl)) rfl ?_
  refine z61 ?_
  refine z62 ?_
  refine z63 ?_
  refine z18 ?_
  refine z7 ?_
  refine lo (lop_move (E rfl)) rfl ?_
  refine z4 ?_
  refine z64 ?_
  refine z8 ?_
  refine z65 ?_
  refine z66 ?_
  refine z11 ?_
  refine z12 ?_
  refine z13 ?_
  refine leT ?_
  (refine ctlT ?_)
  refine sw_cond rfl (fun g1 => ?_) (fun g1 => ?_)
  · (refine ctlT ?_)
    refine rgT ?_
    refine lo (lop_assign (E rfl)) rfl ?_
    refine leT ?_
    (refine ctlT ?_)
    (apply aend; (exact resT))
    · (unfold mayN preN bt2; simp only [g1, if_true, if_false, Bool.false_eq_true]; first | exact ⟨rfl, rfl⟩ | exact ⟨congrArg AV.bool (acc_raw x.a x.b), rfl⟩ | exact ⟨congrArg AV.bool (c32_raw x.a), rfl⟩)
    · (exact stleT)
  (refine ctlT ?_)
  refine rgT ?_
  refine lo (lop_move (E rfl)) rfl ?_
  refine leT ?_
  (refine ctlT ?_)
  refine rgT ?_
  refine lo (lop_eql (E rfl) (E rfl)) rfl ?_
  refine lo (lop_assign (E rfl)) rfl ?_
  refine leT ?_
  (refine ctlT ?_)
  apply sw_orr rfl; exact fdelT
  · intro _; (refine ctlT ?_)
    refine rgT ?_
    refine lo (lop_eql (E rfl) (E rfl)) rfl ?_
    refine lo (lop_assign (E rfl)) rfl ?_
    refine leT ?_
    (refine ctlT ?_)
    (exact sgoT)
  (refine ctlT ?_)
  refine sw_cond rfl (fun g2 => ?_) (fun g2 => ?_)
  · (refine ctlT ?_)
    refine rgT ?_
    refine z59 ?_
    refine z60 ?_
    refine lo (lop_eql (E rfl) (E rfl)) rfl ?_
    refine lo (lop_assign (E rfl)) rfl ?_
    refine leT ?_
    (refine ctlT ?_)
    (apply aend; (exact resT))
    · (unfold mayN preN bt2; simp only [g1, g2, if_true, if_false, Bool.false_eq_true]; first | exact ⟨rfl, rfl⟩ | exact ⟨congrArg AV.bool (acc_raw x.a x.b), rfl⟩ | exact ⟨congrArg AV.bool (c32_raw x.a), rfl⟩)
    · (exact stleT)
  (refine ctlT ?_)
  refine rgT ?_
  refine lo (lop_eql (E rfl) (E rfl)) rfl ?_
  refine lo (lop_assign (E rfl)) rfl ?_
  refine leT ?_
  (refine ctlT ?_)
  refine sw_cond rfl (fun g3 => ?_) (fun g3 => ?_)
  · (refine ctlT ?_)
    refine rgT ?_
    refine z59 ?_
    refine z60 ?_
    refine lo (lop_geq (E rfl) (E rfl)) rfl ?_
    refine lo (lop_move (E rfl)) rfl ?_
    refine z61 ?_
    refine z62 ?_
    refine z55 ?_
    refine z7 ?_
    refine lo (lop_assign (E rfl)) rfl ?_
    refine leT ?_
    (refine ctlT ?_)
    (apply aend; (exact resT))
    · (unfold mayN preN bt2; simp only [g1, g2, g3, if_true, if_false, Bool.false_eq_true]; first | exact ⟨rfl, rfl⟩ | exact ⟨congrArg AV.bool (acc_raw x.a x.b), rfl⟩ | exact ⟨congrArg AV.bool (c32_raw x.a), rfl⟩)
    · (exact stleT)
  (refine ctlT ?_)
  refine rgT ?_
  refine lo (lop_eql (E rfl) (E rfl)) rfl ?_
  refine lo (lop_assign (E rfl)) rfl ?_
  refine leT ?_
  (refine ctlT ?_)
  apply sw_orr rfl; exact fdelT
  · intro _; (refine ctlT ?_)
    refine rgT ?_
    refine lo (lop_eql (E rfl) (E rfl)) rfl ?_
    refine lo (lop_assign (E rfl)) rfl ?_
    refine leT ?_
    (refine ctlT ?_)
    (exact sgoT)
  (refine ctlT ?_)
  refine sw_cond rfl (fun g4 => ?_) (fun g4 => ?_)
  · (refine ctlT ?_)
    refine rgT ?_
    refine z59 ?_
    refine z60 ?_
    refine lo (lop_geq (E rfl) (E rfl)) rfl ?_
    refine lo (lop_move (E rfl)) rfl ?_
    refine z61 ?_
    refine z62 ?_
    refine z55 ?_
    refine z7 ?_
    refine lo (lop_assign (E rfl)) rfl ?_
    refine leT ?_
    (refine ctlT ?_)
    (apply aend; (exact resT))
    · (unfold mayN preN bt2; simp only [g1, g2, g3, g4, if_true, if_false, Bool.false_eq_true]; first | exact ⟨rfl, rfl⟩ | exact ⟨congrArg AV.bool (acc_raw x.a x.b), rfl⟩ | exact ⟨congrArg AV.bool (c32_raw x.a), rfl⟩)
    · (exact stleT)
  (refine ctlT ?_)
  refine rgT ?_
  refine lo (lop_eql (E rfl) (E rfl)) rfl ?_
  refine lo (lop_assign (E rfl)) rfl ?_
  refine leT ?_
  (refine ctlT ?_)
  refine sw_cond rfl (fun g5 => ?_) (fun g5 => ?_)
  · (refine ctlT ?_)
    refine rgT ?_
    refine lo (lop_assign (E rfl)) rfl ?_
    refine leT ?_
    (refine ctlT ?_)
    refine lp (β := Nat) (fun j => ⟨[(1, .ptr r1 0), (4, .int .i64 j)], [(r1, .box 24 [.int .i64 x.op, .int .i64 x.a, .int .i64 x.b, .ro 1 (x.l.map encI) k])]⟩) (fun j => j ≤ x.l.length ∧ (x.l.take j).any (fun n => !bt2 n 0 1000) = false) (fun j => x.l.length - j) 0 (by (exact sgoT)) ⟨Nat.zero_le _, rfl⟩ ?_
    rintro j ⟨hj, ht⟩
    (refine ctlT ?_)
    refine rgT ?_
    refine lo (lop_move (E rfl)) rfl ?_
    refine z59 ?_
    refine z60 ?_
    refine z14 ?_
    refine lo (lop_lss (E rfl) (E rfl)) rfl ?_
    refine leT ?_
    (refine ctlT ?_)
    refine sw_cond rfl (fun h1 => ?_) (fun h1 => ?_)
    · have hlt : j < x.l.length := by simp at h1; omega
      (refine ctlT ?_)
      refine rgT ?_
      refine z59 ?_
      refine z60 ?_
      refine lo (lop_move (E rfl)) rfl ?_
      refine z15 ?_
      refine z16 ?_
      refine lo (lop_lss (E rfl) (E rfl)) rfl ?_
      refine lo (lop_move (E rfl)) rfl ?_
      refine z61 ?_
      refine z62 ?_
      refine z4 ?_
      refine z71 ?_
      refine z72 ?_
      refine z18 ?_
      refine z13 ?_
      refine leT ?_
      (refine ctlT ?_)
      rw [Int.toNat_natCast]
      have hb : (if decide (x.l[j]! < 0) = true then true else decide (1000 < x.l[j]!)) = !bt2 x.l[j]! 0 1000 := by
        rw [bt2_eq]
        generalize x.l[j]! = y
        by_cases h3 : y < 0
        · rw [decide_eq_true h3, if_pos rfl, decide_eq_false (by omega)]; rfl
        · by_cases h4 : 1000 < y
          · rw [decide_eq_false h3, decide_eq_true h4, decide_eq_false (by omega)]; rfl
          · rw [decide_eq_false h3, decide_eq_false h4, decide_eq_true (by omega)]; rfl
      rw [hb]
      refine sw_cond rfl (fun h2 => ?_) (fun h2 => ?_)
      · have ha : (x.l.any fun n => !bt2 n 0 1000) = true := List.any_eq_true.2 ⟨x.l[j]!, by rw [getElem!_pos x.l j hlt]; exact List.getElem_mem hlt, h2⟩
        (refine ctlT ?_)
        refine rgT ?_
        refine lo (lop_assign (E rfl)) rfl ?_
        refine leT ?_
        (refine ctlT ?_)
        (apply aend; (exact resT))
        · unfold mayN preN
          simp only [g1, g2, g3, g4, g5, ha, if_true, if_false, Bool.false_eq_true]
          exact ⟨by simp [resAV, ofConst], rfl⟩
        · (exact stleT)
      · (refine ctlT ?_)
        refine rgT ?_
        refine lo (lop_move (E rfl)) rfl ?_
        refine z17 ?_
        refine lo (lop_assign (E rfl)) rfl ?_
        refine leT ?_
        (refine ctlT ?_)
        refine ⟨j + 1, ⟨by omega, ?_⟩, by omega, ?_⟩
        · rw [List.take_add_one, List.any_append, ht, List.getElem?_eq_getElem hlt]
          rw [getElem!_pos x.l j hlt] at h2
          simp only [Bool.false_or, Option.toList_some, List.any_cons, List.any_nil, Bool.or_false]
          exact h2
        · (exact sgoT)
    · obtain rfl : j = x.l.length := by simp at h1; omega
      rw [List.take_length] at ht
      (refine ctlT ?_)
      refine rgT ?_
      refine z59 ?_
      refine z60 ?_
      refine lo (lop_geq (E rfl) (E rfl)) rfl ?_
      refine lo (lop_move (E rfl)) rfl ?_
      refine z61 ?_
      refine z62 ?_
      refine z55 ?_
      refine z7 ?_
      refine lo (lop_move (E rfl)) rfl ?_
      refine z61 ?_
      refine z62 ?_
      refine z63 ?_
      refine z55 ?_
      refine z7 ?_
      refine lo (lop_assign (E rfl)) rfl ?_
      refine leT ?_
      (refine ctlT ?_)
      (apply aend; (exact resT))
      · unfold mayN preN
        simp only [g1, g2, g3, g4, g5, ht, if_true, if_false, Bool.false_eq_true]
        refine ⟨?_, rfl⟩
        unfold bt2
        show AV.bool _ = AV.bool _
        congr 1
        generalize (if decide (0 ≤ x.a) = true then decide (x.a ≤ 1000) else false) = b1
        cases b1 <;> simp
      · (exact stleT)
  (refine ctlT ?_)
  refine rgT ?_
  refine lo (lop_eql (E rfl) (E rfl)) rfl ?_
  refine lo (lop_assign (E rfl)) rfl ?_
  refine leT ?_
  (refine ctlT ?_)
  refine sw_cond rfl (fun g6 => ?_) (fun g6 => ?_)
  · (refine ctlT ?_)
    refine rgT ?_
    refine z59 ?_
    refine z60 ?_
    refine lo (lop_geq (E rfl) (E rfl)) rfl ?_
    refine lo (lop_move (E rfl)) rfl ?_
    refine z61 ?_
    refine z62 ?_
    refine z55 ?_
    refine z7 ?_
    refine lo (lop_move (E rfl)) rfl ?_
    refine z61 ?_
    refine z62 ?_
    refine z34 ?_
    refine z7 ?_
    refine lo (lop_move (E rfl)) rfl ?_
    refine z61 ?_
    refine z62 ?_
    refine z69 ?_
    refine z7 ?_
    refine lo (lop_assign (E rfl)) rfl ?_
    refine leT ?_
    (refine ctlT ?_)
    (apply aend; (exact resT))
    · (unfold mayN preN bt2; simp only [g1, g2, g3, g4, g5, g6, if_true, if_false, Bool.false_eq_true]; first | exact ⟨rfl, rfl⟩ | exact ⟨congrArg AV.bool (acc_raw x.a x.b), rfl⟩ | exact ⟨congrArg AV.bool (c32_raw x.a), rfl⟩)
    · (exact stleT)
  (refine ctlT ?_)
  refine rgT ?_
  refine lo (lop_eql (E rfl) (E rfl)) rfl ?_
  refine lo (lop_assign (E rfl)) rfl ?_
  refine leT ?_
  (refine ctlT ?_)
  refine sw_cond rfl (fun g7 => ?_) (fun g7 => ?_)
  · (refine ctlT ?_)
    refine rgT ?_
    refine z59 ?_
    refine z60 ?_
    refine lo (lop_geq (E rfl) (E rfl)) rfl ?_
    refine lo (lop_move (E rfl)) rfl ?_
    refine z61 ?_
    refine z62 ?_
    refine z69 ?_
    refine z7 ?_
    refine lo (lop_assign (E rfl)) rfl ?_
    refine leT ?_
    (refine ctlT ?_)
    (apply aend; (exact resT))
    · (unfold mayN preN bt2; simp only [g1, g2, g3, g4, g5, g6, g7, if_true, if_false, Bool.false_eq_true]; first | exact ⟨rfl, rfl⟩ | exact ⟨congrArg AV.bool (acc_raw x.a x.b), rfl⟩ | exact ⟨congrArg AV.bool (c32_raw x.a), rfl⟩)
    · (exact stleT)
  (refine ctlT ?_)
  refine rgT ?_
  refine lo (lop_move (E rfl)) rfl ?_
  refine lo (lop_eql (E rfl) (E rfl)) rfl ?_
  refine lo (lop_assign (E rfl)) rfl ?_
  refine leT ?_
  (refine ctlT ?_)
  (apply aend; (exact resT))
  · (unfold mayN preN bt2; simp only [g1, g2, g3, g4, g5, g6, g7, if_true, if_false, Bool.false_eq_true]; first | exact ⟨rfl, rfl⟩ | exact ⟨congrArg AV.bool (acc_raw x.a x.b), rfl⟩ | exact ⟨congrArg AV.bool (c32_raw x.a), rfl⟩)
  · (exact stleT)
/-- the same, part by part? -/
def eqN (x y : Ins) : Bool := decide (x.op = y.op ∧ x.a = y.a ∧ x.b = y.b ∧ x.l = y.l)
theorem eqN_raw (x y : Ins) : (if (if (if (x.op == y.op) = true then x.a == y.a else false) = true then x.b == y.b else false) = true then decide (x.l = y.l) else false) = eqN x y := by
  unfold eqN
  by_cases h1 : x.op = y.op <;> by_cases h2 : x.a = y.a <;> by_cases h3 : x.b = y.b <;> simp [h1, h2, h3]
set_option maxRecDepth 100000 in
theorem instr_eq (k k2 : Rk) (x y : Ins) : SCall Try.prog 21 [.agg (iv k x), .agg (iv k2 y)] [] (fun r σ => r = .bool (eqN x y) ∧ σ = []) := by
  refine scall_of (n := 31) (ks := [0, 1, 2, 3, 4]) Try.func21 rfl rfl (Nat.le_of_ble_eq_true rfl) ?_
  unfold iv
  (refine ctlT ?_)
  refine rgT ?_
  apply bx; rfl; rfl; (exact zcT); rfl; refine freshT fun r2 h2 => ?_; (repeat (rcases h2 with ⟨_, h2⟩))
  apply bx; rfl; rfl; (exact zcT); rfl; refine freshT fun r3 h3 => ?_; (repeat (rcases h3 with ⟨_, h3⟩))
  refine lo (lop_assign (E rfl)) rfl ?_
  refine leT ?_
  (refine ctlT ?_)
  refine rgT ?_
  refine z59 ?_
  refine z60 ?_
  refine z59 ?_
  refine z60 ?_
  refine lo (lop_eql (E rfl) (E rfl)) rfl ?_
  refine lo (lop_move (E rfl)) rfl ?_
  refine z61 ?_
  refine z62 ?_
  refine z61 ?_
  refine z62 ?_
  refine z70 ?_
  refine z7 ?_
  refine lo (lop_move (E rfl)) rfl ?_
  refine z61 ?_
  refine z62 ?_
  refine z61 ?_
  refine z62 ?_
  refine z70 ?_
  refine z7 ?_
  refine lo (lop_move (E rfl)) rfl ?_
  refine z61 ?_
  refine z62 ?_
  refine z61 ?_
  refine z62 ?_
  (first | refine ln rfl rfl rfl rfl ?_ | refine lw rfl rfl (lop_no (v := .bool false)) rfl ?_ | refine pu [] Try.call45 (lib_equal_int x.l y.l) rfl argsT nofT ?_ | refine pug [] rfl rfl Try.call45 (fun _ => (lib_equal_int x.l y.l)) rfl argsT nofT ?_ | refine puw [] rfl rfl Try.call45 (fun _ => (lib_equal_int x.l y.l)) rfl argsT nofT ?_)
  refine z68 ?_
  refine lo (lop_assign (E rfl)) rfl ?_
  refine leT ?_
  (refine ctlT ?_)
  (apply aend; (exact resT))
  · exact ⟨congrArg AV.bool (eqN_raw x y), rfl⟩
  · (exact stleT)
set_option maxRecDepth 100000 in
theorem ref_eqInstr (k k2 : Rk) (x y : Ins) : SCall Try.prog 22 [.agg (iv k x), .agg (iv k2 y)] [] (fun r σ => r = .bool (eqN x y) ∧ σ = []) := by
  refine scall_of (n := 31) (ks := [0, 1, 2, 3, 4]) Try.func22 rfl rfl (Nat.le_of_ble_eq_true rfl) ?_
  unfold iv
  (refine ctlT ?_)
  refine rgT ?_
  apply bx; rfl; rfl; (exact zcT); rfl; refine freshT fun r2 h2 => ?_; (repeat (rcases h2 with ⟨_, h2⟩))
  apply bx; rfl; rfl; (exact zcT); rfl; refine freshT fun r3 h3 => ?_; (repeat (rcases h3 with ⟨_, h3⟩))
  refine lo (lop_assign (E rfl)) rfl ?_
  refine leT ?_
  (refine ctlT ?_)
  refine rgT ?_
  refine z59 ?_
  refine z60 ?_
  refine z59 ?_
  refine z60 ?_
  refine lo (lop_eql (E rfl) (E rfl)) rfl ?_
  refine lo (lop_move (E rfl)) rfl ?_
  refine z61 ?_
  refine z62 ?_
  refine z61 ?_
  refine z62 ?_
  refine z70 ?_
  refine z7 ?_
  refine lo (lop_move (E rfl)) rfl ?_
  refine z61 ?_
  refine z62 ?_
  refine z61 ?_
  refine z62 ?_
  refine z70 ?_
  refine z7 ?_
  refine lo (lop_move (E rfl)) rfl ?_
  refine z61 ?_
  refine z62 ?_
  refine z61 ?_
  refine z62 ?_
  (first | refine ln rfl rfl rfl rfl ?_ | refine lw rfl rfl (lop_no (v := .bool false)) rfl ?_ | refine pu [] Try.call32 (ref_eqInts x.l y.l) rfl argsT nofT ?_ | refine pug [] rfl rfl Try.call32 (fun _ => (ref_eqInts x.l y.l)) rfl argsT nofT ?_ | refine puw [] rfl rfl Try.call32 (fun _ => (ref_eqInts x.l y.l)) rfl argsT nofT ?_)
  refine z68 ?_
  refine lo (lop_assign (E rfl)) rfl ?_
  refine leT ?_
  (refine ctlT ?_)
  (apply aend; (exact resT))
  · exact ⟨congrArg AV.bool (eqN_raw x y), rfl⟩
  · (exact stleT)
end Go.Proofs.Ytkjfflabapeidaa
/-
  Instructions as bytes: what is written.
-/
namespace Go.Proofs.Ytkjfflabapeidaa
open Go.RowKit Go.ChangeShapes Go.WideShapes Go.ChangeAt Go.Deep
set_option linter.unusedSimpArgs false
set_option linter.unusedVariables false
attribute [local irreducible] SW RS RD AThen ABlock

theorem may_none {x : Ins} (h : formN x.op = 0) : mayN x = false := by
  unfold mayN
  split
  · rfl
  · simp [h]
theorem form_op {op : Int} (h : formN op ≠ 0) : 0 ≤ op ∧ op ≤ 173 := by
  unfold formN formW kOk at h
  simp only [Bool.or_eq_true, beq_iff_eq, decide_eq_true_eq] at h
  by_cases hc : 0 ≤ op ∧ op ≤ 173
  · exact hc
  · exfalso
    repeat rw [if_neg (by omega)] at h
    exact h rfl
theorem may_op {x : Ins} (h : mayN x = true) : 0 ≤ x.op ∧ x.op ≤ 173 := by
  refine form_op fun h0 => ?_
  rw [may_none h0] at h
  cases h
theorem may2 {x : Ins} (h : mayN x = true) (hf : (formN x.op == 2) = true) : 0 ≤ x.a ∧ x.a ≤ 2 := by
  rw [beq_iff_eq] at hf
  simp [mayN, hf, bt2_eq] at h
  omega
theorem may3 {x : Ins} (h : mayN x = true) (hf : (formN x.op == 3) = true) : 0 ≤ x.a ∧ x.a ≤ 1000 := by
  rw [beq_iff_eq] at hf
  simp [mayN, hf, bt2_eq] at h
  omega
theorem may5 {x : Ins} (h : mayN x = true) (hf : (formN x.op == 5) = true) : 0 ≤ x.a ∧ x.a ≤ 1000 := by
  rw [beq_iff_eq] at hf
  simp [mayN, hf, bt2_eq] at h
  omega
theorem may4 {x : Ins} (h : mayN x = true) (hf : (formN x.op == 4) = true) : (0 ≤ x.a ∧ x.a ≤ 1000) ∧ x.l.length ≤ 50 ∧ ∀ n ∈ x.l, 0 ≤ n ∧ n ≤ 1000 := by
  rw [beq_iff_eq] at hf
  simp [mayN, hf, bt2_eq] at h
  obtain ⟨h1, ⟨h2, h3⟩, h4⟩ := h
  exact ⟨h2, by omega, h4⟩
theorem may6 {x : Ins} (h : mayN x = true) (hf : (formN x.op == 6) = true) : 0 ≤ x.a ∧ x.a ≤ 3 ∧ 0 ≤ x.b ∧ x.b ≤ 4294967295 := by
  rw [beq_iff_eq] at hf
  simp [mayN, hf, bt2_eq] at h
  omega
def kindB (a : Int) : Nat := if a = 0 then 64 else if a = 1 then 127 else 126
/-- what stands behind an instruction's byte -/
def putT (x : Ins) : List Nat :=
  if (formN x.op == 2) = true then [kindB x.a] else if (formN x.op == 3) = true then uB x.a.toNat else if (formN x.op == 5) = true then uB x.a.toNat ++ [0]
  else if (formN x.op == 4) = true then uB x.l.length ++ (x.l.flatMap fun n => uB n.toNat) ++ uB x.a.toNat else if (formN x.op == 6) = true then uB x.a.toNat ++ uB x.b.toNat
  else if (formN x.op == 7) = true then [0] else if (formN x.op == 8 || formN x.op == 9) = true then sB x.a else []
def putN (x : Ins) : List Nat := x.op.toNat :: putT x
theorem flat_len : ∀ {l : List Int}, (∀ n ∈ l, 0 ≤ n ∧ n ≤ 1000) → (l.flatMap fun n => uB n.toNat).length ≤ 2 * l.length
  | [], _ => by simp
  | n :: l, h => by
    have ih := flat_len (l := l) fun m hm => h m (List.mem_cons_of_mem _ hm)
    have hn := h n List.mem_cons_self
    have h1 := uB_len 1 n.toNat (by omega)
    simp only [List.flatMap_cons, List.length_append, List.length_cons]
    omega
theorem kind_at {a : Int} (h : 0 ≤ a ∧ a ≤ 2) : ([.int .u8 64, .int .u8 127, .int .u8 126] : List AV)[a.toNat]? = some (.int .u8 (kindB a : Nat)) := by
  have : a = 0 ∨ a = 1 ∨ a = 2 := by omega
  rcases this with rfl | rfl | rfl <;> rfl
set_option maxRecDepth 100000 in
theorem instr_put (q : Nat) (vs : List Nat) (hvs : vs.length ≤ 100000) (k : Rk) (x : Ins) (hx : x.Ok) (hm : mayN x = true) : SCall Try.prog 23 [.own q 0 vs.length, .agg (iv k x)] [(q, .arr 5 1 (vs.map encU))]
    (fun y σ => ∃ r, y = .own r 0 (vs ++ putN x).length ∧ σ = [(r, .arr 5 1 ((vs ++ putN x).map encU))]) := by
  have f1 := may_op hm
  have f2 := may2 hm
  have f3 := may3 hm
  have f4 := may4 hm
  have f5 := may5 hm
  have f6 := may6 hm
  have f8 : -9223372036854775808 ≤ x.a ∧ x.a ≤ 9223372036854775807 := ⟨hx.2.2.1, hx.2.2.2.1⟩
  obtain ⟨op, ai, bi, l⟩ := x
  dsimp only at f1 f2 f3 f4 f5 f6 f8
  obtain ⟨op, rfl⟩ := Int.eq_ofNat_of_zero_le f1.1
  have hvo : vs ++ putN ⟨(op : Int), ai, bi, l⟩ = (vs ++ [op]) ++ putT ⟨(op : Int), ai, bi, l⟩ := by simp [putN]
  rw [hvo]
  obtain ⟨us, hus⟩ : ∃ us, us = vs ++ [op] := ⟨_, rfl⟩
  have hul : us.length ≤ 100001 := by rw [hus]; simp; omega
  refine scall_of (n := 90) (ks := [0, 1, 3, 4, 6, 15, 16, 25, 32, 41, 50, 51, 52, 53, 66, 77, 82]) Try.func23 rfl rfl (Nat.le_of_ble_eq_true rfl) ?_
  unfold iv
  dsimp only
  (refine ctlT ?_)
  refine rgT ?_
  apply bx; rfl; rfl; (exact zcT); rfl; refine freshT fun r3 h3 => ?_; (repeat (rcases h3 with ⟨_, h3⟩))
  refine lo (lop_assign (E rfl)) rfl ?_
  refine leT ?_
  (refine ctlT ?_)
  refine rgT ?_
  refine lo (lop_move (E rfl)) rfl ?_
  refine z59 ?_
  refine z60 ?_
  refine z0 ?_
  refine z1 ?_; refine freshT fun r11 h11 => ?_; (repeat (rcases h11 with ⟨_, h11⟩))
  apply ap (es' := (vs ++ [op]).map encU) (len' := (vs ++ [op]).length); rfl; rfl; (exact sgT)
  · simp
  · exact .inr (.inr ⟨_, _, _, _, _, rfl, sgT, by simp, rfl⟩)
  · first | (simp [encU]; done) | (simp only [List.drop_zero, List.map_append]; congr 1; exact List.take_of_length_le (by simp))
  · simp; try omega
  · simp [maxLen]; try omega
  · simp; try omega
  · rfl
  refine apnT fun r12 h12 => ?_; (repeat (rcases h12 with ⟨_, h12⟩))
  refine lo (lop_assign (E rfl)) rfl ?_
  refine leT ?_
  (refine ctlT ?_)
  rw [← hus]
  refine rgT ?_
  refine z59 ?_
  refine z60 ?_
  (first | refine ln rfl rfl rfl rfl ?_ | refine lw rfl rfl (lop_no (v := .bool false)) rfl ?_ | refine pu [] Try.call40 (instr_formN _) rfl argsT nofT ?_ | refine pug [] rfl rfl Try.call40 (fun _ => (instr_formN _)) rfl argsT nofT ?_ | refine puw [] rfl rfl Try.call40 (fun _ => (instr_formN _)) rfl argsT nofT ?_)
  refine leT ?_
  (refine ctlT ?_)
  refine rgT ?_
  refine lo (lop_eql (E rfl) (E rfl)) rfl ?_
  refine lo (lop_assign (E rfl)) rfl ?_
  refine leT ?_
  (refine ctlT ?_)
  refine sw_cond rfl (fun g1 => ?_) (fun g1 => ?_)
  · (refine ctlT ?_)
    have ha := f2 g1
    have hp : putT ⟨(op : Int), ai, bi, l⟩ = [kindB ai] := by unfold putT; simp only [g1, if_true, if_false, Bool.false_eq_true]
    refine rgT ?_
    refine lo (lop_move (E rfl)) rfl ?_
    refine lo (lop_arr3 (z := _) ⟨_, _, _, rfl⟩) rfl ?_
    refine z59 ?_
    refine z60 ?_
    refine lo (lop_index rfl (E rfl) (E rfl) (fun _ => by omega) (fun _ => kind_at ha)) rfl ?_
    refine z1 ?_; refine freshT fun r23 h23 => ?_; (repeat (rcases h23 with ⟨_, h23⟩))
    apply ap (es' := (us ++ [kindB ai]).map encU) (len' := (us ++ [kindB ai]).length); rfl; rfl; (exact sgT)
    · simp
    · exact .inr (.inr ⟨_, _, _, _, _, rfl, sgT, by simp, rfl⟩)
    · first | (simp [encU]; done) | (simp only [List.drop_zero, List.map_append]; congr 1; exact List.take_of_length_le (by simp))
    · simp; try omega
    · simp [maxLen]; try omega
    · simp; try omega
    · rfl
    refine apnT fun r24 h24 => ?_; (repeat (rcases h24 with ⟨_, h24⟩))
    refine lo (lop_assign (E rfl)) rfl ?_
    refine leT ?_
    (refine ctlT ?_)
    rw [hp]
    (apply aend; (exact resT))
    · exact ⟨_, rfl, rfl⟩
    · (exact stleT)
  (refine ctlT ?_)
  refine rgT ?_
  refine lo (lop_eql (E rfl) (E rfl)) rfl ?_
  refine lo (lop_assign (E rfl)) rfl ?_
  refine leT ?_
  (refine ctlT ?_)
  refine sw_cond rfl (fun g2 => ?_) (fun g2 => ?_)
  · (refine ctlT ?_)
    have ha := f3 g2
    obtain ⟨a, rfl⟩ := Int.eq_ofNat_of_zero_le ha.1
    have hp : putT ⟨(op : Int), (a : Int), bi, l⟩ = uB a := by unfold putT; simp only [g1, g2, if_true, if_false, Bool.false_eq_true, Int.toNat_natCast]
    refine rgT ?_
    refine lo (lop_move (E rfl)) rfl ?_
    refine z59 ?_
    refine z60 ?_
    refine z24 ?_
    refine cw [(r12, .arr 5 1 ((us).map encU))] Try.call46 (leb_putU r12 (us) (by first | omega | (simp; omega)) a (by omega)) rfl ?_ ?_ ?_
    · (exact argsleT)
    · (exact stleT)
    rintro _ σ' ⟨ra, rfl, rfl⟩ hra
    have kra := rest1T hra; (repeat (rcases kra with ⟨_, kra⟩))
    (apply rs_sto; (exact nflT))
    refine lo (lop_assign (E rfl)) rfl ?_
    refine leT ?_
    (refine ctlT ?_)
    rw [hp]
    (apply aend; (exact resT))
    · exact ⟨_, rfl, rfl⟩
    · (exact stleT)
  (refine ctlT ?_)
  refine rgT ?_
  refine lo (lop_eql (E rfl) (E rfl)) rfl ?_
  refine lo (lop_assign (E rfl)) rfl ?_
  refine leT ?_
  (refine ctlT ?_)
  refine sw_cond rfl (fun g3 => ?_) (fun g3 => ?_)
  · (refine ctlT ?_)
    have ha := f5 g3
    obtain ⟨a, rfl⟩ := Int.eq_ofNat_of_zero_le ha.1
    have hp : putT ⟨(op : Int), (a : Int), bi, l⟩ = uB a ++ [0] := by unfold putT; simp only [g1, g2, g3, if_true, if_false, Bool.false_eq_true, Int.toNat_natCast]
    have hal := uB_len 1 a (by omega)
    refine rgT ?_
    refine lo (lop_move (E rfl)) rfl ?_
    refine z59 ?_
    refine z60 ?_
    refine z24 ?_
    refine cw [(r12, .arr 5 1 ((us).map encU))] Try.call46 (leb_putU r12 (us) (by first | omega | (simp; omega)) a (by omega)) rfl ?_ ?_ ?_
    · (exact argsleT)
    · (exact stleT)
    rintro _ σ' ⟨ra, rfl, rfl⟩ hra
    have kra := rest1T hra; (repeat (rcases kra with ⟨_, kra⟩))
    (apply rs_sto; (exact nflT))
    refine z1 ?_; refine freshT fun r39 h39 => ?_; (repeat (rcases h39 with ⟨_, h39⟩))
    apply ap (es' := ((us ++ uB a) ++ [0]).map encU) (len' := ((us ++ uB a) ++ [0]).length); rfl; rfl; (exact sgT)
    · simp
    · exact .inr (.inr ⟨_, _, _, _, _, rfl, sgT, by simp, rfl⟩)
    · first | (simp [encU]; done) | (simp only [List.drop_zero, List.map_append]; congr 1; exact List.take_of_length_le (by simp))
    · simp; try omega
    · simp [maxLen]; try omega
    · simp; try omega
    · rfl
    refine apnT fun r40 h40 => ?_; (repeat (rcases h40 with ⟨_, h40⟩))
    refine lo (lop_assign (E rfl)) rfl ?_
    refine leT ?_
    (refine ctlT ?_)
    rw [hp, ← List.append_assoc]
    (apply aend; (exact resT))
    · exact ⟨_, rfl, rfl⟩
    · (exact stleT)
  (refine ctlT ?_)
  refine rgT ?_
  refine lo (lop_eql (E rfl) (E rfl)) rfl ?_
  refine lo (lop_assign (E rfl)) rfl ?_
  refine leT ?_
  (refine ctlT ?_)
  refine sw_cond rfl (fun g4 => ?_) (fun g4 => ?_)
  · (refine ctlT ?_)
    have ha := f4 g4
    obtain ⟨⟨ha0, ha1⟩, hl50, hall⟩ := ha
    obtain ⟨a, rfl⟩ := Int.eq_ofNat_of_zero_le ha0
    have hp : putT ⟨(op : Int), (a : Int), bi, l⟩ = uB l.length ++ (l.flatMap fun n => uB n.toNat) ++ uB a := by unfold putT; simp only [g1, g2, g3, g4, if_true, if_false, Bool.false_eq_true, Int.toNat_natCast]
    have hal := uB_len 1 a (by omega)
    have hll := uB_len 1 l.length (by omega)
    have hfl := flat_len hall
    refine rgT ?_
    refine lo (lop_move (E rfl)) rfl ?_
    refine z59 ?_
    refine z60 ?_
    refine z14 ?_
    refine z24 ?_
    refine cw [(r12, .arr 5 1 ((us).map encU))] Try.call46 (leb_putU r12 (us) (by first | omega | (simp; omega)) l.length (by omega)) rfl ?_ ?_ ?_
    · (exact argsleT)
    · (exact stleT)
    rintro _ σ' ⟨ra, rfl, rfl⟩ hra
    have kra := rest1T hra; (repeat (rcases kra with ⟨_, kra⟩))
    (apply rs_sto; (exact nflT))
    refine lo (lop_assign (E rfl)) rfl ?_
    refine leT ?_
    (refine ctlT ?_)
    refine rgT ?_
    refine z59 ?_
    refine z60 ?_
    refine z14 ?_
    refine lo (lop_move (E rfl)) rfl ?_
    refine leT ?_
    (refine ctlT ?_)
    obtain ⟨ws, hws⟩ : ∃ ws, ws = us ++ uB l.length := ⟨_, rfl⟩
    have hwl : ws.length ≤ 100003 := by rw [hws]; simp; omega
    rw [← hws]
    have hpre : ∀ j, (us ++ uB l.length ++ ((l.take j).flatMap fun n => uB n.toNat)).length ≤ 100103 := fun j => by
      have := flat_len (l := l.take j) fun n hn => hall n (List.mem_of_mem_take hn)
      simp at this ⊢
      omega
    refine lp (β := Nat × Nat) (fun b => ⟨[(0, .own b.1 0 (ws ++ ((l.take b.2).flatMap fun n => uB n.toNat)).length), (3, .ptr r3 0), (50, .ro 1 (l.map encI) k), (51, .int .i64 l.length), (52, .int .i64 b.2)], [(b.1, .arr 5 1 ((ws ++ ((l.take b.2).flatMap fun n => uB n.toNat)).map encU)), (r3, .box 24 [.int .i64 op, .int .i64 a, .int .i64 bi, .ro 1 (l.map encI) k])]⟩) (fun b => Nq b.1 r3 ∧ b.2 ≤ l.length) (fun b => l.length - b.2) (ra, 0) ?_ ⟨?_, Nat.zero_le _⟩ ?_
    · simp only [List.take_zero, List.flatMap_nil, List.append_nil]; (exact sgoT)
    · show Nq ra r3; (exact nqT)
    rintro ⟨rb, j⟩ ⟨hrb, hj⟩
    dsimp only at hrb hj ⊢
    have hpj := hpre j
    rw [← hws] at hpj
    (refine ctlT ?_)
    refine rgT ?_
    refine lo (lop_lss (E rfl) (E rfl)) rfl ?_
    refine leT ?_
    (refine ctlT ?_)
    refine sw_cond rfl (fun h1 => ?_) (fun h1 => ?_)
    · have hlt : j < l.length := by simp at h1; omega
      obtain ⟨y, hy⟩ : ∃ y, l[j]? = some y := ⟨_, List.getElem?_eq_getElem hlt⟩
      obtain ⟨hy0, hy1⟩ := hall y (List.mem_of_getElem? hy)
      obtain ⟨z, rfl⟩ := Int.eq_ofNat_of_zero_le hy0
      (refine ctlT ?_)
      refine rgT ?_
      refine z15 ?_
      refine z16 ?_
      refine lo (lop_assign (E rfl)) rfl ?_
      refine leT ?_
      (refine ctlT ?_)
      refine rgT ?_
      refine lo (lop_move (E rfl)) rfl ?_
      refine lo (lop_move (E rfl)) rfl ?_
      refine z24 ?_
      refine cw [(rb, .arr 5 1 ((ws ++ ((l.take j).flatMap fun n => uB n.toNat)).map encU))] Try.call46 (leb_putU rb (ws ++ ((l.take j).flatMap fun n => uB n.toNat)) (by first | omega | (simp; omega)) z (by omega)) rfl ?_ ?_ ?_
      · (exact argsleT)
      · (exact stleT)
      rintro _ σ' ⟨rc, rfl, rfl⟩ hrc
      have krc := rest1T hrc; (repeat (rcases krc with ⟨_, krc⟩))
      (apply rs_sto; (exact nflT))
      refine lo (lop_assign (E rfl)) rfl ?_
      refine leT ?_
      (refine ctlT ?_)
      refine rgT ?_
      refine z17 ?_
      refine lo (lop_move (E rfl)) rfl ?_
      refine leT ?_
      (refine ctlT ?_)
      have hnx : ws ++ ((l.take j).flatMap fun n => uB n.toNat) ++ uB z = ws ++ ((l.take (j + 1)).flatMap fun n => uB n.toNat) := by
        rw [List.take_add_one, hy, List.flatMap_append, List.append_assoc]
        simp
      rw [hnx]
      refine ⟨(rc, j + 1), ⟨by show Nq rc r3; (exact nqT), hlt⟩, by show l.length - (j + 1) < l.length - j; omega, ?_⟩
      (exact sgoT)
    · obtain rfl : j = l.length := by simp at h1; omega
      rw [List.take_length] at hpj ⊢
      (refine ctlT ?_)
      refine rgT ?_
      refine lo (lop_move (E rfl)) rfl ?_
      refine z59 ?_
      refine z60 ?_
      refine z24 ?_
      refine cw [(rb, .arr 5 1 ((ws ++ (l.flatMap fun n => uB n.toNat)).map encU))] Try.call46 (leb_putU rb (ws ++ (l.flatMap fun n => uB n.toNat)) (by first | omega | (simp; omega)) a (by omega)) rfl ?_ ?_ ?_
      · (exact argsleT)
      · (exact stleT)
      rintro _ σ' ⟨rd, rfl, rfl⟩ hrd
      have krd := rest1T hrd; (repeat (rcases krd with ⟨_, krd⟩))
      (apply rs_sto; (exact nflT))
      refine lo (lop_assign (E rfl)) rfl ?_
      refine leT ?_
      (refine ctlT ?_)
      rw [hp, show us ++ (uB l.length ++ (l.flatMap fun n => uB n.toNat) ++ uB a) = ws ++ (l.flatMap fun n => uB n.toNat) ++ uB a by rw [hws]; simp]
      (apply aend; (exact resT))
      · exact ⟨_, rfl, rfl⟩
      · (exact stleT)
  (refine ctlT ?_)
  refine rgT ?_
  refine lo (lop_eql (E rfl) (E rfl)) rfl ?_
  refine lo (lop_assign (E rfl)) rfl ?_
  refine leT ?_
  (refine ctlT ?_)
  refine sw_cond rfl (fun g5 => ?_) (fun g5 => ?_)
  · (refine ctlT ?_)
    have ha := f6 g5
    obtain ⟨ha0, ha1, hb0, hb1⟩ := ha
    obtain ⟨a, rfl⟩ := Int.eq_ofNat_of_zero_le ha0
    obtain ⟨b, rfl⟩ := Int.eq_ofNat_of_zero_le hb0
    have hp : putT ⟨(op : Int), (a : Int), (b : Int), l⟩ = uB a ++ uB b := by unfold putT; simp only [g1, g2, g3, g4, g5, if_true, if_false, Bool.false_eq_true, Int.toNat_natCast]
    have hal := uB_len 1 a (by omega)
    refine rgD [(0, true), (1, true), (2, true), (3, true), (5, true), (6, true), (7, true), (4, false), (8, false), (9, true)] ?_
    refine dlo rfl (lop_move (E rfl)) rfl ?_
    refine z73 ?_
    refine z74 ?_
    refine z75 ?_
    refine z73 ?_
    refine z74 ?_
    refine z75 ?_
    refine dcw [(r12, .arr 5 1 ((us).map encU))] rfl Try.call46 (leb_putU r12 (us) (by first | omega | (simp; omega)) a (by omega)) rfl ?_ ?_ ?_ ?_
    · (exact argsleT)
    · (exact stleT)
    · (exact hbtT)
    rintro _ σ' ⟨ra, rfl, rfl⟩ hra
    have kra := rest1T hra; (repeat (rcases kra with ⟨_, kra⟩))
    (apply rd_sto; (exact nflT))
    refine dcw [(ra, .arr 5 1 ((us ++ uB a).map encU))] rfl Try.call46 (leb_putU ra (us ++ uB a) (by first | omega | (simp; omega)) b (by omega)) rfl ?_ ?_ ?_ ?_
    · (exact argsleT)
    · (exact stleT)
    · (exact hbtT)
    rintro _ σ' ⟨rb, rfl, rfl⟩ hrb
    have krb := rest1T hrb; (repeat (rcases krb with ⟨_, krb⟩))
    (apply rd_sto; (exact nflT))
    refine dlo rfl (lop_assign (E rfl)) rfl ?_
    refine deT ?_
    (refine ctlT ?_)
    rw [hp, ← List.append_assoc]
    (apply aend; (exact resT))
    · exact ⟨_, rfl, rfl⟩
    · (exact stleT)
  (refine ctlT ?_)
  refine rgT ?_
  refine lo (lop_eql (E rfl) (E rfl)) rfl ?_
  refine lo (lop_assign (E rfl)) rfl ?_
  refine leT ?_
  (refine ctlT ?_)
  refine sw_cond rfl (fun g6 => ?_) (fun g6 => ?_)
  · (refine ctlT ?_)
    have hp : putT ⟨(op : Int), ai, bi, l⟩ = [0] := by unfold putT; simp only [g1, g2, g3, g4, g5, g6, if_true, if_false, Bool.false_eq_true]
    refine rgT ?_
    refine lo (lop_move (E rfl)) rfl ?_
    refine z1 ?_; refine freshT fun r80 h80 => ?_; (repeat (rcases h80 with ⟨_, h80⟩))
    apply ap (es' := (us ++ [0]).map encU) (len' := (us ++ [0]).length); rfl; rfl; (exact sgT)
    · simp
    · exact .inr (.inr ⟨_, _, _, _, _, rfl, sgT, by simp, rfl⟩)
    · first | (simp [encU]; done) | (simp only [List.drop_zero, List.map_append]; congr 1; exact List.take_of_length_le (by simp))
    · simp; try omega
    · simp [maxLen]; try omega
    · simp; try omega
    · rfl
    refine apnT fun r81 h81 => ?_; (repeat (rcases h81 with ⟨_, h81⟩))
    refine lo (lop_assign (E rfl)) rfl ?_
    refine leT ?_
    (refine ctlT ?_)
    rw [hp]
    (apply aend; (exact resT))
    · exact ⟨_, rfl, rfl⟩
    · (exact stleT)
  (refine ctlT ?_)
  refine rgT ?_
  refine lo (lop_eql (E rfl) (E rfl)) rfl ?_
  refine lo (lop_assign (E rfl)) rfl ?_
  refine leT ?_
  (refine ctlT ?_)
  apply sw_orr rfl; exact fdelT
  · intro _; (refine ctlT ?_)
    refine rgT ?_
    refine lo (lop_eql (E rfl) (E rfl)) rfl ?_
    refine lo (lop_assign (E rfl)) rfl ?_
    refine leT ?_
    (refine ctlT ?_)
    (exact sgoT)
  (refine ctlT ?_)
  refine sw_cond rfl (fun g7 => ?_) (fun g7 => ?_)
  · (refine ctlT ?_)
    have hp : putT ⟨(op : Int), ai, bi, l⟩ = sB ai := by unfold putT; simp only [g1, g2, g3, g4, g5, g6, g7, if_true, if_false, Bool.false_eq_true]
    refine rgT ?_
    refine lo (lop_move (E rfl)) rfl ?_
    refine z59 ?_
    refine z60 ?_
    refine cw [(r12, .arr 5 1 (us.map encU))] Try.call47 (leb_putS r12 us (by omega) ai f8) rfl ?_ ?_ ?_
    · (exact argsleT)
    · (exact stleT)
    rintro _ σ' ⟨ra, rfl, rfl⟩ hra
    (apply rs_sto; (exact nflT))
    refine lo (lop_assign (E rfl)) rfl ?_
    refine leT ?_
    (refine ctlT ?_)
    rw [hp]
    (apply aend; (exact resT))
    · exact ⟨_, rfl, rfl⟩
    · (exact stleT)
  (refine ctlT ?_)
  refine rgT ?_
  refine lo (lop_move (E rfl)) rfl ?_
  refine lo (lop_assign (E rfl)) rfl ?_
  refine leT ?_
  (refine ctlT ?_)
  (apply aend; (exact resT))
  · (unfold putT; simp only [g1, g2, g3, g4, g5, g6, g7, if_true, if_false, Bool.false_eq_true, List.append_nil]; exact ⟨_, rfl, rfl⟩)
  · (exact stleT)
end Go.Proofs.Ytkjfflabapeidaa
