/-
  Plain: numbers as bytes, and back.
-/
import Derived.Test.YtkjfflabapeidaaSymU
namespace Go.Proofs.Ytkjfflabapeidaa
open Go.RowKit Go.ChangeShapes Go.WideShapes Go.ChangeAt Go.Deep
set_option linter.unusedSimpArgs false
set_option linter.unusedVariables false

def uB (n : Nat) : List Nat := if h : n < 128 then [n] else (n % 128 + 128) :: uB (n / 128)
termination_by n
decreasing_by omega
theorem uB_lo {n : Nat} (h : n < 128) : uB n = [n] := by rw [uB, dif_pos h]
theorem uB_hi {n : Nat} (h : ¬ n < 128) : uB n = (n % 128 + 128) :: uB (n / 128) := by rw [uB, dif_neg h]
theorem uB_lt (n : Nat) : ∀ x ∈ uB n, x < 256 := by
  induction n using Nat.strongRecOn with
  | _ n ih =>
    by_cases h : n < 128
    · rw [uB_lo h]; simp; omega
    · rw [uB_hi h]
      intro x hx
      rcases List.mem_cons.1 hx with rfl | hx
      · omega
      · exact ih (n / 128) (by omega) x hx
theorem uB_pos (n : Nat) : 1 ≤ (uB n).length := by
  by_cases h : n < 128
  · rw [uB_lo h]; simp
  · rw [uB_hi h]; simp
theorem uB_len : ∀ (k n : Nat), n < 128 ^ (k + 1) → (uB n).length ≤ k + 1
  | 0, n, h => by rw [uB_lo (by simpa using h)]; simp
  | k + 1, n, h => by
    by_cases hn : n < 128
    · rw [uB_lo hn]; simp
    · rw [uB_hi hn, List.length_cons]
      have := uB_len k (n / 128) (by rw [Nat.pow_succ] at h; exact Nat.div_lt_of_lt_mul (by omega))
      omega
def valU : List Nat → Nat
  | [] => 0
  | b :: t => b % 128 + 128 * valU t
theorem valU_uB (n : Nat) : valU (uB n) = n := by
  induction n using Nat.strongRecOn with
  | _ n ih =>
    by_cases h : n < 128
    · rw [uB_lo h]; simp [valU]; omega
    · rw [uB_hi h, valU, ih (n / 128) (by omega)]; omega
theorem valU_lt : ∀ (l : List Nat), valU l < 128 ^ l.length
  | [] => by simp [valU]
  | b :: t => by
    have := valU_lt t
    rw [valU, List.length_cons, Nat.pow_succ]
    omega
/-- how many bytes a number has at the beginning; 1: no number, 2: more bytes are wanted -/
def lenB : List Nat → Nat → Nat × Int
  | _, 0 => (0, 1)
  | [], _ + 1 => (0, 2)
  | b :: t, m + 1 => if b < 128 then (1, 0) else (if (lenB t m).2 = 0 then ((lenB t m).1 + 1, 0) else lenB t m)
theorem lenB_ok : ∀ (bs : List Nat) (m : Nat), (lenB bs m).2 = 0 → 1 ≤ (lenB bs m).1 ∧ (lenB bs m).1 ≤ m ∧ (lenB bs m).1 ≤ bs.length
  | bs, 0, h => by cases bs <;> simp [lenB] at h
  | [], _ + 1, h => by simp [lenB] at h
  | b :: t, m + 1, h => by
    have ih := lenB_ok t m
    rw [lenB] at h ⊢
    by_cases hb : b < 128
    · rw [if_pos hb]; simp
    · rw [if_neg hb] at h ⊢
      by_cases h2 : (lenB t m).2 = 0
      · rw [if_pos h2]
        have := ih h2
        simp
        omega
      · rw [if_neg h2] at h; exact absurd h h2
theorem lenB_err : ∀ (bs : List Nat) (m : Nat), (lenB bs m).2 ≠ 0 → (lenB bs m).1 = 0 ∧ ((lenB bs m).2 = 1 ∨ (lenB bs m).2 = 2)
  | bs, 0, _ => by cases bs <;> simp [lenB]
  | [], _ + 1, _ => by simp [lenB]
  | b :: t, m + 1, h => by
    have ih := lenB_err t m
    rw [lenB] at h ⊢
    by_cases hb : b < 128
    · rw [if_pos hb] at h; simp at h
    · rw [if_neg hb] at h ⊢
      by_cases h2 : (lenB t m).2 = 0
      · rw [if_pos h2] at h; simp at h
      · rw [if_neg h2]; exact ih h2
theorem lenB_uB (rest : List Nat) : ∀ (m n : Nat), (uB n).length ≤ m → lenB (uB n ++ rest) m = ((uB n).length, 0)
  | 0, n, h => by have := uB_pos n; omega
  | m + 1, n, h => by
    by_cases hn : n < 128
    · rw [uB_lo hn]; simp [lenB, hn]
    · rw [uB_hi hn] at h ⊢
      rw [List.cons_append, lenB, if_neg (by omega), lenB_uB rest m (n / 128) (by simpa using h)]
      simp
/-- an unsigned number of 32 bits at the beginning -/
def getU (bs : List Nat) : Nat × Nat × Int :=
  if (lenB bs 5).2 ≠ 0 then (0, 0, (lenB bs 5).2)
  else if uB (valU (bs.take (lenB bs 5).1)) = bs.take (lenB bs 5).1 ∧ valU (bs.take (lenB bs 5).1) < 4294967296 then (valU (bs.take (lenB bs 5).1), (lenB bs 5).1, 0) else (0, 0, 1)
theorem getU_uB {n : Nat} (hn : n < 4294967296) (rest : List Nat) : getU (uB n ++ rest) = (n, (uB n).length, 0) := by
  have hl := uB_len 4 n (by omega)
  unfold getU
  rw [lenB_uB rest 5 n hl]
  simp only [ne_eq, not_true_eq_false, if_false]
  rw [List.take_left, valU_uB, if_pos ⟨rfl, hn⟩]
theorem getU_bd (bs : List Nat) : (getU bs).1 < 4294967296 ∧ (getU bs).2.1 ≤ bs.length ∧ (getU bs).2.1 ≤ 5 := by
  unfold getU
  split
  · simp
  · next h =>
    have := lenB_ok bs 5 (by simpa using h)
    split
    · next h2 => exact ⟨h2.2, this.2.2, this.2.1⟩
    · simp
def sB (n : Int) : List Nat := if h : -64 ≤ n ∧ n ≤ 63 then [(n % 128).toNat] else ((n % 128).toNat + 128) :: sB (n / 128)
termination_by n.natAbs
decreasing_by omega
theorem sB_lo {n : Int} (h : -64 ≤ n ∧ n ≤ 63) : sB n = [(n % 128).toNat] := by rw [sB, dif_pos h]
theorem sB_hi {n : Int} (h : ¬ (-64 ≤ n ∧ n ≤ 63)) : sB n = ((n % 128).toNat + 128) :: sB (n / 128) := by rw [sB, dif_neg h]
theorem sB_pos (n : Int) : 1 ≤ (sB n).length := by
  by_cases h : -64 ≤ n ∧ n ≤ 63
  · rw [sB_lo h]; simp
  · rw [sB_hi h]; simp
theorem sB_lt (m : Nat) : ∀ (n : Int), n.natAbs ≤ m → ∀ x ∈ sB n, x < 256 := by
  induction m with
  | zero => intro n hn; rw [sB_lo (by omega)]; simp; omega
  | succ m ih =>
    intro n hn
    by_cases h : -64 ≤ n ∧ n ≤ 63
    · rw [sB_lo h]; simp; omega
    · rw [sB_hi h]
      intro x hx
      rcases List.mem_cons.1 hx with rfl | hx
      · omega
      · exact ih (n / 128) (by omega) x hx
theorem sB_len : ∀ (k : Nat) (n : Int), -(64 * 128 ^ k : Nat) ≤ n → n < (64 * 128 ^ k : Nat) → (sB n).length ≤ k + 1
  | 0, n, h, h' => by rw [sB_lo (by simp at h h'; omega)]; simp
  | k + 1, n, h, h' => by
    by_cases hn : -64 ≤ n ∧ n ≤ 63
    · rw [sB_lo hn]; simp
    · rw [sB_hi hn, List.length_cons]
      have e : (64 * 128 ^ (k + 1) : Nat) = 128 * (64 * 128 ^ k) := by rw [Nat.pow_succ]; omega
      rw [e] at h h'
      have := sB_len k (n / 128) (by omega) (by omega)
      omega
theorem lenB_sB (rest : List Nat) : ∀ (m : Nat) (n : Int), (sB n).length ≤ m → lenB (sB n ++ rest) m = ((sB n).length, 0)
  | 0, n, h => by have := sB_pos n; omega
  | m + 1, n, h => by
    by_cases hn : -64 ≤ n ∧ n ≤ 63
    · rw [sB_lo hn]
      rw [List.cons_append, lenB, if_pos (by omega)]
      rfl
    · rw [sB_hi hn] at h ⊢
      rw [List.cons_append, lenB, if_neg (by omega), lenB_sB rest m (n / 128) (by simpa using h)]
      simp
/-- a signed number out of bytes, as 64 bits go round -/
def valS : List Nat → Int
  | [] => 0
  | [b] => if 64 ≤ b % 128 then ((b % 128 : Nat) : Int) - 128 else ((b % 128 : Nat) : Int)
  | b :: c :: t => IntKind.i64.wrap (valS (c :: t) * 128 + ((b % 128 : Nat) : Int))
theorem valS_cons (b : Nat) {t : List Nat} (h : 1 ≤ t.length) : valS (b :: t) = IntKind.i64.wrap (valS t * 128 + ((b % 128 : Nat) : Int)) := by
  cases t with
  | nil => simp at h
  | cons c t => rfl
theorem valS_sB (m : Nat) : ∀ (n : Int), n.natAbs ≤ m → -9223372036854775808 ≤ n → n ≤ 9223372036854775807 → valS (sB n) = n := by
  induction m with
  | zero => intro n hn _ _; rw [sB_lo (by omega)]; simp [valS]; omega
  | succ m ih =>
    intro n hn h1 h2
    by_cases h : -64 ≤ n ∧ n ≤ 63
    · rw [sB_lo h, valS]
      split <;> omega
    · rw [sB_hi h, valS_cons _ (sB_pos _), ih (n / 128) (by omega) (by omega) (by omega)]
      rw [IntKind.wrap_i64]
      omega
def mostS (bits : Nat) : Nat := (bits + 6) / 7
def getS (bits : Nat) (bs : List Nat) : Int × Nat × Int :=
  if (lenB bs (mostS bits)).2 ≠ 0 then (0, 0, (lenB bs (mostS bits)).2)
  else if sB (valS (bs.take (lenB bs (mostS bits)).1)) = bs.take (lenB bs (mostS bits)).1 ∧ (bits = 32 → -2147483648 ≤ valS (bs.take (lenB bs (mostS bits)).1) ∧ valS (bs.take (lenB bs (mostS bits)).1) ≤ 2147483647) then (valS (bs.take (lenB bs (mostS bits)).1), (lenB bs (mostS bits)).1, 0) else (0, 0, 1)
theorem getS_sB {bits : Nat} (hb : bits = 32 ∨ bits = 64) {n : Int} (h1 : -9223372036854775808 ≤ n) (h2 : n ≤ 9223372036854775807) (h3 : bits = 32 → -2147483648 ≤ n ∧ n ≤ 2147483647) (rest : List Nat) : getS bits (sB n ++ rest) = (n, (sB n).length, 0) := by
  have hl : (sB n).length ≤ mostS bits := by
    rcases hb with rfl | rfl
    · have := h3 rfl; exact sB_len 4 n (by omega) (by omega)
    · exact sB_len 9 n (by omega) (by omega)
  unfold getS
  rw [lenB_sB rest _ n hl]
  simp only [ne_eq, not_true_eq_false, if_false]
  rw [List.take_left, valS_sB n.natAbs n (Nat.le_refl _) h1 h2, if_pos ⟨rfl, h3⟩]
theorem getS_bd (bits : Nat) (bs : List Nat) : (getS bits bs).2.1 ≤ bs.length := by
  unfold getS
  split
  · simp
  · next h =>
    have := lenB_ok bs (mostS bits) (by simpa using h)
    split
    · exact this.2.2
    · simp
end Go.Proofs.Ytkjfflabapeidaa
