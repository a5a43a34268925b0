/-
  The statements' own help: begun and cut.
-/
import Derived.Test.YtlbgnakpcjibjaaJudge5
namespace Go.Proofs.Ytlbgnakpcjibjaa
open Go.RowKit Go.ChangeShapes Go.WideShapes Go.ChangeAt Go.Deep

abbrev kc (n fn : Int) : Call := ⟨n, fn, 0, [], false, 0⟩
abbrev kv (n fn : Int) : List Value := [.int .i64 n, .int .i64 fn, .int .i64 0, .slice none 0 0, .bool false, .int .i64 0]
theorem kc_rep (w : World) (S : Nat → Prop) (n fn : Int) (h : 0 ≤ n ∧ n ≤ 10 ∧ 0 ≤ fn ∧ fn ≤ 10) : Rp.rep w S (kv n fn) (kc n fn) :=
  ⟨none, 0, rfl, Sl.nil_ _ _, by show Bd n; unfold Bd; omega, by show Bd fn; unfold Bd; omega, by show Bd 0; unfold Bd; omega, by show Bd 0; unfold Bd; omega⟩
abbrev L4 : List Call := [kc 1 2, kc 2 0, kc 2 0, kc 3 0]
abbrev L2 : List Call := [kc 1 0, kc 1 1]

theorem Cells.cons {α : Type} [Rp α] {w : World} {S : Nat → Prop} {cs : List Value} {x : α} {css : List (List Value)} {xs : List α} (h : Rp.rep w S cs x) (k : Cells w S css xs) : Cells w S (cs :: css) (x :: xs) :=
  (Cells.single h).append k
theorem Sl.drop {α : Type} [Rp α] {w : World} {S : Nat → Prop} {b off n cap : Nat} {xs : List α} (h : Sl w S (some ⟨b, off, none⟩) n cap xs) (k : Nat) (hk : k ≤ n) :
    Sl w S (some ⟨b, off + k * Rp.sz α, none⟩) (n - k) (cap - k) (xs.drop k) :=
  ⟨by rw [List.length_drop, h.len], by have := h.le; omega, by have := h.max; omega, (fun h => by cases h), fun i x hx => by
    rw [List.getElem?_drop] at hx
    obtain ⟨b', off', cs, hA, hb, hl, hc, hr⟩ := h.at_ (k + i) x hx
    obtain ⟨rfl, rfl, -⟩ := Addr.mk.inj (Option.some.inj hA)
    refine ⟨b, _, cs, rfl, hb, hl, fun j u hu => ?_, hr⟩
    have := hc j u hu
    rw [Nat.add_mul, ← Nat.add_assoc] at this
    exact this⟩

set_option maxHeartbeats 1000000 in
theorem judgeBegun (w : World) : Calls Try.prog 16 #[] w fun e w' => e = .returned (.bool true) ∧ Below w.heap.size w w' := by
  go_enter Try.func16, Try.ntmps16
  go_wp2_with fail
  have s0 : Sl (w.alloc (.cells [kv 1 2, kv 2 0, kv 2 0, kv 3 0].flatten.toArray 34)) (fun b => b = w.heap.size) (some ⟨w.heap.size, 0, none⟩) 4 4 L4 :=
    (Sl.new (S := fun _ => False) _ (Cells.cons (kc_rep _ _ 1 2 (by omega)) (Cells.cons (kc_rep _ _ 2 0 (by omega)) (Cells.cons (kc_rep _ _ 2 0 (by omega)) (Cells.single (kc_rep _ _ 3 0 (by omega)))))) (fun _ h => h.elim) (by simp [maxLen])).mono (fun b h => h.elim False.elim id)
  obtain ⟨w0, hw0⟩ : ∃ w0, w0 = w.alloc (.cells [kv 1 2, kv 2 0, kv 2 0, kv 3 0].flatten.toArray 34) := ⟨_, rfl⟩
  rw [← hw0] at s0
  have hz0 : w0.heap.size = w.heap.size + 1 := by rw [hw0]; simp
  have hb0 : Below w.heap.size w w0 := by rw [hw0]; exact (Below.refl _ _).alloc (Nat.le_refl _) _
  simp only [List.flatten_cons, List.flatten_nil, List.cons_append, List.nil_append, kv] at hw0
  rw [← hw0]
  clear hw0
  have HZ0 := Lib.hid hz0
  have hS0 : ∀ b, b = w.heap.size → b < w0.heap.size := by rintro b rfl; rw [hz0]; exact Nat.lt_succ_self _
  clear hz0
  refine (judgeOnce _ _ _ L4 _ _ s0 hS0 (by omega)).mono ?_
  rintro e w1 ⟨A1, c1, rfl, hown1, hb1⟩
  have e1 : once L4 = [kc 1 2, kc 2 0, kc 3 0] := rfl
  rw [e1] at hown1 ⊢
  obtain ⟨A', c', hv, s1⟩ := hown1.sl
  obtain ⟨rfl, -, rfl⟩ := Value.slice.inj hv
  clear hv
  have hob := hown1.blk
  have hz1 := hb1.size
  have hS1 : ∀ b, (b = w.heap.size ∨ (Value.slice A1 [kc 1 2, kc 2 0, kc 3 0].length c1).ownBlock = some b) → b < w1.heap.size := by
    rintro b (h | h)
    · exact Nat.lt_of_lt_of_le (hS0 b h) hz1
    · exact (hob b h).2
  obtain ⟨b, off, cs, rfl, -, -, hc, A5, c5, rfl, -⟩ := s1.at_ 2 _ rfl
  have hc0 := hc 0 _ rfl
  simp only [Rp.sz, Nat.add_zero] at hc0
  clear hc hown1 hob
  have H1 := Lib.hid hz1
  clear hz1
  have s01 := s0.keep (Same.of_below hb1 hS0)
  have hS01 : ∀ b, b = w.heap.size → b < w1.heap.size := fun b h => Nat.lt_of_lt_of_le (hS0 b h) H1.out
  go_wp2_with fail
  refine (judgeGapless _ _ _ L4 _ _ s01 hS01 (by omega)).mono ?_
  rintro e w2 ⟨rfl, hb2⟩
  rw [show gapless L4 = true from rfl]
  have s02 := s01.keep (Same.of_below hb2 hS01)
  have s12 := s1.keep (Same.of_below hb2 hS1)
  have hS02 : ∀ b, b = w.heap.size → b < w2.heap.size := fun b h => Nat.lt_of_lt_of_le (hS01 b h) hb2.size
  have hS12 := fun b h => Nat.lt_of_lt_of_le (hS1 b h) hb2.size
  go_wp2_with fail
  refine (judgeGapless _ _ _ (L4.drop 1) _ _ (s02.drop 1 (by omega)) hS02 (by omega)).mono ?_
  rintro e w3 ⟨rfl, hb3⟩
  rw [show gapless (L4.drop 1) = false from rfl]
  have s03 := s02.keep (Same.of_below hb3 hS02)
  have s13 := s12.keep (Same.of_below hb3 hS12)
  have hS03 : ∀ b, b = w.heap.size → b < w3.heap.size := fun b h => Nat.lt_of_lt_of_le (hS02 b h) hb3.size
  have hS13 := fun b h => Nat.lt_of_lt_of_le (hS12 b h) hb3.size
  go_wp2_with fail
  refine (judgeTwins _ _ _ L4 _ _ s03 hS03).mono ?_
  rintro e w4 ⟨rfl, hb4⟩
  rw [show twins L4 = true from rfl]
  have s04 := s03.keep (Same.of_below hb4 hS03)
  have s14 := s13.keep (Same.of_below hb4 hS13)
  have hS04 : ∀ b, b = w.heap.size → b < w4.heap.size := fun b h => Nat.lt_of_lt_of_le (hS03 b h) hb4.size
  have hS14 := fun b h => Nat.lt_of_lt_of_le (hS13 b h) hb4.size
  go_wp2_with fail
  refine (judgeTwins _ _ _ L2 (fun b => b = w4.heap.size) _ ((Sl.new (S := fun _ => False) (css := [kv 1 0, kv 1 1]) _ (Cells.cons (kc_rep _ _ 1 0 (by omega)) (Cells.single (kc_rep _ _ 1 1 (by omega)))) (fun _ h => h.elim) (by simp [maxLen])).mono (fun b h => h.elim False.elim id)) (by rintro b rfl; simp)).mono ?_
  rintro e w5 ⟨rfl, hb5⟩
  rw [show twins L2 = false from rfl]
  have hb5' : Below w4.heap.size w4 w5 := ((Below.refl _ w4).alloc (Nat.le_refl _) _).trans (hb5.mono (by simp))
  clear hb5
  have s05 := s04.keep (Same.of_below hb5' hS04)
  have s15 := s14.keep (Same.of_below hb5' hS14)
  have hS05 : ∀ b, b = w.heap.size → b < w5.heap.size := fun b h => Nat.lt_of_lt_of_le (hS04 b h) hb5'.size
  have hS15 := fun b h => Nat.lt_of_lt_of_le (hS14 b h) hb5'.size
  go_wp2_with fail
  refine (judgeAgain _ _ _ L4 _ _ s05 hS05 (by omega)).mono ?_
  rintro e w6 ⟨rfl, hb6⟩
  rw [show again L4 = 1 from rfl]
  have s06 := s05.keep (Same.of_below hb6 hS05)
  have s16 := s15.keep (Same.of_below hb6 hS15)
  have hS06 : ∀ b, b = w.heap.size → b < w6.heap.size := fun b h => Nat.lt_of_lt_of_le (hS05 b h) hb6.size
  have hS16 := fun b h => Nat.lt_of_lt_of_le (hS15 b h) hb6.size
  go_wp2_with fail
  refine (judgeSameL _ _ _ _ _ _ L4 L4 _ _ _ s06 s06 hS06 hS06).mono ?_
  rintro e w7 ⟨rfl, hb7⟩
  rw [show sameB L4 L4 = true from rfl]
  have s07 := s06.keep (Same.of_below hb7 hS06)
  have s17 := s16.keep (Same.of_below hb7 hS16)
  have hS07 : ∀ b, b = w.heap.size → b < w7.heap.size := fun b h => Nat.lt_of_lt_of_le (hS06 b h) hb7.size
  have hS17 := fun b h => Nat.lt_of_lt_of_le (hS16 b h) hb7.size
  go_wp2_with fail
  refine (judgeSameL _ _ _ _ _ _ L4 _ _ _ _ s07 s17 hS07 hS17).mono ?_
  rintro e w8 ⟨rfl, hb8⟩
  rw [show sameB L4 [kc 1 2, kc 2 0, kc 3 0] = false from rfl]
  go_wp2
  go_ret
  have t0 := H1.out
  have t1 := hb2.size
  have t2 := hb3.size
  have t3 := hb4.size
  have t4 := hb5'.size
  have t5 := hb6.size
  have t6 := hb7.size
  have tz := HZ0.out
  exact ⟨rfl, (((((((hb0.trans (hb1.mono (by omega))).trans (hb2.mono (by omega))).trans (hb3.mono (by omega))).trans (hb4.mono (by omega))).trans (hb5'.mono (by omega))).trans (hb6.mono (by omega))).trans (hb7.mono (by omega))).trans (hb8.mono (by omega))⟩

end Go.Proofs.Ytlbgnakpcjibjaa
