/-
  The closures of Once and Twins, and the searches that call them.
-/
import Derived.Test.YtlbgnakpcjibjaaJudge2
namespace Go.Proofs.Ytlbgnakpcjibjaa
open Go.RowKit Go.ChangeShapes Go.WideShapes Go.ChangeAt Go.Deep

set_option maxHeartbeats 1000000 in
theorem once1 (b : Nat) (x c : Call) (cx cc : List Value) (S U : Nat → Prop) (w : World) (hx : Rp.rep w S cx x) (_hS : ∀ b, S b → b < w.heap.size)
    (hb : Blk w b 34 cc.toArray) (hc : Rp.rep w U cc c) (_hU : ∀ b, U b → b < w.heap.size) :
    Calls Try.prog 27 #[.agg cx.toArray, .pointer (some ⟨b, 0, none⟩)] w fun e w' => e = .returned (.bool (x.n == c.n)) ∧ Below w.heap.size w w' := by
  obtain ⟨A, c1, rfl, hx, hx1, hx2, hx3, hx4⟩ := hx
  obtain ⟨B, c2, rfl, hy, hy1, hy2, hy3, hy4⟩ := hc
  have hbl := hb.lt
  have hc0 := hb.cell 0
  simp at hc0
  go_enter Try.func27, Try.ntmps27
  go_wp2
  go_ret
  exact ⟨rfl, (Below.refl _ _).alloc (Nat.le_refl _) _⟩

set_option maxHeartbeats 1000000 in
theorem twins1 (b : Nat) (x c : Call) (cx cc : List Value) (S U : Nat → Prop) (w : World) (hx : Rp.rep w S cx x) (hS : ∀ b, S b → b < w.heap.size)
    (hb : Blk w b 34 cc.toArray) (hc : Rp.rep w U cc c) (hU : ∀ b, U b → b < w.heap.size) :
    Calls Try.prog 28 #[.agg cx.toArray, .pointer (some ⟨b, 0, none⟩)] w fun e w' => e = .returned (.bool (x.n == c.n && !likeB x c)) ∧ Below w.heap.size w w' := by
  have hx0 := hx
  have hc0 := hc
  obtain ⟨A, c1, rfl, hx, hx1, hx2, hx3, hx4⟩ := hx
  obtain ⟨B, c2, rfl, hy, hy1, hy2, hy3, hy4⟩ := hc
  have hbl := hb.lt
  have hd0 := hb.cell 0
  have hd1 := hb.cell 1
  have hd2 := hb.cell 2
  have hd3 := hb.cell 3
  have hd4 := hb.cell 4
  have hd5 := hb.cell 5
  simp at hd0 hd1 hd2 hd3 hd4 hd5
  go_enter Try.func28, Try.ntmps28
  by_cases e1 : (x.n == c.n) = true
  · go_wp2_with (go_at_call 29; refine (judgeSame x c S U _ _ _ (Rp.keep (Same.alloc _ _ hS) hx0) (Rp.keep (Same.alloc _ _ hU) hc0) (fun b h => by have := hS b h; simp; omega) (fun b h => by have := hU b h; simp; omega)).mono ?_; rintro e w' ⟨rfl, hw'⟩)
    go_ret
    exact ⟨ret_bool (by simp [e1]), ((Below.refl _ _).alloc (Nat.le_refl _) _).trans (hw'.mono (by simp))⟩
  · simp only [Bool.not_eq_true] at e1
    go_wp2
    go_ret
    exact ⟨ret_bool (by simp [e1]), (Below.refl _ _).alloc (Nat.le_refl _) _⟩

set_option maxHeartbeats 1000000 in
theorem once1Index (b : Nat) (c : Call) (cc : List Value) (U : Nat → Prop) (A : Option Addr) (m cap : Nat) (l : List Call) (S : Nat → Prop) (w : World) (hl : Sl w S A m cap l) (hS : ∀ b, S b → b < w.heap.size)
    (hb : Blk w b 34 cc.toArray) (hcc : Rp.rep w U cc c) (hU : ∀ b, U b → b < w.heap.size) :
    Calls Try.prog 31 #[.slice A m cap, .func (.func 27) #[] #[.pointer (some ⟨b, 0, none⟩)]] w fun e w' => ∃ z : Int, e = .returned (.int .i64 z) ∧ decide (z ≥ 0) = l.any (fun x => x.n == c.n) ∧ Below w.heap.size w w' := by
  have hm := hl.max
  have hle := hl.le
  have hbl := hb.lt
  unfold maxLen at hm
  go_enter Try.func31, Try.ntmps31
  go_wp2
  go_loopw [8] (fun i wr => ∃ k : Nat, k ≤ m ∧ i = .int .i64 k ∧ (l.take k).any (fun x => x.n == c.n) = false ∧ Below w.heap.size w wr) (fun i _ => m - (intOf i).toNat)
  case atStart => exact ⟨0, Nat.zero_le _, rfl, rfl, Below.refl _ _⟩
  case round =>
    obtain ⟨k, hk, rfl, ht, hw⟩ := hrel
    have HT := Lib.hid ht
    clear ht
    by_cases hlt : k < m
    · have hkl : k < l.length := by rw [hl.len]; exact hlt
      obtain ⟨g, off, cs, rfl, hSb, hlen, hc, hr⟩ := (hl.keep (Same.of_below hw hS)).at_ k l[k] (List.getElem?_eq_getElem hkl)
      obtain ⟨x, hx⟩ : ∃ x, x = l[k] := ⟨_, rfl⟩
      rw [← hx] at hr
      have HX := Lib.hid hx
      have hr' := hr
      obtain ⟨A1, c1, rfl, hy, hy1, hy2, hy3, hy4⟩ := hr
      have hc0 := hc 0 _ rfl
      have hc1 := hc 1 _ rfl
      have hc2 := hc 2 _ rfl
      have hc3 := hc 3 _ rfl
      have hc4 := hc 4 _ rfl
      have hc5 := hc 5 _ rfl
      clear hc
      simp only [Rp.sz, Nat.add_zero] at hc0 hc1 hc2 hc3 hc4 hc5
      have hbk : Blk wr b 34 cc.toArray := hb.below hw hbl
      have hcck : Rp.rep wr U cc c := Rp.keep (Same.of_below hw hU) hcc
      have hz := hw.size
      have hS' : ∀ b, S b → b < wr.heap.size := fun b h => Nat.lt_of_lt_of_le (hS b h) hz
      have hU' : ∀ b, U b → b < wr.heap.size := fun b h => Nat.lt_of_lt_of_le (hU b h) hz
      have HZ := Lib.hid hz
      clear hz hx
      by_cases hp : (x.n == c.n) = true
      · go_wp2_with (go_at_call 27; refine (once1 _ _ _ _ _ _ _ _ hr' hS' hbk hcck hU').mono ?_; rintro e w' ⟨rfl, hw'⟩; rw [hp])
        go_ret
        refine ⟨_, rfl, ?_, hw.trans (hw'.mono HZ.out)⟩
        have : l.any (fun x => x.n == c.n) = true := List.any_eq_true.mpr ⟨x, by rw [HX.out]; exact List.getElem_mem hkl, hp⟩
        rw [this]; simp
      · simp only [Bool.not_eq_true] at hp
        go_wp2_with (go_at_call 27; refine (once1 _ _ _ _ _ _ _ _ hr' hS' hbk hcck hU').mono ?_; rintro e w' ⟨rfl, hw'⟩; rw [hp])
        go_roundw
        case rel =>
          refine ⟨k + 1, by omega, by go_num, ?_, hw.trans (hw'.mono HZ.out)⟩
          rw [List.take_succ_eq_append_getElem hkl, List.any_append, HT.out, ← HX.out]
          simpa using hp
        case measure => simp [intOf]; omega
    · obtain rfl : k = m := by omega
      go_wp2
      go_ret
      refine ⟨_, rfl, ?_, hw⟩
      have := HT.out
      rw [List.take_of_length_le (by rw [hl.len]; omega)] at this
      rw [this]; simp

set_option maxHeartbeats 1000000 in
theorem once1Contains (b : Nat) (c : Call) (cc : List Value) (U : Nat → Prop) (A : Option Addr) (m cap : Nat) (l : List Call) (S : Nat → Prop) (w : World) (hl : Sl w S A m cap l) (hS : ∀ b, S b → b < w.heap.size)
    (hb : Blk w b 34 cc.toArray) (hcc : Rp.rep w U cc c) (hU : ∀ b, U b → b < w.heap.size) :
    Calls Try.prog 26 #[.slice A m cap, .func (.func 27) #[] #[.pointer (some ⟨b, 0, none⟩)]] w fun e w' => e = .returned (.bool (l.any (fun x => x.n == c.n))) ∧ Below w.heap.size w w' := by
  go_enter Try.func26, Try.ntmps26
  go_wp2_with (go_at_call 31; refine (once1Index _ _ _ _ _ _ _ _ _ _ hl hS hb hcc hU).mono ?_; rintro e w' ⟨z, rfl, hz, hw'⟩)
  go_ret
  exact ⟨rfl, hw'⟩

set_option maxHeartbeats 1000000 in
theorem twins1Index (b : Nat) (c : Call) (cc : List Value) (U : Nat → Prop) (A : Option Addr) (m cap : Nat) (l : List Call) (S : Nat → Prop) (w : World) (hl : Sl w S A m cap l) (hS : ∀ b, S b → b < w.heap.size)
    (hb : Blk w b 34 cc.toArray) (hcc : Rp.rep w U cc c) (hU : ∀ b, U b → b < w.heap.size) :
    Calls Try.prog 31 #[.slice A m cap, .func (.func 28) #[] #[.pointer (some ⟨b, 0, none⟩)]] w fun e w' => ∃ z : Int, e = .returned (.int .i64 z) ∧ decide (z ≥ 0) = l.any (fun x => x.n == c.n && !likeB x c) ∧ Below w.heap.size w w' := by
  have hm := hl.max
  have hle := hl.le
  have hbl := hb.lt
  unfold maxLen at hm
  go_enter Try.func31, Try.ntmps31
  go_wp2
  go_loopw [8] (fun i wr => ∃ k : Nat, k ≤ m ∧ i = .int .i64 k ∧ (l.take k).any (fun x => x.n == c.n && !likeB x c) = false ∧ Below w.heap.size w wr) (fun i _ => m - (intOf i).toNat)
  case atStart => exact ⟨0, Nat.zero_le _, rfl, rfl, Below.refl _ _⟩
  case round =>
    obtain ⟨k, hk, rfl, ht, hw⟩ := hrel
    have HT := Lib.hid ht
    clear ht
    by_cases hlt : k < m
    · have hkl : k < l.length := by rw [hl.len]; exact hlt
      obtain ⟨g, off, cs, rfl, hSb, hlen, hc, hr⟩ := (hl.keep (Same.of_below hw hS)).at_ k l[k] (List.getElem?_eq_getElem hkl)
      obtain ⟨x, hx⟩ : ∃ x, x = l[k] := ⟨_, rfl⟩
      rw [← hx] at hr
      have HX := Lib.hid hx
      have hr' := hr
      obtain ⟨A1, c1, rfl, hy, hy1, hy2, hy3, hy4⟩ := hr
      have hc0 := hc 0 _ rfl
      have hc1 := hc 1 _ rfl
      have hc2 := hc 2 _ rfl
      have hc3 := hc 3 _ rfl
      have hc4 := hc 4 _ rfl
      have hc5 := hc 5 _ rfl
      clear hc
      simp only [Rp.sz, Nat.add_zero] at hc0 hc1 hc2 hc3 hc4 hc5
      have hbk : Blk wr b 34 cc.toArray := hb.below hw hbl
      have hcck : Rp.rep wr U cc c := Rp.keep (Same.of_below hw hU) hcc
      have hz := hw.size
      have hS' : ∀ b, S b → b < wr.heap.size := fun b h => Nat.lt_of_lt_of_le (hS b h) hz
      have hU' : ∀ b, U b → b < wr.heap.size := fun b h => Nat.lt_of_lt_of_le (hU b h) hz
      have HZ := Lib.hid hz
      clear hz hx
      by_cases hp : (x.n == c.n && !likeB x c) = true
      · go_wp2_with (go_at_call 28; refine (twins1 _ _ _ _ _ _ _ _ hr' hS' hbk hcck hU').mono ?_; rintro e w' ⟨rfl, hw'⟩; rw [hp])
        go_ret
        refine ⟨_, rfl, ?_, hw.trans (hw'.mono HZ.out)⟩
        have : l.any (fun x => x.n == c.n && !likeB x c) = true := List.any_eq_true.mpr ⟨x, by rw [HX.out]; exact List.getElem_mem hkl, hp⟩
        rw [this]; simp
      · simp only [Bool.not_eq_true] at hp
        go_wp2_with (go_at_call 28; refine (twins1 _ _ _ _ _ _ _ _ hr' hS' hbk hcck hU').mono ?_; rintro e w' ⟨rfl, hw'⟩; rw [hp])
        go_roundw
        case rel =>
          refine ⟨k + 1, by omega, by go_num, ?_, hw.trans (hw'.mono HZ.out)⟩
          rw [List.take_succ_eq_append_getElem hkl, List.any_append, HT.out, ← HX.out]
          simpa using hp
        case measure => simp [intOf]; omega
    · obtain rfl : k = m := by omega
      go_wp2
      go_ret
      refine ⟨_, rfl, ?_, hw⟩
      have := HT.out
      rw [List.take_of_length_le (by rw [hl.len]; omega)] at this
      rw [this]; simp

set_option maxHeartbeats 1000000 in
theorem twins1Contains (b : Nat) (c : Call) (cc : List Value) (U : Nat → Prop) (A : Option Addr) (m cap : Nat) (l : List Call) (S : Nat → Prop) (w : World) (hl : Sl w S A m cap l) (hS : ∀ b, S b → b < w.heap.size)
    (hb : Blk w b 34 cc.toArray) (hcc : Rp.rep w U cc c) (hU : ∀ b, U b → b < w.heap.size) :
    Calls Try.prog 26 #[.slice A m cap, .func (.func 28) #[] #[.pointer (some ⟨b, 0, none⟩)]] w fun e w' => e = .returned (.bool (l.any (fun x => x.n == c.n && !likeB x c))) ∧ Below w.heap.size w w' := by
  go_enter Try.func26, Try.ntmps26
  go_wp2_with (go_at_call 31; refine (twins1Index _ _ _ _ _ _ _ _ _ _ hl hS hb hcc hU).mono ?_; rintro e w' ⟨z, rfl, hz, hw'⟩)
  go_ret
  exact ⟨rfl, hw'⟩

end Go.Proofs.Ytlbgnakpcjibjaa
