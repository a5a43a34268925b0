/-
  Contracts of the package judge: what each call computes, and that it leaves all that was there as it was.
-/
import Derived.Test.YtlbgnakpcjibjaaHost
import Derived.Laws.StructEq
namespace Go.Proofs.Ytlbgnakpcjibjaa
open Go.RowKit Go.ChangeShapes Go.WideShapes Go.ChangeAt Go.Deep

set_option maxHeartbeats 1000000 in
theorem slicesEqualVal (A B : Option Addr) (n m c d : Nat) (xs ys : List Val) (S T : Nat → Prop) (w : World) (hx : Sl w S A n c xs) (hy : Sl w T B m d ys) :
    Calls Try.prog 32 #[.slice A n c, .slice B m d] w fun e w' => e = .returned (.bool (decide (xs = ys))) ∧ ∃ k, w' = w.drewN k := by
  have h1 := hx.max
  have h2 := hx.le
  have h3 := hy.max
  have h4 := hy.le
  unfold maxLen at h1 h3
  by_cases hnm : n = m
  · subst hnm
    go_enter Try.func32, Try.ntmps32
    go_wp2
    go_loopw [13] (fun i wr => ∃ k : Nat, k ≤ n ∧ i = .int .i64 k ∧ xs.take k = ys.take k ∧ ∃ j, wr = w.drewN j) (fun i _ => n - (intOf i).toNat)
    case atStart => exact ⟨0, Nat.zero_le _, rfl, rfl, 0, rfl⟩
    case round =>
      obtain ⟨k, hk, rfl, ht, j, rfl⟩ := hrel
      have HT := Lib.hid ht
      clear ht
      by_cases hlt : k < n
      · have hkx : k < xs.length := by rw [hx.len]; exact hlt
        have hky : k < ys.length := by rw [hy.len]; exact hlt
        obtain ⟨b, off, cs, rfl, hSb, hlen, hc, hr⟩ := hx.at_ k xs[k] (List.getElem?_eq_getElem hkx)
        obtain ⟨rfl, hw1, hw2⟩ := hr
        have hc0 := hc 0 _ rfl
        have hc1 := hc 1 _ rfl
        obtain ⟨b', off', cs', rfl, hSb', hlen', hc', hr'⟩ := hy.at_ k ys[k] (List.getElem?_eq_getElem hky)
        obtain ⟨rfl, hw1', hw2'⟩ := hr'
        have hd0 := hc' 0 _ rfl
        have hd1 := hc' 1 _ rfl
        clear hc hc'
        simp only [Rp.sz, Nat.add_zero] at hc0 hc1 hd0 hd1
        obtain ⟨x, hxk⟩ : ∃ x, x = xs[k] := ⟨_, rfl⟩
        obtain ⟨y, hyk⟩ : ∃ y, y = ys[k] := ⟨_, rfl⟩
        rw [← hxk] at hc0 hc1
        rw [← hyk] at hd0 hd1
        have HX := Lib.hid hxk
        have HY := Lib.hid hyk
        clear hxk hyk
        go_wp2
        by_cases e1 : x.kind = y.kind
        · by_cases e2 : x.n = y.n
          · have e1' : (x.kind == y.kind) = true := by simp [e1]
            have e2' : (x.n == y.n) = true := by simp [e2]
            have E : Hid (x = y) := by cases x; cases y; simp at e1 e2; subst e1; subst e2; rfl
            clear e1 e2
            go_quiet (fail)
            go_wp2
            go_roundw
            case rel => exact ⟨k + 1, by omega, by go_num, take_snoc_eq HT.out hkx hky (by rw [← HX.out, ← HY.out]; exact E.out), _, rfl⟩
            case measure => simp [intOf]; omega
          · have e1' : (x.kind == y.kind) = true := by simp [e1]
            have e2' : (x.n == y.n) = false := by simp [e2]
            have E : xs ≠ ys := ne_of_get hkx hky (by rw [← HX.out, ← HY.out]; rintro rfl; exact e2 rfl)
            clear e1 e2
            go_quiet (fail)
            go_wp2
            go_ret
            exact ⟨ret_bool (by simp [E]), _, World.drewN_drewN ..⟩
        · have e1' : (x.kind == y.kind) = false := by simp [e1]
          have E : xs ≠ ys := ne_of_get hkx hky (by rw [← HX.out, ← HY.out]; rintro rfl; exact e1 rfl)
          clear e1
          go_quiet (fail)
          go_wp2
          go_ret
          exact ⟨ret_bool (by simp [E]), _, World.drewN_drewN ..⟩
      · obtain rfl : k = n := by omega
        have E : xs = ys := by have := HT.out; rwa [List.take_of_length_le (by rw [hx.len]; omega), List.take_of_length_le (by rw [hy.len]; omega)] at this
        go_wp2
        go_ret
        exact ⟨ret_bool (by simp [E]), _, rfl⟩
  · go_enter Try.func32, Try.ntmps32
    go_wp2
    go_ret
    exact ⟨ret_bool (by simp; rintro rfl; exact hnm (hx.len.symm.trans hy.len)), 0, rfl⟩

end Go.Proofs.Ytlbgnakpcjibjaa
