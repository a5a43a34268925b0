/-
  HostAll, walked: it returns true and leaves all that was there as it was.
-/
import Derived.Test.YtlbgnakpcjibjaaHostTwo
import Derived.Deep.Cut
import Derived.Deep.CutBlock
namespace Go.Proofs.Ytlbgnakpcjibjaa
open Go.RowKit Go.ChangeShapes Go.WideShapes Go.ChangeAt Go.Deep

/-- the call of round j -/
def callOf (seed : Int) (ns fns : List Int) (vals : List Val) (j : Nat) : Call :=
  ⟨ns.getD j 0, fns.getD j 0, 0, vals.take (j % 5), true, answer seed (ns.getD j 0) (fns.getD j 0) (vals.take (j % 5))⟩
def callsOf (seed : Int) (ns fns : List Int) (vals : List Val) (k : Nat) : List Call := (List.range k).map (callOf seed ns fns vals)
theorem callsOf_len (seed : Int) (ns fns : List Int) (vals : List Val) (k : Nat) : (callsOf seed ns fns vals k).length = k := by simp [callsOf]
theorem callsOf_succ (seed : Int) (ns fns : List Int) (vals : List Val) (k : Nat) : callsOf seed ns fns vals (k + 1) = callsOf seed ns fns vals k ++ [callOf seed ns fns vals k] := by
  simp [callsOf, List.range_succ]
theorem callsOf_get (seed : Int) (ns fns : List Int) (vals : List Val) (k : Nat) : (callsOf seed ns fns vals (k + 1))[k]? = some (callOf seed ns fns vals k) := by
  simp [callsOf]
theorem callsOf_args (seed : Int) (ns fns : List Int) (vals : List Val) (k : Nat) : ∀ c ∈ callsOf seed ns fns vals k, c.args.length ≤ 1000 := by
  intro c hc
  obtain ⟨j, _, rfl⟩ := List.mem_map.1 hc
  show (vals.take (j % 5)).length ≤ 1000
  rw [List.length_take]
  omega

set_option maxHeartbeats 8000000 in
set_option maxRecDepth 100000 in
theorem hostAll (seed : Int) (A0 A1 A2 : Option Addr) (n0 c0 n1 c1 n2 c2 : Nat) (ns fns : List Int) (vals : List Val) (w : World)
    (s0 : Sl w (fun b => b < w.heap.size) A0 n0 c0 ns) (s1 : Sl w (fun b => b < w.heap.size) A1 n1 c1 fns) (s2 : Sl w (fun b => b < w.heap.size) A2 n2 c2 vals) :
    Calls Try.prog 3 #[.int .i64 seed, .slice A0 n0 c0, .slice A1 n1 c1, .slice A2 n2 c2] w fun e w' => e = .returned (.bool true) ∧ Below w.heap.size w w' := by
  have m0 := s0.max
  have m1 := s1.max
  have m2 := s2.max
  have l0 := s0.le
  have l1 := s1.le
  have l2 := s2.le
  unfold maxLen at m0 m1 m2
  go_enter Try.func3, Try.ntmps3
  go_wp2_with fail
  refine (hostBegun _).mono ?_
  rintro e w1 ⟨rfl, hb1⟩
  go_wp2_with fail
  refine (hostNew' _ _).mono ?_
  rintro e w2 ⟨rfl, hh2, hb2, hz2⟩
  have hB2 := hb1.trans (hb2.mono hb1.size)
  have hz1 := hb1.size
  have HZ2 := Lib.hid hz2
  clear hz2
  go_wp2_with fail
  go_loopw [11, 12] (fun kk i wr => ∃ k : Nat, k ≤ 20 ∧ kk = .int .i64 k ∧ i = .int .i64 k ∧ HostAt wr (fun b => w.heap.size ≤ b ∧ b < wr.heap.size) w1.heap.size seed (callsOf seed ns fns vals k) ∧ Below w.heap.size w wr) (fun _ i _ => 20 - (intOf i).toNat)
  case atStart =>
    refine ⟨0, by omega, rfl, rfl, ?_, hB2⟩
    have := HZ2.out
    exact hh2.mono (fun b hb => by omega)
  case round =>
    obtain ⟨k, hk, rfl, rfl, hh, hb⟩ := hrel
    by_cases hc : k < n0 ∧ k < n1 ∧ k < 20
    · obtain ⟨h0, h1, h3⟩ := hc
      have hzr := hb.size
      have hd3 : decide ((k : Int) < 20) = true := decide_eq_true (by omega)
      obtain ⟨wo, rfl⟩ : ∃ wo : World, wo = wr := ⟨_, rfl⟩
      go_upto_block 2 with fail
      go_cut [13, 14] from 40 to 58 (fun v jj wx => ∃ (j : Nat) (A : Option Addr) (c : Nat), (vals.take (k % 5)).length = j ∧ v = .slice A j c ∧ (∃ q : Nat, jj = .int .i64 q) ∧ Own wx wo.heap.size 28 (.slice A j c) (fun _ => False) (vals.take (k % 5)) ∧ Below wo.heap.size wo wx)
      case first =>
        go_wp2_with fail
        go_loopw [13, 14] (fun v jj wj => ∃ (j : Nat) (A : Option Addr) (c : Nat), j ≤ n2 ∧ j ≤ k % 5 ∧ jj = .int .i64 j ∧ v = .slice A j c ∧ Own wj wo.heap.size 28 (.slice A j c) (fun _ => False) (vals.take j) ∧ Below wo.heap.size wo wj) (fun _ jj _ => 5 - (intOf jj).toNat)
        case atStart => exact ⟨0, none, 0, by omega, by omega, rfl, rfl, Own.nil_ _ _ _ _, Below.refl _ _⟩
        case round =>
          obtain ⟨j, A, c, hj2, hj5, rfl, rfl, ho, hbj⟩ := hrel
          by_cases hlt : j < n2 ∧ j < k % 5
          · obtain ⟨hjn, hj5'⟩ := hlt
            have hjl : j < vals.length := by rw [s2.len]; exact hjn
            have hzj := hbj.size
            obtain ⟨b, off, cs, rfl, hSb, hlen, hcell, hr⟩ := (s2.keep (Same.of_below (hb.trans (hbj.mono hzr)) (fun _ h => h))).at_ j vals[j] (List.getElem?_eq_getElem hjl)
            obtain ⟨x, hx⟩ : ∃ x, x = vals[j] := ⟨_, rfl⟩
            rw [← hx] at hr
            have HX := Lib.hid hx
            clear hx
            have hr' := hr
            obtain ⟨rfl, hw1, hw2⟩ := hr
            have hq0 := hcell 0 _ rfl
            have hq1 := hcell 1 _ rfl
            clear hcell
            simp only [Rp.sz, Nat.add_zero] at hq0 hq1
            obtain ⟨i0, hi0, hz0, hz1, hz2⟩ := info_parts infoVal
            have HO := Lib.hid ho
            clear ho
            go_wp2_with (at_builtin; go_must (refine wpList_append_push (α := Val) _ rfl (.tmp 52) (.tmp 57) _ rfl 28 i0 _ 16 Try.underlying23 hi0 hz0 hz1 hz2 rfl (by decide) (S := fun _ => False) (T := fun _ => False) (base := wo.heap.size) (xs := vals.take j) (g := wr.heap.size) (c := 1) (y := x) (cs := [.int .i64 x.kind, .int .i64 x.n]) rfl (Own.keep (Same.alloc _ _ ?_) HO.out) rfl (cells_new _ _ _) (Flat.flat hr') ?_ ?_ ?_ (fun _ h => h.elim) (fun _ h => h.elim) (j + 1) ?_ ?_))
            · intro q hq
              rcases hq with hq | hq
              · exact hq.elim
              · exact (HO.out.blk q hq).2
            · rw [List.length_take]; unfold maxLen; omega
            · rw [List.length_take]; omega
            · simp; omega
            · rw [List.length_take]; omega
            intro A' c' w' ho' hg' hbl'
            go_wp2
            go_roundw
            case rel =>
              refine ⟨j + 1, A', c', by omega, by omega, by go_num, rfl, ?_, (hbj.alloc hzj _).grown hg' (by simp; omega) (fun g hg => (HO.out.blk g hg).1)⟩
              rw [List.take_succ_eq_append_getElem hjl, ← HX.out]
              simpa using ho'
            case measure => simp [intOf]; omega
          · have hjt : vals.take j = vals.take (k % 5) := by
              rcases Nat.lt_or_ge j (k % 5) with h | h
              · rw [List.take_of_length_le (by rw [s2.len]; omega), List.take_of_length_le (by rw [s2.len]; omega)]
              · rw [show j = k % 5 by omega]
            rw [hjt] at ho
            have hlen : (vals.take (k % 5)).length = j := by rw [← hjt, List.length_take, s2.len]; omega
            rcases Nat.lt_or_ge j n2 with hj' | hj'
            · have hj5' : ¬ j < k % 5 := by omega
              go_wp2_with fail
              go_meet
              case rel => exact ⟨j, A, c, hlen, rfl, ⟨_, rfl⟩, ho, hbj⟩
            · go_wp2_with fail
              go_meet
              case rel => exact ⟨j, A, c, hlen, rfl, ⟨_, rfl⟩, ho, hbj⟩
      case rest =>
        obtain ⟨j, A, c, hlenj, rfl, ⟨q, rfl⟩, ho, hbj⟩ := hcut
        have HLJ := Lib.hid hlenj
        clear hlenj
        obtain ⟨wj, rfl⟩ : ∃ wj : World, wj = wc := ⟨_, rfl⟩
        have hzj := hbj.size
        have hBj := hb.trans (hbj.mono hzr)
        have hk0 : k < ns.length := by rw [s0.len]; omega
        have hk1 : k < fns.length := by rw [s1.len]; omega
        obtain ⟨b3, o3, cs3, rfl, hS3, _, hcell3, e3, hw3⟩ := (s0.keep (Same.of_below hBj (fun _ h => h))).at_ k ns[k] (List.getElem?_eq_getElem hk0)
        obtain ⟨b4, o4, cs4, rfl, hS4, _, hcell4, e4, hw4⟩ := (s1.keep (Same.of_below hBj (fun _ h => h))).at_ k fns[k] (List.getElem?_eq_getElem hk1)
        have hn0 : ns.getD k 0 = ns[k] := by simp [List.getD, hk0]
        have hn1 : fns.getD k 0 = fns[k] := by simp [List.getD, hk1]
        rw [← hn0] at e3 hw3
        rw [← hn1] at e4 hw4
        obtain ⟨x, hx⟩ : ∃ x, x = ns.getD k 0 := ⟨_, rfl⟩
        obtain ⟨y, hy⟩ : ∃ y, y = fns.getD k 0 := ⟨_, rfl⟩
        rw [← hx] at e3 hw3
        rw [← hy] at e4 hw4
        subst e3 e4
        have hq3 := hcell3 0 _ rfl
        have hq4 := hcell4 0 _ rfl
        simp only [Rp.sz, Nat.add_zero, Nat.mul_one] at hq3 hq4
        clear hcell3 hcell4 hn0 hn1
        have HX := Lib.hid hx
        have HY := Lib.hid hy
        clear hx hy
        go_wp2_with fail
        obtain ⟨A9, c9, hv9, hs9⟩ := ho.slF
        have hsj : Sl wj (fun b => (Value.slice A j c).ownBlock = some b) A j c (vals.take (k % 5)) := by
          obtain ⟨e1, e2, e3⟩ := Value.slice.inj hv9
          rw [e1, e2, e3]
          rw [e1, e2, e3] at hs9
          exact hs9
        clear hv9 hs9
        go_quiet ((go_at_call 11; exact Calls.quiet_of_same (refAnswer _ _ _ _ _ _ _ _ _ (hsj.drewN _))))
        go_wp2_with fail
        have hi0 : (0 : Int) ≤ (k : Int) := Int.natCast_nonneg _
        have hi1 : (k : Int) < (n0 : Int) := by omega
        have hi2 : (k : Int) < (n1 : Int) := by omega
        refine wp_region_E (fun w' => w'.cell? ⟨b3, o3 + k, none⟩ = some (.int .i64 x) ∧ w'.cell? ⟨b4, o4 + k, none⟩ = some (.int .i64 y)) (fun _ => false) (by kernel_rfl) ?_
        have hS0 : (wj.drewN nq).drew.cell? ⟨b3, o3 + k, none⟩ = some (.int .i64 x) ∧ (wj.drewN nq).drew.cell? ⟨b4, o4 + k, none⟩ = some (.int .i64 y) := ⟨hq3, hq4⟩
        refine wpAnyE_pureN (i := 0) (v := ?_) (a' := ?_) rfl (by kernel_rfl) (by kernel_rfl) (by kernel_rfl) (fun _ _ _ h => h) (by rfl) ?_ ?_ ?_
        rotate_left 2
        · intro _; go_simp; with_reducible rfl
        · go_simp; with_reducible rfl
        refine wpAnyE_pureN (i := 1) (v := ?_) (a' := ?_) rfl (by kernel_rfl) (by kernel_rfl) (by kernel_rfl) (fun _ _ _ h => h) (by rfl) ?_ ?_ ?_
        rotate_left 2
        · intro _; go_simp; with_reducible rfl
        · go_simp; with_reducible rfl
        refine wpAnyE_pureN (i := 2) (v := ?_) (a' := ?_) rfl (by kernel_rfl) (by kernel_rfl) (by kernel_rfl) (fun _ _ _ h => h) (by rfl) ?_ ?_ ?_
        rotate_left 2
        · intro _; go_simp; with_reducible rfl
        · go_simp; with_reducible rfl
        refine wpAnyE_pureN (i := 3) (v := ?_) (a' := ?_) rfl (by kernel_rfl) (by kernel_rfl) (by kernel_rfl) (fun _ _ _ h => h) (by rfl) ?_ ?_ ?_
        rotate_left 2
        · intro _; go_simp; with_reducible rfl
        · go_simp; with_reducible rfl
        refine wpAnyE_takeN (i := 4) (v := ?_) (a' := ?_) rfl (by kernel_rfl) (by kernel_rfl) (by kernel_rfl) (by kernel_rfl) (fun _ _ _ h => h) (by rfl) ?_ hS0 ?_ ?_
        rotate_left 2
        · intro _ hw; go_simp; with_reducible rfl
        · go_simp; with_reducible rfl
        refine wpAnyE_pureN (i := 5) (v := ?_) (a' := ?_) rfl (by kernel_rfl) (by kernel_rfl) (by kernel_rfl) (fun _ _ _ h => h) (by rfl) ?_ ?_ ?_
        rotate_left 2
        · intro _; go_simp; with_reducible rfl
        · go_simp; with_reducible rfl
        refine wpAnyE_pureN (i := 6) (v := ?_) (a' := ?_) rfl (by kernel_rfl) (by kernel_rfl) (by kernel_rfl) (fun _ _ _ h => h) (by rfl) ?_ ?_ ?_
        rotate_left 2
        · intro _; go_simp; with_reducible rfl
        · go_simp; with_reducible rfl
        refine wpAnyE_pureN (i := 7) (v := ?_) (a' := ?_) rfl (by kernel_rfl) (by kernel_rfl) (by kernel_rfl) (fun _ _ _ h => h) (by rfl) ?_ ?_ ?_
        rotate_left 2
        · intro _; go_simp; with_reducible rfl
        · go_simp; with_reducible rfl
        refine wpAnyE_takeN (i := 8) (v := ?_) (a' := ?_) rfl (by kernel_rfl) (by kernel_rfl) (by kernel_rfl) (by kernel_rfl) (fun _ _ _ h => h) (by rfl) ?_ hS0 ?_ ?_
        rotate_left 2
        · intro _ hw; go_simp; with_reducible rfl
        · go_simp; with_reducible rfl
        refine wpAnyE_pureN (i := 9) (v := ?_) (a' := ?_) rfl (by kernel_rfl) (by kernel_rfl) (by kernel_rfl) (fun _ _ _ h => h) (by rfl) ?_ ?_ ?_
        rotate_left 2
        · intro _; go_simp; with_reducible rfl
        · go_simp; with_reducible rfl
        refine wpAnyE_pureN (i := 11) (v := ?_) (a' := ?_) rfl (by kernel_rfl) (by kernel_rfl) (by kernel_rfl) (fun _ _ _ h => h) (by rfl) ?_ ?_ ?_
        rotate_left 2
        · intro _; go_simp; with_reducible rfl
        · go_simp; with_reducible rfl
        refine wpAnyE_only (i := 10) (by kernel_rfl) rfl ?_
        have hlt9 := ho.blk
        go_wp2_with fail
        refine (hostAnswer _ _ _ _ _ _ _ _ _ (hsj.drewN nq).drew (fun b hb => (hlt9 b hb).2)).mono ?_
        rintro e w4 ⟨rfl, hb4⟩
        have hb4' : Below wj.heap.size wj w4 := ⟨hb4.os, hb4.tape, hb4.output, hb4.size, hb4.block⟩
        clear hb4
        have hz4 := hb4'.size
        have hBW4 := hBj.trans (hb4'.mono (Nat.le_trans hzr hzj))
        have hr3 := (hb4'.cell (p := ⟨b3, o3 + k, none⟩) (by show b3 < wj.heap.size; omega)).trans hq3
        have hr4 := (hb4'.cell (p := ⟨b4, o4 + k, none⟩) (by show b4 < wj.heap.size; omega)).trans hq4
        go_wp2_with fail
        have hS1 : w4.cell? ⟨b3, o3 + k, none⟩ = some (.int .i64 x) ∧ w4.cell? ⟨b4, o4 + k, none⟩ = some (.int .i64 y) := ⟨hr3, hr4⟩
        refine wpAnyE_pureN (i := 12) (v := ?_) (a' := ?_) rfl (by kernel_rfl) (by kernel_rfl) (by kernel_rfl) (fun _ _ _ h => h) (by rfl) ?_ ?_ ?_
        rotate_left 2
        · intro _; go_simp; with_reducible rfl
        · go_simp; with_reducible rfl
        refine wpAnyE_pureN (i := 13) (v := ?_) (a' := ?_) rfl (by kernel_rfl) (by kernel_rfl) (by kernel_rfl) (fun _ _ _ h => h) (by rfl) ?_ ?_ ?_
        rotate_left 2
        · intro _; go_simp; with_reducible rfl
        · go_simp; with_reducible rfl
        refine wpAnyE_pureN (i := 14) (v := ?_) (a' := ?_) rfl (by kernel_rfl) (by kernel_rfl) (by kernel_rfl) (fun _ _ _ h => h) (by rfl) ?_ ?_ ?_
        rotate_left 2
        · intro _; go_simp; with_reducible rfl
        · go_simp; with_reducible rfl
        refine wpAnyE_pureN (i := 15) (v := ?_) (a' := ?_) rfl (by kernel_rfl) (by kernel_rfl) (by kernel_rfl) (fun _ _ _ h => h) (by rfl) ?_ ?_ ?_
        rotate_left 2
        · intro _; go_simp; with_reducible rfl
        · go_simp; with_reducible rfl
        refine wpAnyE_pureN (i := 16) (v := ?_) (a' := ?_) rfl (by kernel_rfl) (by kernel_rfl) (by kernel_rfl) (fun _ _ _ h => h) (by rfl) ?_ ?_ ?_
        rotate_left 2
        · intro _; go_simp; with_reducible rfl
        · go_simp; with_reducible rfl
        refine wpAnyE_pureN (i := 17) (v := ?_) (a' := ?_) rfl (by kernel_rfl) (by kernel_rfl) (by kernel_rfl) (fun _ _ _ h => h) (by rfl) ?_ ?_ ?_
        rotate_left 2
        · intro _; go_simp; with_reducible rfl
        · go_simp; with_reducible rfl
        refine wpAnyE_takeN (i := 18) (v := ?_) (a' := ?_) rfl (by kernel_rfl) (by kernel_rfl) (by kernel_rfl) (by kernel_rfl) (fun _ _ _ h => h) (by rfl) ?_ hS1 ?_ ?_
        rotate_left 2
        · intro _ hw; go_simp; with_reducible rfl
        · go_simp; with_reducible rfl
        refine wpAnyE_pureN (i := 19) (v := ?_) (a' := ?_) rfl (by kernel_rfl) (by kernel_rfl) (by kernel_rfl) (fun _ _ _ h => h) (by rfl) ?_ ?_ ?_
        rotate_left 2
        · intro _; go_simp; with_reducible rfl
        · go_simp; with_reducible rfl
        refine wpAnyE_pureN (i := 20) (v := ?_) (a' := ?_) rfl (by kernel_rfl) (by kernel_rfl) (by kernel_rfl) (fun _ _ _ h => h) (by rfl) ?_ ?_ ?_
        rotate_left 2
        · intro _; go_simp; with_reducible rfl
        · go_simp; with_reducible rfl
        refine wpAnyE_pureN (i := 21) (v := ?_) (a' := ?_) rfl (by kernel_rfl) (by kernel_rfl) (by kernel_rfl) (fun _ _ _ h => h) (by rfl) ?_ ?_ ?_
        rotate_left 2
        · intro _; go_simp; with_reducible rfl
        · go_simp; with_reducible rfl
        refine wpAnyE_takeN (i := 22) (v := ?_) (a' := ?_) rfl (by kernel_rfl) (by kernel_rfl) (by kernel_rfl) (by kernel_rfl) (fun _ _ _ h => h) (by rfl) ?_ hS1 ?_ ?_
        rotate_left 2
        · intro _ hw; go_simp; with_reducible rfl
        · go_simp; with_reducible rfl
        refine wpAnyE_pureN (i := 23) (v := ?_) (a' := ?_) rfl (by kernel_rfl) (by kernel_rfl) (by kernel_rfl) (fun _ _ _ h => h) (by rfl) ?_ ?_ ?_
        rotate_left 2
        · intro _; go_simp; with_reducible rfl
        · go_simp; with_reducible rfl
        refine wpAnyE_pureN (i := 25) (v := ?_) (a' := ?_) rfl (by kernel_rfl) (by kernel_rfl) (by kernel_rfl) (fun _ _ _ h => h) (by rfl) ?_ ?_ ?_
        rotate_left 2
        · intro _; go_simp; with_reducible rfl
        · go_simp; with_reducible rfl
        refine wpAnyE_only (i := 24) (by kernel_rfl) rfl ?_
        have hh4 : HostAt w4 (fun b => w.heap.size ≤ b ∧ b < wo.heap.size) w1.heap.size seed (callsOf seed ns fns vals k) := hh.keep (Same.of_below (hbj.trans (hb4'.mono hzj)) (fun b hb => hb.2)) (by omega)
        have hs4 := hsj.keep (Same.of_below hb4' (fun b hb => (hlt9 b hb).2))
        have hxb : Bd x := hw3
        have hyb : Bd y := hw4
        go_wp2_with fail
        refine (hostCall _ _ _ _ (callsOf seed ns fns vals k) _ _ _ _ _ _ _ hh4 hs4 ?_ ?_ ?_ hxb hyb ?_).mono ?_
        · intro b hb; have := hlt9 b hb; omega
        · rw [← HLJ.out, List.length_take]; omega
        · rw [callsOf_len]; omega
        · intro b hb; omega
        rintro e w5 ⟨rfl, hh5, ho5⟩
        have hz5 := ho5.size
        have hBW5 : Below w.heap.size w w5 := hBW4.trans (ho5.below (by omega) (fun i _ h => h.1))
        have hc5 : HostAt w5 (fun b => w.heap.size ≤ b ∧ b < w5.heap.size) w1.heap.size seed (callsOf seed ns fns vals (k + 1)) := by
          have e : callOf seed ns fns vals k = ⟨x, y, 0, vals.take (k % 5), true, answer seed x y (vals.take (k % 5))⟩ := by
            unfold callOf
            rw [← HX.out, ← HY.out]
          rw [callsOf_succ, e]
          exact hh5.mono (fun b hb => by omega)
        have hs5 := hs4.keep (ho5.same (fun b hb => by have := hlt9 b hb; exact ⟨by omega, by omega⟩))
        have ht3 : w5.cell? ⟨b3, o3 + k, none⟩ = some (.int .i64 x) := (ho5.cell (p := ⟨b3, o3 + k, none⟩) (by show b3 < w4.heap.size; omega) (by show ¬ (w.heap.size ≤ b3 ∧ _); omega)).trans hr3
        have ht4 : w5.cell? ⟨b4, o4 + k, none⟩ = some (.int .i64 y) := (ho5.cell (p := ⟨b4, o4 + k, none⟩) (by show b4 < w4.heap.size; omega) (by show ¬ (w.heap.size ≤ b4 ∧ _); omega)).trans hr4
        clear hh5 ho5 hh4 hs4 hS1 hS0
        go_wp2_with fail
        refine wpAnyE_pureN (i := 26) (v := ?_) (a' := ?_) rfl (by kernel_rfl) (by kernel_rfl) (by kernel_rfl) (fun _ _ _ h => h) (by rfl) ?_ ?_ ?_
        rotate_left 2
        · intro _; go_simp; with_reducible rfl
        · go_simp; with_reducible rfl
        refine wpAnyE_pureN (i := 27) (v := ?_) (a' := ?_) rfl (by kernel_rfl) (by kernel_rfl) (by kernel_rfl) (fun _ _ _ h => h) (by rfl) ?_ ?_ ?_
        rotate_left 2
        · intro _; go_simp; with_reducible rfl
        · go_simp; with_reducible rfl
        refine wpAnyE_done (by kernel_rfl) ?_ _
        go_wp2_with fail
        refine (hostDone _ _ _ _ _ hc5 (fun b hb => hb.2) (by rw [callsOf_len]; omega) (callsOf_args _ _ _ _ _)).mono ?_
        rintro e w6 ⟨A6, c6, S6, he, hown6, hS6, hb6⟩
        rw [callsOf_len] at he hown6
        subst he
        have hz6 := hb6.size
        have hBW6 := hBW5.trans (hb6.mono (by omega))
        have hc6 : HostAt w6 (fun b => w.heap.size ≤ b ∧ b < w5.heap.size) w1.heap.size seed (callsOf seed ns fns vals (k + 1)) := hc5.keep (Same.of_below hb6 (fun b hb => hb.2)) hz6
        have hs6 := hs5.keep (Same.of_below hb6 (fun b hb => by have := hlt9 b hb; omega))
        have hu3 := (hb6.cell (p := ⟨b3, o3 + k, none⟩) (by show b3 < w5.heap.size; omega)).trans ht3
        have hu4 := (hb6.cell (p := ⟨b4, o4 + k, none⟩) (by show b4 < w5.heap.size; omega)).trans ht4
        have e : callOf seed ns fns vals k = ⟨x, y, 0, vals.take (k % 5), true, answer seed x y (vals.take (k % 5))⟩ := by
          unfold callOf
          rw [← HX.out, ← HY.out]
        have hget := callsOf_get seed ns fns vals k
        rw [e] at hget
        obtain ⟨g6, cap6, cs6, hv6, _, hcell6, _, A7, c7, rfl, hs7, hbd7⟩ := hown6.each.at_ hget
        rw [callsOf_len] at hv6
        obtain ⟨rfl, -, rfl⟩ := Value.slice.inj hv6
        have k0 := hcell6 0 _ rfl
        have k1 := hcell6 1 _ rfl
        have k2 := hcell6 2 _ rfl
        have k3 := hcell6 3 _ rfl
        have k4 := hcell6 4 _ rfl
        have k5 := hcell6 5 _ rfl
        simp only [Rp.sz, Nat.add_zero] at k0 k1 k2 k3 k4 k5
        clear hcell6 hget e hc5 hs5 ht3 ht4 hq3 hq4 hr3 hr4
        rw [List.length_take] at hs7
        go_wp2_with fail
        obtain ⟨w7, hw7⟩ : ∃ w7, w7 = w6.alloc (Obj.cells #[Value.int IntKind.i64 x, Value.int IntKind.i64 y, Value.int IntKind.i64 0, Value.slice A7 (min (k % 5) vals.length) c7, Value.bool true, Value.int IntKind.i64 (answer seed x y (List.take (k % 5) vals))] 34) := ⟨_, rfl⟩
        rw [← hw7]
        have B7 : Blk w7 w6.heap.size 34 #[Value.int IntKind.i64 x, Value.int IntKind.i64 y, Value.int IntKind.i64 0, Value.slice A7 (min (k % 5) vals.length) c7, Value.bool true, Value.int IntKind.i64 (answer seed x y (List.take (k % 5) vals))] := by rw [hw7]; exact Blk.new _ _ _
        have hb7 : Below w6.heap.size w6 w7 := by rw [hw7]; exact (Below.refl _ _).alloc (Nat.le_refl _) _
        have hz7 : w7.heap.size = w6.heap.size + 1 := by rw [hw7]; simp
        clear hw7 k0 k1 k2 k3 k4 k5
        have hBW7 := hBW6.trans (hb7.mono (by omega))
        have hc7 := hc6.keep (Same.of_below hb7 (fun b hb => by omega)) (by omega)
        have hs7' := hs7.keep (Same.of_below hb7 (fun b hb => by have := hS6 b (by first | exact hb | exact hb.elim id (fun h => by cases h)); omega))
        have hsJ := hs6.keep (Same.of_below hb7 (fun b hb => by have := hlt9 b hb; omega))
        have hx3 := (hb7.cell (p := ⟨b3, o3 + k, none⟩) (by show b3 < w6.heap.size; omega)).trans hu3
        have hx4 := (hb7.cell (p := ⟨b4, o4 + k, none⟩) (by show b4 < w6.heap.size; omega)).trans hu4
        have k0 := B7.cell 0
        have k1 := B7.cell 1
        have k2 := B7.cell 2
        have k3 := B7.cell 3
        have k4 := B7.cell 4
        have k5 := B7.cell 5
        simp at k0 k1 k2 k3 k4 k5
        have HZ7 := Lib.hid hz7
        clear hz7
        go_quiet ((go_at_call 15; exact Calls.quiet_of (eqVals _ _ _ _ _ _ _ _ _ _ _ (hs7'.drewN _) (hsJ.drewN _))))
        go_wp2_with fail
        go_roundw
        case rel =>
          refine ⟨k + 1, by omega, by go_num, by go_num, (hc7.keep (Same.drewN w7 nq) (Nat.le_refl _)).mono (fun b hb => ⟨hb.1, ?_⟩), below_drewN hBW7 nq⟩
          have := HZ7.out
          show b < w7.heap.size
          omega
        case measure => simp [intOf]; omega
    · have hor : n0 ≤ k ∨ (k < n0 ∧ n1 ≤ k) ∨ (k < n0 ∧ k < n1 ∧ 20 ≤ k) := by omega
      rcases hor with h1 | ⟨h1, h2⟩ | ⟨h1, h2, h3⟩
      all_goals
        go_wp2_with (first | (go_at_call 13; refine (callNil _ _ _ _).mono ?_; rintro e wx ⟨rfl, rfl⟩) | (go_at_call 14; refine (doneNil _).mono ?_; rintro e wx ⟨rfl, rfl⟩))
        go_ret
        exact ⟨rfl, hb⟩

end Go.Proofs.Ytlbgnakpcjibjaa
