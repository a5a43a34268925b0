/-
  JudgeGrown, walked: it returns true and leaves all that was there as it was.
-/
import Derived.Test.YtlbgnakpcjibjaaJudgeLaws
import Derived.Test.YtlbgnakpcjibjaaJudgePlain2
namespace Go.Proofs.Ytlbgnakpcjibjaa
open Go.RowKit Go.ChangeShapes Go.WideShapes Go.ChangeAt Go.Deep

/-- what a region does, stated of the frame ahead of it, so that its orders meet -/
def joinQ (R : Act → Act → World → Prop) (a : Act) : Exit → Act → World → Prop
  | .normal, a', w' => R a a' w'
  | _, _, _ => False
theorem wp_join {P : Program} {c : Code} {Q : Exit → Act → World → Prop} {a : Act} {w : World} (R : Act → Act → World → Prop) (h : c.wp P (joinQ R a) a w) (hq : ∀ a' w', R a a' w' → Q .normal a' w') : c.wp P Q a w :=
  wp_mono h fun e a' w' h' => by
    cases e <;> first | exact hq a' w' h' | exact h'.elim
theorem wpAnyE_twoQ {P : Program} {md : Region.Mode} {ops : Array Oper} {Q : Exit → Act → World → Prop} {S : World → Prop} {E : Nat → Bool} (i j : Nat) {oi oj : Oper} {fuel : Nat} {listed : Array Bool} {a : Act} {w : World} (hr : Region.ready md ops listed = [i, j]) (hi : ops[i]? = some oi) (hj : ops[j]? = some oj)
    (h : wpList P ops (fun e a' w' => match e with | .normal => (E i = true ∨ (S w → S w')) ∧ wpAnyE P md ops Q S E fuel (listed.setIfInBounds i true) a' w' | e => Q e a' w') [oi] a w)
    (h' : wpList P ops (fun e a' w' => match e with | .normal => (E j = true ∨ (S w → S w')) ∧ wpAnyE P md ops Q S E fuel (listed.setIfInBounds j true) a' w' | e => Q e a' w') [oj] a w) :
    wpAnyE P md ops Q S E (fuel + 1) listed a w := wpAnyE_two hr hi hj h h'

set_option maxHeartbeats 4000000 in
theorem judgeGrown (A : Option Addr) (n cap : Nat) (l0 : List Call) (x : Call) (cx : List Value) (w : World) (hl0 : All w A n cap l0) (hx : Rp.rep w (fun b => b < w.heap.size) cx x) :
    Calls Try.prog 8 #[.slice A n cap, .agg cx.toArray] w fun e w' => e = .returned (.bool true) ∧ Below w.heap.size w w' := by
  obtain ⟨i0, hi0, hz0, hz1, hz2⟩ := info_parts infoCall
  have hx0 := hx
  obtain ⟨Ax, cxx, rfl, hy, hb1, hb2, hb3, hb4⟩ := hx
  go_enter Try.func8, Try.ntmps8
  go_wp2_with fail
  obtain ⟨w0, hw0⟩ : ∃ w0, w0 = w.alloc (.cells #[.int .i64 x.n, .int .i64 x.fn, .int .i64 x.at_, .slice Ax x.args.length cxx, .bool x.has, .int .i64 x.ans] 34) := ⟨_, rfl⟩
  rw [← hw0]
  have B0 : Blk w0 w.heap.size 34 #[.int .i64 x.n, .int .i64 x.fn, .int .i64 x.at_, .slice Ax x.args.length cxx, .bool x.has, .int .i64 x.ans] := by rw [hw0]; exact Blk.new _ _ _
  have hB0 : Below w.heap.size w w0 := by rw [hw0]; exact (Below.refl _ _).alloc (Nat.le_refl _) _
  clear hw0
  have hl1 := allB hl0 hB0
  have hx1 := Rp.mono (fun _ h => Nat.lt_of_lt_of_le h hB0.size) (Rp.keep (Same.of_below hB0 fun _ h => h) hx0)
  refine (judgeBegun _).mono ?_
  rintro e w1 ⟨rfl, hbb1⟩
  have B1 := B0.below hbb1 B0.lt
  have hl2 := allB hl1 hbb1
  have hx2 := Rp.mono (fun _ h => Nat.lt_of_lt_of_le h hbb1.size) (Rp.keep (Same.of_below hbb1 fun _ h => h) hx1)
  have hB1 := hB0.trans (hbb1.mono hB0.size)
  clear hl0 hl1 hx0 hx1 B0 hB0 hbb1
  go_wp2_with fail
  refine (cut _ _ _ l0 _ hl2).mono ?_
  rintro e w2 ⟨A2, c2, rfl, hl3, hbb2⟩
  have B2 := B1.below hbb2 B1.lt
  have hx3 := Rp.mono (fun _ h => Nat.lt_of_lt_of_le h hbb2.size) (Rp.keep (Same.of_below hbb2 fun _ h => h) hx2)
  have hB2 := hB1.trans (hbb2.mono hB1.size)
  have hll := cutL_len l0
  clear hl2 hx2 B1 hB1 hbb2
  obtain ⟨l, hle⟩ : ∃ l, l = cutL l0 := ⟨_, rfl⟩
  rw [← hle] at hl3 hll ⊢
  clear hle
  obtain ⟨m, hm⟩ : ∃ m, m = l.length := ⟨_, rfl⟩
  rw [← hm] at hl3 hll ⊢
  have HM := Lib.hid hm
  clear hm hy
  have k0 := B2.cell 0
  have k1 := B2.cell 1
  have k2 := B2.cell 2
  have k3 := B2.cell 3
  have k4 := B2.cell 4
  have k5 := B2.cell 5
  simp at k0 k1 k2 k3 k4 k5
  by_cases h3 : 3 < x.args.length
  · go_wp2
    go_ret
    exact ⟨rfl, hB2⟩
  go_wp2_with fail
  refine wp_join (fun a a' w' => ∃ v19 v20 v21 v22 A3 c3, a' = (((((a.put (some 19) v19).put (some 20) v20).put (some 21) v21).put (some 22) v22).put (some 23) (.slice A3 (m + 1) c3)).put (some 6) (.slice A3 (m + 1) c3) ∧
    All w' A3 (m + 1) c3 (l ++ [x]) ∧ Below w2.heap.size w2 w') ?_ ?_
  · refine wp_region_E (fun w' => ∀ j u, [Value.int .i64 x.n, .int .i64 x.fn, .int .i64 x.at_, .slice Ax x.args.length cxx, .bool x.has, .int .i64 x.ans][j]? = some u → w'.cell? ⟨w.heap.size, j, none⟩ = some u) (fun _ => false) (by kernel_rfl) ?_
    have hS0 : ∀ j u, [Value.int .i64 x.n, .int .i64 x.fn, .int .i64 x.at_, .slice Ax x.args.length cxx, .bool x.has, .int .i64 x.ans][j]? = some u → w2.drew.cell? ⟨w.heap.size, j, none⟩ = some u := by
      intro j u hu
      show w2.cell? _ = _
      rw [B2.cell]
      simpa using hu
    refine wpAnyE_pureN (i := 0) (v := ?_) (a' := ?_) rfl (by kernel_rfl) (by kernel_rfl) (by kernel_rfl) (fun _ _ _ h => h) (by rfl) ?_ ?_ ?_
    rotate_left 2
    · intro _; go_simp; with_reducible rfl
    · go_simp; with_reducible rfl
    refine wpAnyE_takeN (i := 2) (v := .agg #[.int .i64 x.n, .int .i64 x.fn, .int .i64 x.at_, .slice Ax x.args.length cxx, .bool x.has, .int .i64 x.ans]) (a' := ?_) rfl (by kernel_rfl) (by kernel_rfl) (by kernel_rfl) (by kernel_rfl) (fun _ _ _ h => h) (by rfl) ?_ hS0 ?_ ?_
    rotate_left 1
    · intro w' hw
      have q0 := hw 0 _ rfl
      have q1 := hw 1 _ rfl
      have q2 := hw 2 _ rfl
      have q3 := hw 3 _ rfl
      have q4 := hw 4 _ rfl
      have q5 := hw 5 _ rfl
      clear hw
      go_simp
    · go_simp; with_reducible rfl
    have hg0 := B2.lt
    have hl3d : Sl w2.drew (fun b => b < w2.heap.size) A2 m c2 l := hl3.drew
    have hx3d : Rp.rep w2.drew (fun b => b < w2.heap.size) [.int .i64 x.n, .int .i64 x.fn, .int .i64 x.at_, .slice Ax x.args.length cxx, .bool x.has, .int .i64 x.ans] x := Rp.keep (Same.drew _) hx3
    have hd : Below w2.heap.size w2 w2.drew := (Below.refl _ w2).drew
    obtain ⟨wd, hwd⟩ : ∃ wd, wd = w2.drew := ⟨_, rfl⟩
    have hzd : w2.heap.size = wd.heap.size := by rw [hwd]; rfl
    rw [← hwd] at hl3d hx3d hS0 hd ⊢
    rw [hzd] at hl3d hx3d hg0 hd
    clear hwd
    have HZD := Lib.hid hzd
    clear hzd k0 k1 k2 k3 k4 k5
    refine wpAnyE_twoQ 1 3 (by kernel_rfl) rfl rfl ?_ ?_
    · refine wpList_append_sl (α := Call) _ rfl (.const (.slice none 0 0)) (.tmp 19) _ rfl 34 i0 _ 64 Try.underlying31 hi0 hz0 hz1 hz2 rfl (by decide) (S := fun _ => False) (base := wd.heap.size) (xs := []) rfl (Own.nil_ _ _ _ _) rfl hl3d ?_ ?_ ?_ ?_ ?_ m ?_ ?_
      · unfold maxLen; simp; omega
      · simp; omega
      · exact Nat.le_refl _
      · intro b h; exact h.elim
      · intro b h; exact ⟨h, by simp [Value.ownBlock, Act.eval]⟩
      · rw [List.length_nil, Nat.zero_add]; exact HM.out.symm
      intro A4 c4 w4 hown4 hg4 hbl4
      have hb4 : Below wd.heap.size wd w4 := (Below.refl _ _).grown hg4 (Nat.le_refl _) (fun g hg => by simp [Value.ownBlock, Act.eval] at hg)
      go_wp2_with fail
      refine ⟨fun h j u hu => (hb4.cell (p := ⟨w.heap.size, j, none⟩) hg0).trans (h j u hu), ?_⟩
      have hz4 := hb4.size
      have hob4 := hown4.blk
      refine wpAnyE_only (i := 3) (by kernel_rfl) rfl ?_
      go_wp2_with fail
      refine ⟨fun h j u hu => by rw [World.cell?_alloc_lt _ _ _ (Nat.lt_of_lt_of_le hg0 hz4)]; exact h j u hu, ?_⟩
      refine wpAnyE_only (i := 4) (by kernel_rfl) rfl ?_
      refine wpList_append_push (α := Call) _ rfl (.tmp 20) (.tmp 22) _ rfl 34 i0 _ 64 Try.underlying31 hi0 hz0 hz1 hz2 rfl (by decide) (S := fun b => b < wd.heap.size) (T := fun b => b < wd.heap.size) (base := wd.heap.size) (xs := l) (y := x) rfl ((hown4.more (fun b h => h.elim False.elim id) (fun g hg hlt => by have := (hob4 g hg).1; omega)).keep (Same.alloc _ _ fun b h => h.elim (fun h => Nat.lt_of_lt_of_le h hz4) (fun h => (hob4 b h).2))) rfl (cells_new _ _ _) (Rp.keep (Same.alloc _ _ fun b h => Nat.lt_of_lt_of_le h hz4) (Rp.keep (Same.of_below hb4 fun _ h => h) hx3d)) ?_ ?_ ?_ ?_ ?_ (m + 1) ?_ ?_
      · have := HM.out; unfold maxLen; omega
      · have := HM.out; omega
      · simp; omega
      · intro b h; simp; omega
      · intro b h; exact ⟨by simp; omega, fun h' => by have := (hob4 b h').1; omega⟩
      · rw [HM.out]
      intro A5 c5 w5 hown5 hg5 hbl5
      have hb5 : Below wd.heap.size wd w5 := (hb4.alloc hz4 _).grown hg5 (by simp; omega) (fun g hg => (hob4 g hg).1)
      have hz5 := hb5.size
      go_wp2_with fail
      refine ⟨fun h j u hu => (hb5.cell (p := ⟨w.heap.size, j, none⟩) hg0).trans (hS0 j u hu), ?_⟩
      refine wpAnyE_only (i := 5) (by kernel_rfl) rfl ?_
      go_wp2_with fail
      refine ⟨by kernel_rfl, .slice A2 m c2, .slice A4 m c4, .agg #[.int .i64 x.n, .int .i64 x.fn, .int .i64 x.at_, .slice Ax x.args.length cxx, .bool x.has, .int .i64 x.ans], .slice (some ⟨w4.heap.size, 0, none⟩) 1 1, A5, c5, by rfl, All.own hown5 (fun b h => by first | exact Nat.lt_of_lt_of_le h hz5 | exact h.elim (fun h => Nat.lt_of_lt_of_le h hz5) (fun h => Nat.lt_of_lt_of_le h hz5)), ?_⟩
      have hE := HZD.out
      exact (hd.mono (by omega)).trans (hb5.mono (by omega))
    · go_wp2_with fail
      try refine ⟨fun h j u hu => by rw [World.cell?_alloc_lt _ _ _ hg0]; exact h j u hu, ?_⟩
      have hcn := cells_new wd [.int .i64 x.n, .int .i64 x.fn, .int .i64 x.at_, .slice Ax x.args.length cxx, .bool x.has, .int .i64 x.ans] 34
      have hSl := hl3d.keep (Same.alloc wd (.cells #[.int .i64 x.n, .int .i64 x.fn, .int .i64 x.at_, .slice Ax x.args.length cxx, .bool x.has, .int .i64 x.ans] 34) (fun _ h => h))
      have hSx := Rp.keep (Same.alloc wd (.cells #[.int .i64 x.n, .int .i64 x.fn, .int .i64 x.at_, .slice Ax x.args.length cxx, .bool x.has, .int .i64 x.ans] 34) (fun _ h => h)) hx3d
      have hba : Below wd.heap.size wd (wd.alloc (.cells #[.int .i64 x.n, .int .i64 x.fn, .int .i64 x.at_, .slice Ax x.args.length cxx, .bool x.has, .int .i64 x.ans] 34)) := (Below.refl _ _).alloc (Nat.le_refl _) _
      refine wpAnyE_only (i := 1) (by kernel_rfl) rfl ?_
      refine wpList_append_sl (α := Call) _ rfl (.const (.slice none 0 0)) (.tmp 19) _ rfl 34 i0 _ 64 Try.underlying31 hi0 hz0 hz1 hz2 rfl (by decide) (S := fun _ => False) (base := wd.heap.size + 1) (xs := []) rfl (Own.nil_ _ _ _ _) rfl hSl ?_ ?_ ?_ ?_ ?_ m ?_ ?_
      · unfold maxLen; simp; omega
      · simp; omega
      · simp
      · intro b h; exact h.elim
      · intro b h; exact ⟨by simp; omega, by simp [Value.ownBlock, Act.eval]⟩
      · rw [List.length_nil, Nat.zero_add]; exact HM.out.symm
      intro A4 c4 w4 hown4 hg4 hbl4
      have hb4' : Below (wd.heap.size + 1) (wd.alloc (.cells #[.int .i64 x.n, .int .i64 x.fn, .int .i64 x.at_, .slice Ax x.args.length cxx, .bool x.has, .int .i64 x.ans] 34)) w4 := (Below.refl _ _).grown hg4 (by simp) (fun g hg => by simp [Value.ownBlock, Act.eval] at hg)
      have hb4 : Below wd.heap.size wd w4 := hba.trans (hb4'.mono (Nat.le_succ _))
      have hz4 : wd.heap.size + 1 ≤ w4.heap.size := by have := hb4'.size; simpa using this
      have hob4 := hown4.blk
      go_wp2_with fail
      refine ⟨fun h j u hu => (hb4.cell (p := ⟨w.heap.size, j, none⟩) hg0).trans (hS0 j u hu), ?_⟩
      refine wpAnyE_only (i := 4) (by kernel_rfl) rfl ?_
      refine wpList_append_push (α := Call) _ rfl (.tmp 20) (.tmp 22) _ rfl 34 i0 _ 64 Try.underlying31 hi0 hz0 hz1 hz2 rfl (by decide) (S := fun b => b < wd.heap.size) (T := fun b => b < wd.heap.size) (base := wd.heap.size) (xs := l) (y := x) rfl ((hown4.more (fun b h => h.elim False.elim id) (fun g hg hlt => by have := (hob4 g hg).1; omega)).base (Nat.le_succ _)) rfl (fun j u hu => (hb4'.cell (p := ⟨wd.heap.size, j, none⟩) (Nat.lt_succ_self _)).trans (hcn j u hu)) (Rp.keep (Same.of_below hb4 fun _ h => h) hx3d) ?_ ?_ ?_ ?_ ?_ (m + 1) ?_ ?_
      · have := HM.out; unfold maxLen; omega
      · have := HM.out; omega
      · omega
      · intro b h; omega
      · intro b h; exact ⟨by omega, fun h' => by have := (hob4 b h').1; omega⟩
      · rw [HM.out]
      intro A5 c5 w5 hown5 hg5 hbl5
      have hb5 : Below wd.heap.size wd w5 := hb4.grown hg5 (by omega) (fun g hg => by have := (hob4 g hg).1; omega)
      have hz5 := hb5.size
      go_wp2_with fail
      refine ⟨fun h j u hu => (hb5.cell (p := ⟨w.heap.size, j, none⟩) hg0).trans (hS0 j u hu), ?_⟩
      refine wpAnyE_only (i := 5) (by kernel_rfl) rfl ?_
      go_wp2_with fail
      refine ⟨by kernel_rfl, .slice A2 m c2, .slice A4 m c4, .agg #[.int .i64 x.n, .int .i64 x.fn, .int .i64 x.at_, .slice Ax x.args.length cxx, .bool x.has, .int .i64 x.ans], .slice (some ⟨wd.heap.size, 0, none⟩) 1 1, A5, c5, by rfl, All.own hown5 (fun b h => by first | exact Nat.lt_of_lt_of_le h hz5 | exact h.elim (fun h => Nat.lt_of_lt_of_le h hz5) (fun h => Nat.lt_of_lt_of_le h hz5)), ?_⟩
      have hE := HZD.out
      exact (hd.mono (by omega)).trans (hb5.mono (by omega))
  · rintro a' w3 ⟨v19, v20, v21, v22, A3, c3, rfl, hl4, hb3⟩
    go_wp2_with fail
    have B3 := B2.below hb3 B2.lt
    have hl3' := allB hl3 hb3
    have hB3 := hB2.trans (hb3.mono hB2.size)
    have hg3 := B3.lt
    have hk0 := B3.cell 0
    simp at hk0
    clear hl3 hb3 B2 hB2 hx3
    go_loopw [7, 8] (fun o i wr => ∃ k : Nat, k ≤ m ∧ i = .int .i64 k ∧ o = .bool ((l.take k).any (fun y => y.n == x.n)) ∧ ∃ j, wr = w3.drewN j) (fun _ i _ => m - (intOf i).toNat)
    case atStart => exact ⟨0, Nat.zero_le _, rfl, rfl, 0, rfl⟩
    case round =>
      obtain ⟨k, hk, rfl, rfl, j, rfl⟩ := hrel
      by_cases hlt : k < m
      · have hkl : k < l.length := by rw [← HM.out]; exact hlt
        obtain ⟨b, off, cs, rfl, -, -, hc, hr⟩ := hl3'.at_ k l[k] (List.getElem?_eq_getElem hkl)
        have hst : (l.take (k + 1)).any (fun y => y.n == x.n) = ((l.take k).any (fun y => y.n == x.n) || l[k].n == x.n) := by
          rw [List.take_succ_eq_append_getElem hkl, List.any_append]
          simp
        obtain ⟨z, hz⟩ : ∃ z, z = l[k] := ⟨_, rfl⟩
        rw [← hz] at hr hst
        obtain ⟨A9, c9, rfl, hy, hy1, hy2, hy3, hy4⟩ := hr
        have hc0 := hc 0 _ rfl
        have hc1 := hc 1 _ rfl
        have hc2 := hc 2 _ rfl
        have hc3 := hc 3 _ rfl
        have hc4 := hc 4 _ rfl
        have hc5 := hc 5 _ rfl
        clear hc
        simp only [Rp.sz, Nat.add_zero] at hc0 hc1 hc2 hc3 hc4 hc5
        have HST := Lib.hid hst
        clear hz hst
        cases hob : (l.take k).any (fun y => y.n == x.n) with
        | true =>
          go_wp2_with fail
          go_quiet (fail)
          go_wp2
          go_roundw
          case rel => exact ⟨k + 1, by omega, by go_num, by rw [HST.out, hob]; rfl, _, rfl⟩
          case measure => simp [intOf]; omega
        | false =>
          go_wp2_with fail
          go_quiet (fail)
          go_wp2
          go_roundw
          case rel => exact ⟨k + 1, by omega, by go_num, by rw [HST.out, hob]; rfl, _, rfl⟩
          case measure => simp [intOf]; omega
      · obtain rfl : k = m := by omega
        have hall : l.take k = l := List.take_of_length_le (by rw [HM.out]; exact Nat.le_refl _)
        rw [hall]
        clear hall
        obtain ⟨g, hgg⟩ : ∃ g, g = again l := ⟨_, rfl⟩
        have hol := once_len l
        have hga : 0 ≤ g ∧ g ≤ 15 := by rw [hgg]; unfold again; have := HM.out; omega
        obtain ⟨hga0, hga1⟩ := hga
        have HG := Lib.hid hgg
        clear hgg
        have hlm := hl3'.drewN j
        have hlx := hl4.drewN j
        have B4 := B3.drewN j
        have hB4 := below_drewN hB3 j
        have hz4 : w3.heap.size = (w3.drewN j).heap.size := rfl
        rw [hz4] at hlm hlx
        obtain ⟨w4, hw4⟩ : ∃ w4, w4 = w3.drewN j := ⟨_, rfl⟩
        rw [← hw4] at hlm hlx B4 hB4 ⊢
        clear hw4 hz4 hl3' hl4 B3 hB3 hk0 hg3
        have HO := Lib.hid hol
        clear hol
        cases hob : l.any (fun y => y.n == x.n) with
        | true =>
          have hHO := Lib.hid hob
          clear hob
          go_wp2_with fail
          refine (judgeAgain _ _ _ _ _ _ hlx (fun _ h => h) (by omega)).mono ?_
          rintro e w5 ⟨rfl, hb5⟩
          rw [again_old l x hHO.out, ← HG.out]
          have hB5 := hB4.trans (hb5.mono hB4.size)
          have hlm5 := allB hlm hb5
          have hlx5 := allB hlx hb5
          clear hlm hlx hb5 hB4 B4
          go_wp2_with fail
          refine (judgeAgain _ _ _ _ _ _ hlm5 (fun _ h => h) (by omega)).mono ?_
          rintro e w6 ⟨rfl, hb6⟩
          rw [← HG.out]
          have hB6 := hB5.trans (hb6.mono hB5.size)
          have hlm6 := allB hlm5 hb6
          have hlx6 := allB hlx5 hb6
          clear hlm5 hlx5 hb6 hB5
          go_wp2_with fail
          refine (judgeOnceA _ _ _ _ _ hlx6 (by omega)).mono ?_
          rintro e w7 ⟨A7, c7, rfl, ho7, hb7⟩
          have hB7 := hB6.trans (hb7.mono hB6.size)
          have hlm7 := allB hlm6 hb7
          clear hlm6 hlx6 hb7 hB6
          go_wp2_with fail
          refine (judgeOnceA _ _ _ _ _ hlm7 (by omega)).mono ?_
          rintro e w8 ⟨A8, c8, rfl, ho8, hb8⟩
          have hB8 := hB7.trans (hb8.mono hB7.size)
          have ho78 := allB ho7 hb8
          clear hlm7 ho7 hb8 hB7
          go_wp2_with fail
          refine (judgeSameL _ _ _ _ _ _ _ _ _ _ _ ho78 ho8 (fun _ h => h) (fun _ h => h)).mono ?_
          rintro e w9 ⟨rfl, hb9⟩
          rw [once_old l x hHO.out, sameB_refl]
          go_wp2
          go_ret
          exact ⟨rfl, hB8.trans (hb9.mono hB8.size)⟩
        | false =>
          have hHO := Lib.hid hob
          clear hob
          go_wp2_with fail
          refine (judgeOnceA _ _ _ _ _ hlx (by omega)).mono ?_
          rintro e w5 ⟨A5, c5, rfl, ho5, hb5⟩
          rw [once_new l x hHO.out] at ho5 ⊢
          have hB5 := hB4.trans (hb5.mono hB4.size)
          have hlm5 := allB hlm hb5
          have hlx5 := allB hlx hb5
          have B5 := B4.below hb5 B4.lt
          clear hlm hlx hb5 hB4 B4
          obtain ⟨q, hq⟩ : ∃ q, q = (once l).length := ⟨_, rfl⟩
          have hqk : q ≤ k := by rw [hq, HM.out]; exact HO.out
          have hlast : (once l ++ [x])[q]? = some x := by rw [hq]; simp
          rw [List.length_append, ← hq] at ho5 ⊢
          have HQ := Lib.hid hq
          clear hq
          obtain ⟨b, off, cs, rfl, hSb, -, hc, hr⟩ := ho5.at_ q x hlast
          obtain ⟨A9, c9, rfl, hy, hy1, hy2, hy3, hy4⟩ := hr
          have hc0 := hc 0 _ rfl
          have hc1 := hc 1 _ rfl
          have hc2 := hc 2 _ rfl
          have hc3 := hc 3 _ rfl
          have hc4 := hc 4 _ rfl
          have hc5 := hc 5 _ rfl
          clear hc
          simp only [Rp.sz, Nat.add_zero] at hc0 hc1 hc2 hc3 hc4 hc5
          clear hc1 hc2 hc3 hc4 hc5 hlast
          go_wp2_with fail
          have hgl := B5.lt
          have hi0' : (0 : Int) ≤ (q : Int) := Int.natCast_nonneg _
          have hi1' : (q : Int) < (q : Int) + 1 := Int.lt_succ _
          have hwq : IntKind.i64.wrap (q : Int) = (q : Int) := by rw [IntKind.wrap_i64]; omega
          have hwq1 : IntKind.i64.wrap ((q : Int) + 1) = (q : Int) + 1 := by rw [IntKind.wrap_i64]; omega
          refine wp_region_E (fun w' => w'.cell? ⟨b, off + q * 6, none⟩ = some (.int .i64 x.n) ∧ w'.cell? ⟨w.heap.size, 0, none⟩ = some (.int .i64 x.n)) (fun _ => false) (by kernel_rfl) ?_
          have hB0c := B5.cell 0
          simp at hB0c
          have hS0 : w5.drew.cell? ⟨b, off + q * 6, none⟩ = some (.int .i64 x.n) ∧ w5.drew.cell? ⟨w.heap.size, 0, none⟩ = some (.int .i64 x.n) := ⟨hc0, hB0c⟩
          have hlm5d : All w5.drew A2 k c2 l := hlm5.drew
          have hlx5d : All w5.drew A3 (k + 1) c3 (l ++ [x]) := hlx5.drew
          have hd : Below w5.heap.size w5 w5.drew := (Below.refl _ w5).drew
          have hgd : w.heap.size < w5.drew.heap.size := hgl
          have hbd : b < w5.drew.heap.size := hSb
          have hBd := hB5.trans (hd.mono hB5.size)
          obtain ⟨wd, hwd⟩ : ∃ wd, wd = w5.drew := ⟨_, rfl⟩
          rw [← hwd] at hS0 hlm5d hlx5d hgd hbd hBd ⊢
          clear hwd hd hlm5 hlx5 hB0c hc0 hgl hSb hB5 B5 ho5
          refine wpAnyE_pureN (i := 0) (v := ?_) (a' := ?_) rfl (by kernel_rfl) (by kernel_rfl) (by kernel_rfl) (fun _ _ _ h => h) (by rfl) ?_ ?_ ?_
          rotate_left 2
          · intro _; go_simp; with_reducible rfl
          · go_simp; with_reducible rfl
          refine wpAnyE_pureN (i := 2) (v := ?_) (a' := ?_) rfl (by kernel_rfl) (by kernel_rfl) (by kernel_rfl) (fun _ _ _ h => h) (by rfl) ?_ ?_ ?_
          rotate_left 2
          · intro _; go_simp; with_reducible rfl
          · go_simp; with_reducible rfl
          refine wpAnyE_only (i := 1) (by kernel_rfl) rfl ?_
          go_wp2_with fail
          refine (judgeAgain _ _ _ _ _ _ hlx5d (fun _ h => h) (by omega)).mono ?_
          rintro e w6 ⟨rfl, hb6⟩
          rw [again_new l x hHO.out, ← HG.out]
          have hlm6 := allB hlm5d hb6
          have hlx6 := allB hlx5d hb6
          have hB6 := hBd.trans (hb6.mono hBd.size)
          have hS6 : w6.cell? ⟨b, off + q * 6, none⟩ = some (.int .i64 x.n) ∧ w6.cell? ⟨w.heap.size, 0, none⟩ = some (.int .i64 x.n) := ⟨(hb6.cell (p := ⟨b, off + q * 6, none⟩) hbd).trans hS0.1, (hb6.cell (p := ⟨w.heap.size, 0, none⟩) hgd).trans hS0.2⟩
          have hg6 := Nat.lt_of_lt_of_le hgd hb6.size
          have hb6' := Nat.lt_of_lt_of_le hbd hb6.size
          go_wp2_with fail
          clear hS0 hlm5d hlx5d hgd hbd hBd hb6
          refine wpAnyE_only (i := 3) (by kernel_rfl) rfl ?_
          go_wp2_with fail
          refine (judgeAgain _ _ _ _ _ _ hlm6 (fun _ h => h) (by omega)).mono ?_
          rintro e w7 ⟨rfl, hb7⟩
          rw [← HG.out]
          have hlm7 := allB hlm6 hb7
          have hlx7 := allB hlx6 hb7
          have hB7 := hB6.trans (hb7.mono hB6.size)
          have hS7 : w7.cell? ⟨b, off + q * 6, none⟩ = some (.int .i64 x.n) ∧ w7.cell? ⟨w.heap.size, 0, none⟩ = some (.int .i64 x.n) := ⟨(hb7.cell (p := ⟨b, off + q * 6, none⟩) hb6').trans hS6.1, (hb7.cell (p := ⟨w.heap.size, 0, none⟩) hg6).trans hS6.2⟩
          have hg7 := Nat.lt_of_lt_of_le hg6 hb7.size
          have hb7' := Nat.lt_of_lt_of_le hb6' hb7.size
          go_wp2_with fail
          clear hS6 hlm6 hlx6 hg6 hb6' hB6 hb7
          refine wpAnyE_pureN (i := 4) (v := ?_) (a' := ?_) rfl (by kernel_rfl) (by kernel_rfl) (by kernel_rfl) (fun _ _ _ h => h) (by rfl) ?_ ?_ ?_
          rotate_left 2
          · intro _; go_simp; with_reducible rfl
          · go_simp; with_reducible rfl
          refine wpAnyE_pureN (i := 5) (v := ?_) (a' := ?_) rfl (by kernel_rfl) (by kernel_rfl) (by kernel_rfl) (fun _ _ _ h => h) (by rfl) ?_ ?_ ?_
          rotate_left 2
          · intro _; go_simp; with_reducible rfl
          · go_simp; with_reducible rfl
          refine wpAnyE_pureN (i := 6) (v := ?_) (a' := ?_) rfl (by kernel_rfl) (by kernel_rfl) (by kernel_rfl) (fun _ _ _ h => h) (by rfl) ?_ ?_ ?_
          rotate_left 2
          · intro _; go_simp; with_reducible rfl
          · go_simp; with_reducible rfl
          refine wpAnyE_pureN (i := 7) (v := ?_) (a' := ?_) rfl (by kernel_rfl) (by kernel_rfl) (by kernel_rfl) (fun _ _ _ h => h) (by rfl) ?_ ?_ ?_
          rotate_left 2
          · intro _; go_simp; with_reducible rfl
          · go_simp; with_reducible rfl
          refine wpAnyE_pureN (i := 8) (v := ?_) (a' := ?_) rfl (by kernel_rfl) (by kernel_rfl) (by kernel_rfl) (fun _ _ _ h => h) (by rfl) ?_ ?_ ?_
          rotate_left 2
          · intro _; go_simp; with_reducible rfl
          · go_simp; with_reducible rfl
          refine wpAnyE_only (i := 9) (by kernel_rfl) rfl ?_
          go_wp2_with fail
          refine (judgeOnceA _ _ _ _ _ hlm7 (by omega)).mono ?_
          rintro e w8 ⟨A8, c8, rfl, ho8, hb8⟩
          have HQ8 : (once l).length = q := HQ.out.symm
          rw [HQ8]
          clear HQ8 ho8
          have hlm8 := allB hlm7 hb8
          have hlx8 := allB hlx7 hb8
          have hB8 := hB7.trans (hb8.mono hB7.size)
          have hS8 : w8.cell? ⟨b, off + q * 6, none⟩ = some (.int .i64 x.n) ∧ w8.cell? ⟨w.heap.size, 0, none⟩ = some (.int .i64 x.n) := ⟨(hb8.cell (p := ⟨b, off + q * 6, none⟩) hb7').trans hS7.1, (hb8.cell (p := ⟨w.heap.size, 0, none⟩) hg7).trans hS7.2⟩
          have hg8 := Nat.lt_of_lt_of_le hg7 hb8.size
          have hb8' := Nat.lt_of_lt_of_le hb7' hb8.size
          clear hlm7 hlx7 hg7 hb7' hB7 hb8
          go_wp2_with fail
          clear hS7
          refine wpAnyE_pureN (i := 10) (v := ?_) (a' := ?_) rfl (by kernel_rfl) (by kernel_rfl) (by kernel_rfl) (fun _ _ _ h => h) (by rfl) ?_ ?_ ?_
          rotate_left 2
          · intro _; go_simp; with_reducible rfl
          · go_simp; with_reducible rfl
          refine wpAnyE_pureN (i := 11) (v := ?_) (a' := ?_) rfl (by kernel_rfl) (by kernel_rfl) (by kernel_rfl) (fun _ _ _ h => h) (by rfl) ?_ ?_ ?_
          rotate_left 2
          · intro _; go_simp; with_reducible rfl
          · go_simp; with_reducible rfl
          refine wpAnyE_pureN (i := 12) (v := ?_) (a' := ?_) rfl (by kernel_rfl) (by kernel_rfl) (by kernel_rfl) (fun _ _ _ h => h) (by rfl) ?_ ?_ ?_
          rotate_left 2
          · intro _; go_simp; with_reducible rfl
          · go_simp; with_reducible rfl
          refine wpAnyE_pureN (i := 13) (v := ?_) (a' := ?_) rfl (by kernel_rfl) (by kernel_rfl) (by kernel_rfl) (fun _ _ _ h => h) (by rfl) ?_ ?_ ?_
          rotate_left 2
          · intro _; go_simp; with_reducible rfl
          · go_simp; with_reducible rfl
          refine wpAnyE_pureN (i := 14) (v := ?_) (a' := ?_) rfl (by kernel_rfl) (by kernel_rfl) (by kernel_rfl) (fun _ _ _ h => h) (by rfl) ?_ ?_ ?_
          rotate_left 2
          · intro _; go_simp; with_reducible rfl
          · go_simp; with_reducible rfl
          refine wpAnyE_pureN (i := 15) (v := ?_) (a' := ?_) rfl (by kernel_rfl) (by kernel_rfl) (by kernel_rfl) (fun _ _ _ h => h) (by rfl) ?_ ?_ ?_
          rotate_left 2
          · intro _; go_simp; with_reducible rfl
          · go_simp; with_reducible rfl
          refine wpAnyE_pureN (i := 16) (v := ?_) (a' := ?_) rfl (by kernel_rfl) (by kernel_rfl) (by kernel_rfl) (fun _ _ _ h => h) (by rfl) ?_ ?_ ?_
          rotate_left 2
          · intro _; go_simp; with_reducible rfl
          · go_simp; with_reducible rfl
          refine wpAnyE_pureN (i := 17) (v := ?_) (a' := ?_) rfl (by kernel_rfl) (by kernel_rfl) (by kernel_rfl) (fun _ _ _ h => h) (by rfl) ?_ ?_ ?_
          rotate_left 2
          · intro _; go_simp; with_reducible rfl
          · go_simp; with_reducible rfl
          refine wpAnyE_pureN (i := 18) (v := ?_) (a' := ?_) rfl (by kernel_rfl) (by kernel_rfl) (by kernel_rfl) (fun _ _ _ h => h) (by rfl) ?_ ?_ ?_
          rotate_left 2
          · intro _; go_simp; with_reducible rfl
          · go_simp; with_reducible rfl
          refine wpAnyE_pureN (i := 19) (v := ?_) (a' := ?_) rfl (by kernel_rfl) (by kernel_rfl) (by kernel_rfl) (fun _ _ _ h => h) (by rfl) ?_ ?_ ?_
          rotate_left 2
          · intro _; go_simp; with_reducible rfl
          · go_simp; with_reducible rfl
          refine wpAnyE_pureN (i := 20) (v := ?_) (a' := ?_) rfl (by kernel_rfl) (by kernel_rfl) (by kernel_rfl) (fun _ _ _ h => h) (by rfl) ?_ ?_ ?_
          rotate_left 2
          · intro _; go_simp; with_reducible rfl
          · go_simp; with_reducible rfl
          refine wpAnyE_takeN (i := 21) (v := ?_) (a' := ?_) rfl (by kernel_rfl) (by kernel_rfl) (by kernel_rfl) (by kernel_rfl) (fun _ _ _ h => h) (by rfl) ?_ hS8 ?_ ?_
          rotate_left 2
          · intro _ hw; go_simp; with_reducible rfl
          · go_simp; with_reducible rfl
          refine wpAnyE_pureN (i := 22) (v := ?_) (a' := ?_) rfl (by kernel_rfl) (by kernel_rfl) (by kernel_rfl) (fun _ _ _ h => h) (by rfl) ?_ ?_ ?_
          rotate_left 2
          · intro _; go_simp; with_reducible rfl
          · go_simp; with_reducible rfl
          refine wpAnyE_takeN (i := 23) (v := ?_) (a' := ?_) rfl (by kernel_rfl) (by kernel_rfl) (by kernel_rfl) (by kernel_rfl) (fun _ _ _ h => h) (by rfl) ?_ hS8 ?_ ?_
          rotate_left 2
          · intro _ hw; go_simp; with_reducible rfl
          · go_simp; with_reducible rfl
          refine wpAnyE_pureN (i := 24) (v := ?_) (a' := ?_) rfl (by kernel_rfl) (by kernel_rfl) (by kernel_rfl) (fun _ _ _ h => h) (by rfl) ?_ ?_ ?_
          rotate_left 2
          · intro _; go_simp; with_reducible rfl
          · go_simp; with_reducible rfl
          refine wpAnyE_pureN (i := 25) (v := ?_) (a' := ?_) rfl (by kernel_rfl) (by kernel_rfl) (by kernel_rfl) (fun _ _ _ h => h) (by rfl) ?_ ?_ ?_
          rotate_left 2
          · intro _; go_simp; with_reducible rfl
          · go_simp; with_reducible rfl
          refine wpAnyE_pureN (i := 26) (v := ?_) (a' := ?_) rfl (by kernel_rfl) (by kernel_rfl) (by kernel_rfl) (fun _ _ _ h => h) (by rfl) ?_ ?_ ?_
          rotate_left 2
          · intro _; go_simp; with_reducible rfl
          · go_simp; with_reducible rfl
          refine wpAnyE_pureN (i := 27) (v := ?_) (a' := ?_) rfl (by kernel_rfl) (by kernel_rfl) (by kernel_rfl) (fun _ _ _ h => h) (by rfl) ?_ ?_ ?_
          rotate_left 2
          · intro _; go_simp; with_reducible rfl
          · go_simp; with_reducible rfl
          refine wpAnyE_pureN (i := 29) (v := ?_) (a' := ?_) rfl (by kernel_rfl) (by kernel_rfl) (by kernel_rfl) (fun _ _ _ h => h) (by rfl) ?_ ?_ ?_
          rotate_left 2
          · intro _; go_simp; with_reducible rfl
          · go_simp; with_reducible rfl
          refine wpAnyE_only (i := 28) (by kernel_rfl) rfl ?_
          go_wp2_with fail
          refine (judgeTwins _ _ _ _ _ _ hlx8 (fun _ h => h)).mono ?_
          rintro e w9 ⟨rfl, hb9⟩
          rw [twins_new l x hHO.out]
          have hlm9 := allB hlm8 hb9
          have hS9 : w9.cell? ⟨b, off + q * 6, none⟩ = some (.int .i64 x.n) ∧ w9.cell? ⟨w.heap.size, 0, none⟩ = some (.int .i64 x.n) := ⟨(hb9.cell (p := ⟨b, off + q * 6, none⟩) hb8').trans hS8.1, (hb9.cell (p := ⟨w.heap.size, 0, none⟩) hg8).trans hS8.2⟩
          have hg9 := Nat.lt_of_lt_of_le hg8 hb9.size
          have hb9' := Nat.lt_of_lt_of_le hb8' hb9.size
          have hB9 := hB8.trans (hb9.mono hB8.size)
          go_wp2_with fail
          clear hlm8 hlx8 hS8 hB8 hb9 hg8 hb8'
          refine wpAnyE_only (i := 30) (by kernel_rfl) rfl ?_
          go_wp2_with fail
          refine (judgeTwins _ _ _ _ _ _ hlm9 (fun _ h => h)).mono ?_
          rintro e w10 ⟨rfl, hb10⟩
          have hB10 := hB9.trans (hb10.mono hB9.size)
          have hS10 : w10.cell? ⟨b, off + q * 6, none⟩ = some (.int .i64 x.n) ∧ w10.cell? ⟨w.heap.size, 0, none⟩ = some (.int .i64 x.n) := ⟨(hb10.cell (p := ⟨b, off + q * 6, none⟩) hb9').trans hS9.1, (hb10.cell (p := ⟨w.heap.size, 0, none⟩) hg9).trans hS9.2⟩
          go_wp2_with fail
          refine wpAnyE_pureN (i := 31) (v := ?_) (a' := ?_) rfl (by kernel_rfl) (by kernel_rfl) (by kernel_rfl) (fun _ _ _ h => h) (by rfl) ?_ ?_ ?_
          rotate_left 2
          · intro _; go_simp; with_reducible rfl
          · go_simp; with_reducible rfl
          refine wpAnyE_pureN (i := 32) (v := ?_) (a' := ?_) rfl (by kernel_rfl) (by kernel_rfl) (by kernel_rfl) (fun _ _ _ h => h) (by rfl) ?_ ?_ ?_
          rotate_left 2
          · intro _; go_simp; with_reducible rfl
          · go_simp; with_reducible rfl
          refine wpAnyE_pureN (i := 33) (v := ?_) (a' := ?_) rfl (by kernel_rfl) (by kernel_rfl) (by kernel_rfl) (fun _ _ _ h => h) (by rfl) ?_ ?_ ?_
          rotate_left 2
          · intro _; go_simp; with_reducible rfl
          · go_simp; with_reducible rfl
          refine wpAnyE_done (by kernel_rfl) ?_ _
          go_wp2
          go_ret
          exact ⟨rfl, hB10⟩

end Go.Proofs.Ytlbgnakpcjibjaa
