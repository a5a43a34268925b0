/-
  HostTwo, walked: it returns true and leaves all that was there as it was.
-/
import Derived.Test.YtlbgnakpcjibjaaHostLaws
namespace Go.Proofs.Ytlbgnakpcjibjaa
open Go.RowKit Go.ChangeShapes Go.WideShapes Go.ChangeAt Go.Deep

theorem hostNew' (seed : Int) (w : World) : Calls Try.prog 10 #[.int .i64 seed] w fun e w' => e = .returned (.pointer (some ⟨w.heap.size, 0, none⟩)) ∧ HostAt w' (fun b => b = w.heap.size) w.heap.size seed [] ∧ Below w.heap.size w w' ∧ w'.heap.size = w.heap.size + 1 :=
  (hostNew seed w).mono fun e w' ⟨he, hw⟩ => by
    subst hw
    exact ⟨he, HostAt.new_ w seed, (Below.refl _ _).alloc (Nat.le_refl _) _, by simp⟩

theorem slOne (w : World) (v : Val) (hv : Bd v.kind ∧ Bd v.n) {b : Nat} (hb : w.heap.size = b) : Sl (w.alloc (.cells #[.int .i64 v.kind, .int .i64 v.n] 28)) (fun x => x = b) (some ⟨b, 0, none⟩) 1 1 [v] :=
  Sl.newF (css := [[.int .i64 v.kind, .int .i64 v.n]]) (xs := [v]) w _ (Cells.single (show Rp.rep (α := Val) w _ _ _ from ⟨rfl, hv.1, hv.2⟩)) (by simp [maxLen]) hb

set_option maxHeartbeats 4000000 in
theorem hostTwo (seed n fn : Int) (v : Val) (hbd : Bd n ∧ Bd fn ∧ Bd v.kind ∧ Bd v.n) (w : World) :
    Calls Try.prog 5 #[.int .i64 seed, .int .i64 n, .int .i64 fn, .agg #[.int .i64 v.kind, .int .i64 v.n]] w fun e w' => e = .returned (.bool true) ∧ Below w.heap.size w w' := by
  obtain ⟨hbn, hbf, hbk, hbv⟩ := hbd
  go_enter Try.func5, Try.ntmps5
  go_wp2_with fail
  refine (hostBegun _).mono ?_
  rintro e w1 ⟨rfl, hb1⟩
  have V1 : Blk w1 w.heap.size 28 #[.int .i64 v.kind, .int .i64 v.n] := (Blk.new w _ _).below hb1 (by simp)
  have hB1 : Below w.heap.size w w1 := ((Below.refl _ _).alloc (Nat.le_refl _) _).trans (hb1.mono (by simp))
  have hz1 : w.heap.size < w1.heap.size := V1.lt
  clear hb1
  go_wp2_with fail
  refine (hostNew' _ _).mono ?_
  rintro e w2 ⟨rfl, hg2, hb2, hz2⟩
  have V2 := V1.below hb2 hz1
  have hB2 := hB1.trans (hb2.mono (by omega))
  go_wp2_with fail
  refine (hostNew' _ _).mono ?_
  rintro e w3 ⟨rfl, hh3, hb3, hz3⟩
  have V3 := V2.below hb3 (by omega)
  have hB3 := hB2.trans (hb3.mono (by omega))
  have hg3 := hg2.keep (Same.of_below hb3 (fun b hb => by omega)) hb3.size
  clear V1 V2 hB1 hB2 hg2
  have hv0 := V3.cell 0
  have hv1 := V3.cell 1
  simp at hv0 hv1
  have SZ2 := Lib.hid hz2
  have SZ3 := Lib.hid hz3
  clear hz2 hz3
  go_wp2_with fail
  have hz2 := SZ2.out
  have hz3 := SZ3.out
  refine (hostCall w1.heap.size seed n fn [] (fun b => b = w1.heap.size) _ _ _ _ [v] _ (hg3.keep (Same.alloc _ _ ?_) ?_) (slOne _ v ⟨hbk, hbv⟩ rfl) ?_ ?_ ?_ hbn hbf ?_).mono ?_
  · intro b hb; omega
  · simp
  · intro b hb; subst hb; simp
  · omega
  · simp
  · intro b hb; simp; omega
  rintro e w4 ⟨rfl, hg4, ho4⟩
  have hz4 := ho4.size
  simp only [World.size_alloc] at hz4
  have V4 : Blk w4 w.heap.size 28 #[.int .i64 v.kind, .int .i64 v.n] := ho4.blk (V3.alloc _) (by omega)
  have hB4 : Below w.heap.size w w4 := (hB3.alloc (by omega) _).trans (ho4.below (by simp; omega) (fun i _ h => by omega))
  have hh4 : HostAt w4 (fun b => b = w2.heap.size) w2.heap.size seed [] := (hh3.keep (Same.alloc _ _ (fun b hb => by omega)) (by simp)).keep (ho4.same (fun b hb => ⟨by simp; omega, by omega⟩)) (by simp; omega)
  have hg4' : HostAt w4 (fun b => b = w1.heap.size ∨ (w3.heap.size + 1 ≤ b ∧ b < w4.heap.size)) w1.heap.size seed [⟨n, fn, 0, [v], true, answer seed n fn [v]⟩] := by
    simpa using hg4
  clear hg4 hh3 hg3 V3 hB3 ho4 hv0 hv1
  clear hz2 hz3
  go_wp2_with fail
  have hz2 := SZ2.out
  have hz3 := SZ3.out
  refine (hostDone _ _ _ _ _ hg4' ?_ ?_ ?_).mono ?_
  · rintro b (hb | hb) <;> omega
  · simp
  · simp
  rintro e w5 ⟨A5, c5, S5, rfl, hown5, hS5, hb5⟩
  have hz5 := hb5.size
  have V5 := V4.below hb5 (by omega)
  have hB5 := hB4.trans (hb5.mono (by omega))
  have hg5 := hg4'.keep (Same.of_below hb5 (fun b hb => by rcases hb with hb | hb <;> omega)) hb5.size
  have hh5 := hh4.keep (Same.of_below hb5 (fun b hb => by omega)) hb5.size
  clear hg4' hh4 V4 hB4
  clear hz2 hz3
  go_wp2_with fail
  have hz2 := SZ2.out
  have hz3 := SZ3.out
  refine (hostDone _ _ _ _ _ hh5 ?_ ?_ ?_).mono ?_
  · intro b hb; omega
  · simp
  · simp
  rintro e w6 ⟨A6, c6, S6, rfl, hown6, hS6, hb6⟩
  have hz6 := hb6.size
  have V6 := V5.below hb6 (by omega)
  have hB6 := hB5.trans (hb6.mono (by omega))
  have hg6 := hg5.keep (Same.of_below hb6 (fun b hb => by rcases hb with hb | hb <;> omega)) hb6.size
  have hh6 := hh5.keep (Same.of_below hb6 (fun b hb => by omega)) hb6.size
  have hl6 := hown5.below hb6 (fun b hb => (hS5 b hb).2.1) (fun b hb => (hown5.blk b hb).2)
  clear hg5 hh5 V5 hB5 hown6 hS6
  have hv0 := V6.cell 0
  have hv1 := V6.cell 1
  simp at hv0 hv1
  clear hz2 hz3
  go_wp2_with fail
  have hz2 := SZ2.out
  have hz3 := SZ3.out
  have hlt6 := fun b hb => hl6.blk b hb
  refine (hostCall w2.heap.size seed n fn [] (fun b => b = w2.heap.size) _ _ _ _ [v] _ (hh6.keep (Same.alloc _ _ ?_) ?_) (slOne _ v ⟨hbk, hbv⟩ rfl) ?_ ?_ ?_ hbn hbf ?_).mono ?_
  · intro b hb; omega
  · simp
  · intro b hb; subst hb; simp
  · omega
  · simp
  · intro b hb; simp; omega
  rintro e w7 ⟨rfl, hh7, ho7⟩
  have hz7 := ho7.size
  simp only [World.size_alloc] at hz7
  have V7 : Blk w7 w.heap.size 28 #[.int .i64 v.kind, .int .i64 v.n] := ho7.blk (V6.alloc _) (by omega)
  have hB7 : Below w.heap.size w w7 := (hB6.alloc (by omega) _).trans (ho7.below (by simp; omega) (fun i _ h => by omega))
  have hg7 := (hg6.keep (Same.alloc _ (.cells #[.int .i64 v.kind, .int .i64 v.n] 28) (fun b hb => by rcases hb with hb | hb <;> omega)) (by simp)).keep (ho7.same (fun b hb => ⟨by simp; rcases hb with hb | hb <;> omega, by rcases hb with hb | hb <;> omega⟩)) (by simp; omega)
  have hh7' : HostAt w7 (fun b => b = w2.heap.size ∨ (w6.heap.size + 1 ≤ b ∧ b < w7.heap.size)) w2.heap.size seed [⟨n, fn, 0, [v], true, answer seed n fn [v]⟩] := by
    simpa using hh7
  have hl7 := (hl6.keep (Same.alloc _ (.cells #[.int .i64 v.kind, .int .i64 v.n] 28) (fun b hb => by
    rcases hb with hb | hb
    · have := hS5 b hb; omega
    · exact (hlt6 b hb).2))).keep (ho7.same (fun b hb => by
      rcases hb with hb | hb
      · have := hS5 b hb
        exact ⟨by simp; omega, by omega⟩
      · have := hown5.blk b hb
        exact ⟨by simp; omega, by omega⟩))
  have P7 : ∀ b, S5 b → Plain w7 b := fun b hb => by
    have h := hS5 b hb
    exact ((h.2.2.same (hb6.block b h.2.1)).same (Below.heap_alloc w6 (.cells #[.int .i64 v.kind, .int .i64 v.n] 28) b (by omega))).same (ho7.block b (by simp; omega) (by omega))
  clear hg6 hh6 V6 hB6 hl6 hh7 ho7 hv0 hv1
  obtain ⟨g8, cap8, cs8, hv8, _, hcell8, hfr8, A8, c8, rfl, hs8, hbd8⟩ := hl7.each.at_ (i := 0) rfl
  obtain ⟨rfl, -, rfl⟩ := Value.slice.inj hv8
  have hc0 := hcell8 0 _ rfl
  have hc3 := hcell8 3 _ rfl
  have hc5 := hcell8 5 _ rfl
  simp only [Nat.zero_mul, Nat.zero_add] at hc0 hc3 hc5
  clear hz2 hz3
  go_wp2_with fail
  have hz2 := SZ2.out
  have hz3 := SZ3.out
  obtain ⟨b9, o9, cs9, hA9, hb9, hlen9, hcell9, rfl, hbd9⟩ := hs8.at_ 0 v rfl
  subst hA9
  have hS9 := hS5 b9 hb9
  have hlt8 := hown5.blk g8 rfl
  have hne9 : g8 ≠ b9 := by
    rintro rfl
    obtain ⟨_, _, _, h⟩ := hl7
    exact h g8 rfl hb9
  have hd1 := hcell9 1 _ rfl
  simp only [Rp.sz, Nat.zero_mul, Nat.add_zero] at hd1
  have hfd : w7.frozen? ⟨b9, o9 + 1, none⟩ = false := (P7 b9 hb9).frozen _
  have hf0 := hfr8 0
  have hf5 := hfr8 5
  have hv1 := V7.cell 1
  simp at hv1
  refine wp_region_E (fun w' => w'.cell? ⟨g8, 3, none⟩ = some (.slice (some ⟨b9, o9, none⟩) 1 c8) ∧ w'.cell? ⟨w.heap.size, 1, none⟩ = some (.int .i64 v.n)) (fun _ => false) (by kernel_rfl) ?_
  have hS0 : w7.drew.cell? ⟨g8, 3, none⟩ = some (.slice (some ⟨b9, o9, none⟩) 1 c8) ∧ w7.drew.cell? ⟨w.heap.size, 1, none⟩ = some (.int .i64 v.n) := ⟨hc3, hv1⟩
  refine wpAnyE_pure (i := 0) (v := ?_) rfl (by kernel_rfl) (by kernel_rfl) (by kernel_rfl) (fun _ _ _ h => h) (Or.inl ⟨by rfl, ?_⟩) ?_
  rotate_left
  · intro _ _; go_simp; with_reducible rfl
  refine wpAnyE_pure (i := 1) (v := ?_) rfl (by kernel_rfl) (by kernel_rfl) (by kernel_rfl) (fun _ _ _ h => h) (Or.inl ⟨by rfl, ?_⟩) ?_
  rotate_left
  · intro _ _; go_simp; with_reducible rfl
  refine wpAnyE_pure (i := 2) (v := ?_) rfl (by kernel_rfl) (by kernel_rfl) (by kernel_rfl) (fun _ _ _ h => h) (Or.inl ⟨by rfl, ?_⟩) ?_
  rotate_left
  · intro _ _; go_simp; with_reducible rfl
  refine wpAnyE_pure (i := 3) (v := ?_) rfl (by kernel_rfl) (by kernel_rfl) (by kernel_rfl) (fun _ _ _ h => h) (Or.inl ⟨by rfl, ?_⟩) ?_
  rotate_left
  · intro _ _; go_simp; with_reducible rfl
  refine wpAnyE_pure (i := 4) (v := ?_) rfl (by kernel_rfl) (by kernel_rfl) (by kernel_rfl) (fun _ _ _ h => h) (Or.inl ⟨by rfl, ?_⟩) ?_
  rotate_left
  · intro _ _; go_simp; with_reducible rfl
  refine wpAnyE_pure (i := 6) (v := ?_) rfl (by kernel_rfl) (by kernel_rfl) (by kernel_rfl) (fun _ _ _ h => h) (Or.inl ⟨by rfl, ?_⟩) ?_
  rotate_left
  · intro _ _; go_simp; with_reducible rfl
  refine wpAnyE_pure (i := 7) (v := ?_) rfl (by kernel_rfl) (by kernel_rfl) (by kernel_rfl) (fun _ _ _ h => h) (Or.inl ⟨by rfl, ?_⟩) ?_
  rotate_left
  · intro _ _; go_simp; with_reducible rfl
  refine wpAnyE_pure (i := 8) (v := ?_) rfl (by kernel_rfl) (by kernel_rfl) (by kernel_rfl) (fun _ _ _ h => h) (Or.inl ⟨by rfl, ?_⟩) ?_
  rotate_left
  · intro _ _; go_simp; with_reducible rfl
  refine wpAnyE_take (i := 5) (v := ?_) rfl (by kernel_rfl) (by kernel_rfl) (by kernel_rfl) (by kernel_rfl) (fun _ _ _ h => h) (Or.inl ⟨by rfl, ?_⟩) hS0 ?_
  rotate_left
  · intro _ hw; go_simp; with_reducible rfl
  refine wpAnyE_take (i := 9) (v := ?_) rfl (by kernel_rfl) (by kernel_rfl) (by kernel_rfl) (by kernel_rfl) (fun _ _ _ h => h) (Or.inl ⟨by rfl, ?_⟩) hS0 ?_
  rotate_left
  · intro _ hw; go_simp; with_reducible rfl
  refine wpAnyE_pure (i := 10) (v := ?_) rfl (by kernel_rfl) (by kernel_rfl) (by kernel_rfl) (fun _ _ _ h => h) (Or.inl ⟨by rfl, ?_⟩) ?_
  rotate_left
  · intro _ _; go_simp; with_reducible rfl
  refine wpAnyE_pure (i := 11) (v := ?_) rfl (by kernel_rfl) (by kernel_rfl) (by kernel_rfl) (fun _ _ _ h => h) (Or.inl ⟨by rfl, ?_⟩) ?_
  rotate_left
  · intro _ _; go_simp; with_reducible rfl
  refine wpAnyE_pure (i := 12) (v := ?_) rfl (by kernel_rfl) (by kernel_rfl) (by kernel_rfl) (fun _ _ _ h => h) (Or.inl ⟨by rfl, ?_⟩) ?_
  rotate_left
  · intro _ _; go_simp; with_reducible rfl
  refine wpAnyE_only (i := 13) (by kernel_rfl) rfl ?_
  go_wp2
  refine wpAnyE_pure (i := 14) (v := ?_) rfl (by kernel_rfl) (by kernel_rfl) (by kernel_rfl) (fun _ _ _ h => h) (Or.inl ⟨by rfl, ?_⟩) ?_
  rotate_left
  · intro _ _; go_simp; with_reducible rfl
  refine wpAnyE_pure (i := 15) (v := ?_) rfl (by kernel_rfl) (by kernel_rfl) (by kernel_rfl) (fun _ _ _ h => h) (Or.inl ⟨by rfl, ?_⟩) ?_
  rotate_left
  · intro _ _; go_simp; with_reducible rfl
  refine wpAnyE_only (i := 16) (by kernel_rfl) rfl ?_
  go_wp2
  refine wpAnyE_pure (i := 17) (v := ?_) rfl (by kernel_rfl) (by kernel_rfl) (by kernel_rfl) (fun _ _ _ h => h) (Or.inl ⟨by rfl, ?_⟩) ?_
  rotate_left
  · intro _ _; go_simp; with_reducible rfl
  refine wpAnyE_pure (i := 18) (v := ?_) rfl (by kernel_rfl) (by kernel_rfl) (by kernel_rfl) (fun _ _ _ h => h) (Or.inl ⟨by rfl, ?_⟩) ?_
  rotate_left
  · intro _ _; go_simp; with_reducible rfl
  refine wpAnyE_only (i := 19) (by kernel_rfl) rfl ?_
  go_wp2
  refine wpAnyE_done (by kernel_rfl) ?_ _
  have hsame : ∀ S : Nat → Prop, ¬ S g8 → ¬ S b9 → Same S w7 (((w7.setCell { block := g8, off := 0 } (Value.int IntKind.i64 (-1))).setCell { block := g8, off := 5 } (Value.int IntKind.i64 (wrap64 (answer seed n fn [v] + 1)))).setCell { block := b9, off := o9 + 1 } (Value.int IntKind.i64 (wrap64 (v.n + 1)))).drew :=
    fun S h1 h2 => (((Same.setCell w7 _ _ h1).trans (Same.setCell _ _ _ h1)).trans (Same.setCell _ _ _ h2)).trans (Same.drew _)
  have hszs : (((w7.setCell { block := g8, off := 0 } (Value.int IntKind.i64 (-1))).setCell { block := g8, off := 5 } (Value.int IntKind.i64 (wrap64 (answer seed n fn [v] + 1)))).setCell { block := b9, off := o9 + 1 } (Value.int IntKind.i64 (wrap64 (v.n + 1)))).drew.heap.size = w7.heap.size := by simp [World.setCell, World.drew]
  have hg8 := hg7.keep (hsame _ (by omega) (by omega)) (Nat.le_of_eq hszs.symm)
  have hh8 := hh7'.keep (hsame _ (by omega) (by omega)) (Nat.le_of_eq hszs.symm)
  have V8 : Blk _ w.heap.size 28 #[.int .i64 v.kind, .int .i64 v.n] := (hsame (fun b => b = w.heap.size) (by omega) (by omega) w.heap.size rfl).trans V7
  have hB8 : Below w.heap.size w7 _ := ((((Below.refl _ w7).setCell (p := ⟨g8, 0, none⟩) (by simp; omega) (Value.int IntKind.i64 (-1))).setCell (p := ⟨g8, 5, none⟩) (by simp; omega) (Value.int IntKind.i64 (wrap64 (answer seed n fn [v] + 1)))).setCell (p := ⟨b9, o9 + 1, none⟩) (by simp; omega) (Value.int IntKind.i64 (wrap64 (v.n + 1)))).drew
  have HSZ := Lib.hid hszs
  have HSA := Lib.hid hsame
  clear hszs hsame hc0 hc3 hc5 hd1 hf0 hf5 hfd hv1 hS0 hz2 hz3
  go_wp2_with fail
  have hz2 := SZ2.out
  have hz3 := SZ3.out
  refine (hostDone _ _ _ _ _ hg8 ?_ ?_ ?_).mono ?_
  · intro b hb; rw [HSZ.out]; omega
  · simp
  · simp
  rintro e w9 ⟨A9, c9, S9, rfl, hown9, hS9', hb9⟩
  have hsz := HSZ.out
  rw [hsz] at hb9
  have hz9 := hb9.size
  rw [hsz] at hz9
  have V9 := V8.below hb9 (by omega)
  have hh9 := hh8.keep (Same.of_below hb9 (fun b hb => by omega)) hb9.size
  have hB9 : Below w.heap.size w w9 := (hB7.trans hB8).trans (hb9.mono (by omega))
  obtain ⟨g10, cap10, cs10, hv10, _, hcell10, _, A10, c10, rfl, hs10, hbd10⟩ := hown9.each.at_ (i := 0) rfl
  obtain ⟨rfl, -, rfl⟩ := Value.slice.inj hv10
  obtain ⟨b11, o11, cs11, hA11, hb11, hlen11, hcell11, rfl, hbd11⟩ := hs10.at_ 0 v rfl
  subst hA11
  have hc0 := hcell10 0 _ rfl
  have hc3 := hcell10 3 _ rfl
  have hc5 := hcell10 5 _ rfl
  have hd1 := hcell11 1 _ rfl
  have hv1 := V9.cell 1
  simp only [Nat.zero_mul, Nat.zero_add, Rp.sz, Nat.add_zero] at hc0 hc3 hc5 hd1
  simp at hv1
  clear hcell10 hcell11 hsz hg8 hh8 V8 hB8 hcell8 hcell9 hfr8 hg7 hh7' hl7 V7 hB7 hz2 hz3
  go_wp2_with fail
  have SZ9 := Lib.hid hz9
  clear hz9
  go_still_tail 41, (by kernel_rfl)
  go_wp2_with fail
  have hz2 := SZ2.out
  have hz3 := SZ3.out
  have hz9 := SZ9.out
  have hh9' : HostAt w9 (fun b => b = w2.heap.size ∨ (w6.heap.size + 1 ≤ b ∧ b < w7.heap.size)) (w1.heap.size + 1) seed [⟨n, fn, 0, [v], true, answer seed n fn [v]⟩] := by
    rw [← hz2]
    exact hh9
  refine (hostDone _ _ _ _ _ (hh9'.keep (Same.drew _) (Nat.le_refl _)) ?_ ?_ ?_).mono ?_
  · intro b hb; show b < w9.heap.size; omega
  · simp
  · simp
  rintro e w12 ⟨A12, c12, S12, rfl, hown12, hS12, hb12⟩
  go_wp2
  go_ret
  exact ⟨rfl, hB9.drew.trans (hb12.mono (by show w.heap.size ≤ w9.heap.size; omega))⟩

end Go.Proofs.Ytlbgnakpcjibjaa
