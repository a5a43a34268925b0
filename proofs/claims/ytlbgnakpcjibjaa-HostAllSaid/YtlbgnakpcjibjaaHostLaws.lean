/-
  The statements on the package host, walked: each law returns true and leaves all that was there as it was.
-/
import Derived.Test.YtlbgnakpcjibjaaHost
namespace Go.Proofs.Ytlbgnakpcjibjaa
open Go.RowKit Go.ChangeShapes Go.WideShapes Go.ChangeAt Go.Deep

abbrev v13 : Val := ⟨1, 3⟩
theorem sl13 (w : World) {b : Nat} (hb : w.heap.size = b) : Sl (w.alloc (.cells #[.int .i64 1, .int .i64 3] 28)) (fun x => x = b) (some ⟨b, 0, none⟩) 1 1 [v13] :=
  Sl.newF (css := [[.int .i64 1, .int .i64 3]]) (xs := [v13]) w _ (Cells.single (show Rp.rep (α := Val) w _ _ _ from ⟨rfl, by dsimp only; omega, by dsimp only; omega⟩)) (by simp [maxLen]) hb

set_option maxHeartbeats 1000000 in
theorem hostBegun (w : World) : Calls Try.prog 9 #[] w fun e w' => e = .returned (.bool true) ∧ Below w.heap.size w w' := by
  go_enter Try.func9, Try.ntmps9
  go_wp2_with fail
  refine (hostNew _ _).mono ?_
  rintro e w1 ⟨rfl, rfl⟩
  go_wp2_with fail
  refine (hostCall w.heap.size 5 1 2 [] (fun b => b = w.heap.size) _ _ _ _ [v13] _ ((HostAt.new_ w 5).keep (Same.alloc _ _ ?_) ?_) (sl13 _ ?_) ?_ ?_ ?_ ?_ ?_ ?_).mono ?_
  · intro b hb; subst hb; simp
  · simp
  · simp
  · intro b hb; subst hb; simp
  · omega
  · simp
  · unfold Bd; omega
  · unfold Bd; omega
  · intro b hb; subst hb; simp; omega
  rintro e w2 ⟨rfl, hh2, ho2⟩
  go_wp2_with fail
  have hz2 := ho2.size
  simp only [World.size_alloc] at hz2
  refine (hostDone _ _ [⟨1, 2, 0, [v13], true, answer 5 1 2 [v13]⟩] _ _ hh2 ?_ ?_ ?_).mono ?_
  · rintro b (hb | hb)
    · subst hb; omega
    · exact hb.2
  · simp
  · simp
  rintro e w3 ⟨A3, c3, S3, rfl, hown3, hS3, hb3⟩
  obtain ⟨g4, cap4, cs4, hv4, _, hcell4, _, A5, c5, rfl, hs5, hbd5⟩ := hown3.each.at_ (i := 0) rfl
  obtain ⟨rfl, -, rfl⟩ := Value.slice.inj hv4
  have hg4 := hown3.blk g4 rfl
  go_wp2_with fail
  refine (refAnswer _ _ _ _ _ _ [v13] _ _ (sl13 _ rfl)).mono ?_
  rintro e w4 ⟨rfl, rfl⟩
  go_wp2_with fail
  refine (hostAnswer _ _ _ _ _ _ [v13] _ _ (sl13 _ (by simp)) ?_).mono ?_
  · intro b hb; subst hb; simp
  rintro e w5 ⟨rfl, hb5⟩
  have hk : ∀ j u, [Value.int .i64 1, .int .i64 2, .int .i64 0, .slice A5 1 c5, .bool true, .int .i64 (answer 5 1 2 [v13])][j]? = some u → w5.cell? ⟨g4, j, none⟩ = some u := by
    intro j u hu
    have := hcell4 j u hu
    rw [Nat.zero_mul, Nat.zero_add] at this
    rw [hb5.cell (p := ⟨g4, j, none⟩) (by simp; omega), World.cell?_alloc_lt _ _ _ (by simp; omega), World.cell?_alloc_lt _ _ _ (by simp; omega)]
    exact this
  have hk0 := hk 0 _ rfl
  have hk1 := hk 1 _ rfl
  have hk3 := hk 3 _ rfl
  have hk4 := hk 4 _ rfl
  have hk5 := hk 5 _ rfl
  clear hk hcell4
  go_wp2
  go_ret
  refine ⟨rfl, ?_⟩
  have hz3 := hb3.size
  have h1 : Below w.heap.size w w2 := (((Below.refl _ w).alloc (Nat.le_refl _) _).alloc (by simp) _).trans (ho2.below (by simp; omega) (fun i _ h => by omega))
  exact (((h1.trans (hb3.mono (by omega))).alloc (by omega) _).alloc (by simp; omega) _).trans (hb5.mono (by simp; omega))

theorem mulAdd_in (x v : Int) (_h1 : -9223372036854775808 ≤ x * 1000003 ∧ x * 1000003 ≤ 9223372036854775807) (h2 : -9223372036854775808 ≤ x * 1000003 + v ∧ x * 1000003 + v ≤ 9223372036854775807) : mulAdd x v = x * 1000003 + v := by
  unfold mulAdd wrap64
  omega
theorem step_law (seed n fn k : Int) (h0 : 0 ≤ seed ∧ seed ≤ 1000 ∧ 0 ≤ n ∧ n ≤ 1000 ∧ 0 ≤ fn ∧ fn ≤ 15 ∧ 1 ≤ k ∧ k ≤ 100) :
    answer seed n fn [] = ((seed * 1000003 + n) * 1000003 + fn) / 1024 ∧ answer seed n fn [] < answer (seed + k) n fn [] := by
  have e1 : mulAdd seed n = seed * 1000003 + n := mulAdd_in _ _ (by omega) (by omega)
  have e2 : mulAdd (seed + k) n = (seed + k) * 1000003 + n := mulAdd_in _ _ (by omega) (by omega)
  have e3 : mulAdd (seed * 1000003 + n) fn = (seed * 1000003 + n) * 1000003 + fn := mulAdd_in _ _ (by omega) (by omega)
  have e4 : mulAdd ((seed + k) * 1000003 + n) fn = ((seed + k) * 1000003 + n) * 1000003 + fn := mulAdd_in _ _ (by omega) (by omega)
  unfold answer ansX
  simp only [List.foldl_nil]
  rw [e1, e2, e3, e4]
  omega

set_option maxHeartbeats 1000000 in
theorem hostStep (seed n fn k : Int) (hb : Bd seed ∧ Bd n ∧ Bd fn ∧ Bd k) (w : World) : Calls Try.prog 4 #[.int .i64 seed, .int .i64 n, .int .i64 fn, .int .i64 k] w fun e w' => e = .returned (.bool true) ∧ Below w.heap.size w w' := by
  unfold Bd at hb
  by_cases c0 : seed < 0
  · go_enter Try.func4, Try.ntmps4
    go_wp2_with fail
    refine (hostBegun _).mono ?_
    rintro e w1 ⟨rfl, hb1⟩
    go_wp2
    go_ret
    exact ⟨rfl, hb1⟩
  by_cases c1 : 1000 < seed
  · go_enter Try.func4, Try.ntmps4
    go_wp2_with fail
    refine (hostBegun _).mono ?_
    rintro e w1 ⟨rfl, hb1⟩
    go_wp2
    go_ret
    exact ⟨rfl, hb1⟩
  by_cases c2 : n < 0
  · go_enter Try.func4, Try.ntmps4
    go_wp2_with fail
    refine (hostBegun _).mono ?_
    rintro e w1 ⟨rfl, hb1⟩
    go_wp2
    go_ret
    exact ⟨rfl, hb1⟩
  by_cases c3 : 1000 < n
  · go_enter Try.func4, Try.ntmps4
    go_wp2_with fail
    refine (hostBegun _).mono ?_
    rintro e w1 ⟨rfl, hb1⟩
    go_wp2
    go_ret
    exact ⟨rfl, hb1⟩
  by_cases c4 : fn < 0
  · go_enter Try.func4, Try.ntmps4
    go_wp2_with fail
    refine (hostBegun _).mono ?_
    rintro e w1 ⟨rfl, hb1⟩
    go_wp2
    go_ret
    exact ⟨rfl, hb1⟩
  by_cases c5 : 15 < fn
  · go_enter Try.func4, Try.ntmps4
    go_wp2_with fail
    refine (hostBegun _).mono ?_
    rintro e w1 ⟨rfl, hb1⟩
    go_wp2
    go_ret
    exact ⟨rfl, hb1⟩
  by_cases c6 : k < 1
  · go_enter Try.func4, Try.ntmps4
    go_wp2_with fail
    refine (hostBegun _).mono ?_
    rintro e w1 ⟨rfl, hb1⟩
    go_wp2
    go_ret
    exact ⟨rfl, hb1⟩
  by_cases c7 : 100 < k
  · go_enter Try.func4, Try.ntmps4
    go_wp2_with fail
    refine (hostBegun _).mono ?_
    rintro e w1 ⟨rfl, hb1⟩
    go_wp2
    go_ret
    exact ⟨rfl, hb1⟩
  obtain ⟨e1, e2⟩ := step_law seed n fn k (by omega)
  have E1 := Lib.hid e1
  clear e1
  go_enter Try.func4, Try.ntmps4
  go_wp2_with fail
  refine (hostBegun _).mono ?_
  rintro e w1 ⟨rfl, hb1⟩
  go_wp2_with fail
  refine (hostAnswer _ _ _ _ _ _ [] (fun _ => False) _ (Sl.nil_ _ _) (fun _ h => h.elim)).mono ?_
  rintro e w2 ⟨rfl, hb2⟩
  go_wp2_with fail
  refine (hostAnswer _ _ _ _ _ _ [] (fun _ => False) _ (Sl.nil_ _ _) (fun _ h => h.elim)).mono ?_
  rintro e w3 ⟨rfl, hb3⟩
  go_wp2_with fail
  refine (hostAnswer _ _ _ _ _ _ [] (fun _ => False) _ (Sl.empty _ _ _) (fun _ h => h.elim)).mono ?_
  rintro e w4 ⟨rfl, hb4⟩
  go_wp2
  go_ret
  have hz1 := hb1.size
  have hz2 := hb2.size
  have hz3 := hb3.size
  exact ⟨rfl, ((((hb1.trans (hb2.mono hz1)).trans (hb3.mono (by omega))).alloc (by omega) _).trans (hb4.mono (by simp; omega)))⟩

end Go.Proofs.Ytlbgnakpcjibjaa
