/-
  JudgeLaws, walked: it returns true and leaves all that was there as it was.
-/
import Derived.Test.YtlbgnakpcjibjaaJudge7
import Derived.Test.YtlbgnakpcjibjaaJudgePlain
namespace Go.Proofs.Ytlbgnakpcjibjaa
open Go.RowKit Go.ChangeShapes Go.WideShapes Go.ChangeAt Go.Deep

theorem cutL_len (l : List Call) : (cutL l).length ≤ 15 := by unfold cutL; rw [List.length_take]; omega
theorem once_len (l : List Call) : (once l).length ≤ l.length := onceT_len l l.length

/-- A reading in all that lies there. -/
abbrev All (w : World) (A : Option Addr) (n c : Nat) (l : List Call) : Prop := Sl w (fun b => b < w.heap.size) A n c l
theorem allB {w w' : World} {A : Option Addr} {n c : Nat} {l : List Call} (h : All w A n c l) (hb : Below w.heap.size w w') : All w' A n c l :=
  (h.keep (Same.of_below hb fun _ h => h)).mono fun _ h => Nat.lt_of_lt_of_le h hb.size
theorem All.own {w : World} {B : Nat} {e : TypeId} {A : Option Addr} {n c : Nat} {S : Nat → Prop} {l : List Call} (h : Own w B e (.slice A n c) S l) (hS : ∀ b, S b → b < w.heap.size) : All w A n c l := by
  obtain ⟨A', c', hv, hs⟩ := h.sl
  obtain ⟨rfl, rfl, rfl⟩ := Value.slice.inj hv
  exact hs.mono fun b hb => hb.elim (hS b) (fun hb => (h.blk b hb).2)

theorem judgeOnceA (A : Option Addr) (m cap : Nat) (l : List Call) (w : World) (hl : All w A m cap l) (hm1 : m ≤ 1000) :
    Calls Try.prog 19 #[.slice A m cap] w fun e w' => ∃ A' c', e = .returned (.slice A' (once l).length c') ∧ All w' A' (once l).length c' (once l) ∧ Below w.heap.size w w' :=
  (judgeOnce A m cap l _ w hl (fun _ h => h) hm1).mono fun _ _ ⟨A', c', he, ho, hb⟩ => ⟨A', c', he, All.own ho fun _ h => Nat.lt_of_lt_of_le h hb.size, hb⟩

set_option maxHeartbeats 2000000 in
theorem judgeLaws (A : Option Addr) (n c : Nat) (l0 : List Call) (w : World) (hl0 : All w A n c l0) :
    Calls Try.prog 7 #[.slice A n c] w fun e w' => e = .returned (.bool true) ∧ Below w.heap.size w w' := by
  go_enter Try.func7, Try.ntmps7
  go_wp2_with fail
  refine (judgeBegun _).mono ?_
  rintro e w1 ⟨rfl, hb1⟩
  go_wp2_with fail
  refine (cut _ _ _ l0 _ (allB hl0 hb1)).mono ?_
  rintro e w2 ⟨A2, c2, rfl, hl2, hb2⟩
  have hB2 := hb1.trans (hb2.mono hb1.size)
  have hll := cutL_len l0
  clear hl0 hb1 hb2
  obtain ⟨l, hle⟩ : ∃ l, l = cutL l0 := ⟨_, rfl⟩
  rw [← hle] at hl2 hll ⊢
  clear hle
  obtain ⟨m, hm⟩ : ∃ m, m = l.length := ⟨_, rfl⟩
  rw [← hm] at hl2 hll ⊢
  have hol := once_len l
  rw [← hm] at hol
  clear hm
  go_wp2_with fail
  refine (judgeOnceA _ _ _ _ _ hl2 (by omega)).mono ?_
  rintro e w3 ⟨A3, c3, rfl, hl3, hb3⟩
  have hB3 := hB2.trans (hb3.mono hB2.size)
  have hl23 := allB hl2 hb3
  clear hl2 hb3 hB2
  have hoo := once_once l
  obtain ⟨o, ho⟩ : ∃ o, o = once l := ⟨_, rfl⟩
  rw [← ho] at hl3 hol hoo ⊢
  obtain ⟨q, hq⟩ : ∃ q, q = o.length := ⟨_, rfl⟩
  rw [← hq] at hl3 hol ⊢
  have HOO := Lib.hid hoo
  have HO := Lib.hid ho
  have HQ := Lib.hid hq
  clear hoo ho hq
  go_wp2_with fail
  refine (judgeOnceA _ _ _ _ _ hl3 (by omega)).mono ?_
  rintro e w4 ⟨A4, c4, rfl, hl4, hb4⟩
  rw [HOO.out, ← HQ.out] at hl4
  rw [HOO.out, ← HQ.out]
  have hB4 := hB3.trans (hb4.mono hB3.size)
  have hl34 := allB hl3 hb4
  have hl24 := allB hl23 hb4
  clear hl3 hl23 hb4 hB3
  go_wp2_with fail
  refine (judgeSameL _ _ _ _ _ _ o o _ _ _ hl4 hl34 (fun _ h => h) (fun _ h => h)).mono ?_
  rintro e w5 ⟨rfl, hb5⟩
  rw [sameB_refl]
  have hB5 := hB4.trans (hb5.mono hB4.size)
  have hl35 := allB hl34 hb5
  have hl25 := allB hl24 hb5
  clear hl4 hl34 hl24 hb5 hB4
  go_wp2_with fail
  refine (judgeAgain _ _ _ o _ _ hl35 (fun _ h => h) (by omega)).mono ?_
  rintro e w6 ⟨rfl, hb6⟩
  rw [show again o = 0 by rw [HO.out]; exact again_once l]
  have hB6 := hB5.trans (hb6.mono hB5.size)
  have hl36 := allB hl35 hb6
  have hl26 := allB hl25 hb6
  clear hl35 hl25 hb6 hB5
  go_wp2_with fail
  refine (judgeTwins _ _ _ o _ _ hl36 (fun _ h => h)).mono ?_
  rintro e w7 ⟨rfl, hb7⟩
  rw [show twins o = true by rw [HO.out]; exact twins_of_dist (onceT_dist l _)]
  have hB7 := hB6.trans (hb7.mono hB6.size)
  have hl37 := allB hl36 hb7
  have hl27 := allB hl26 hb7
  clear hl36 hl26 hb7 hB6
  go_wp2_with fail
  refine (judgeGapless _ _ _ o _ _ hl37 (fun _ h => h) (by omega)).mono ?_
  rintro e w8 ⟨rfl, hb8⟩
  rw [show gapless o = gapless l by rw [HO.out]; exact gapless_once l]
  have hB8 := hB7.trans (hb8.mono hB7.size)
  have hl38 := allB hl37 hb8
  have hl28 := allB hl27 hb8
  clear hl37 hl27 hb8 hB7
  go_wp2_with fail
  refine (judgeGapless _ _ _ l _ _ hl28 (fun _ h => h) (by omega)).mono ?_
  rintro e w9 ⟨rfl, hb9⟩
  have hB9 := hB8.trans (hb9.mono hB8.size)
  have hl39 := allB hl38 hb9
  have hl29 := allB hl28 hb9
  clear hl38 hl28 hb9 hB8
  obtain ⟨gg, hgg⟩ : ∃ gg, gg = gapless l := ⟨_, rfl⟩
  rw [← hgg]
  have HG := Lib.hid hgg
  clear hgg
  have hgx : (gg != gg) = false := by simp
  go_wp2_with fail
  refine (judgeGapless _ _ _ l _ _ hl29 (fun _ h => h) (by omega)).mono ?_
  rintro e w10 ⟨rfl, hb10⟩
  have hB10 := hB9.trans (hb10.mono hB9.size)
  have hl310 := allB hl39 hb10
  rw [← HG.out]
  cases gg with
  | false =>
    go_wp2
    go_ret
    exact ⟨rfl, hB10⟩
  | true =>
    rcases q with _ | q
    · go_wp2
      go_ret
      exact ⟨rfl, hB10⟩
    · have hqo : q < o.length := by have := HQ.out; omega
      obtain ⟨b, off, cs, rfl, -, -, hc, hr⟩ := hl310.at_ q o[q] (List.getElem?_eq_getElem hqo)
      have hn := gapless_last l HG.out.symm q o[q] (by rw [← HO.out]; exact List.getElem?_eq_getElem hqo)
      obtain ⟨x, hx⟩ : ∃ x, x = o[q] := ⟨_, rfl⟩
      rw [← hx] at hr hn
      obtain ⟨A9, c9, rfl, hy, hy1, hy2, hy3, hy4⟩ := hr
      have hc0 := hc 0 _ rfl
      have hc1 := hc 1 _ rfl
      have hc2 := hc 2 _ rfl
      have hc3 := hc 3 _ rfl
      have hc4 := hc 4 _ rfl
      have hc5 := hc 5 _ rfl
      clear hc
      simp only [Rp.sz, Nat.add_zero] at hc0 hc1 hc2 hc3 hc4 hc5
      rw [hn] at hc0
      clear hx
      go_wp2
      go_ret
      exact ⟨ret_bool (by simp), hB10⟩

end Go.Proofs.Ytlbgnakpcjibjaa
