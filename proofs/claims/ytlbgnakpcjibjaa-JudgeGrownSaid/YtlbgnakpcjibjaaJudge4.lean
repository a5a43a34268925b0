/-
  Once: the first call of each number.
-/
import Derived.Test.YtlbgnakpcjibjaaJudge3
namespace Go.Proofs.Ytlbgnakpcjibjaa
open Go.RowKit Go.ChangeShapes Go.WideShapes Go.ChangeAt Go.Deep

theorem Sl.take {α : Type} [Rp α] {w : World} {S : Nat → Prop} {A : Option Addr} {n cap : Nat} {xs : List α} (h : Sl w S A n cap xs) (k : Nat) (hk : k ≤ n) : Sl w S A k cap (xs.take k) :=
  ⟨by rw [List.length_take, h.len]; omega, Nat.le_trans hk h.le, h.max, h.nil, fun i x hx => h.at_ i x (by rw [List.getElem?_take] at hx; split at hx <;> simp_all)⟩

/-- Once's list behind k rounds -/
def onceT (l : List Call) : Nat → List Call
  | 0 => []
  | k + 1 => onceT l k ++ (match l[k]? with | some c => if (l.take k).any (fun x => x.n == c.n) then [] else [c] | none => [])
def once (l : List Call) : List Call := onceT l l.length
theorem onceT_len (l : List Call) (k : Nat) : (onceT l k).length ≤ k := by
  induction k with
  | zero => exact Nat.le_refl _
  | succ k ih =>
    unfold onceT
    rw [List.length_append]
    split
    · split <;> simp <;> omega
    · simp; omega
theorem onceT_old (l : List Call) (k : Nat) (c : Call) (hc : l[k]? = some c) (h : (l.take k).any (fun x => x.n == c.n) = true) : onceT l (k + 1) = onceT l k := by
  simp only [onceT, hc, h, if_true, List.append_nil]
theorem onceT_new (l : List Call) (k : Nat) (c : Call) (hc : l[k]? = some c) (h : (l.take k).any (fun x => x.n == c.n) = false) : onceT l (k + 1) = onceT l k ++ [c] := by
  simp [onceT, hc, h]

set_option maxHeartbeats 1000000 in
theorem judgeOnce (A : Option Addr) (m cap : Nat) (l : List Call) (S : Nat → Prop) (w : World) (hl : Sl w S A m cap l) (hS : ∀ b, S b → b < w.heap.size) (hm1 : m ≤ 1000) :
    Calls Try.prog 19 #[.slice A m cap] w fun e w' => ∃ A' c', e = .returned (.slice A' (once l).length c') ∧ Own w' w.heap.size 34 (.slice A' (once l).length c') S (once l) ∧ Below w.heap.size w w' := by
  obtain ⟨i0, hi0, hz0, hz1, hz2⟩ := info_parts infoCall
  have hm := hl.max
  have hle := hl.le
  unfold maxLen at hm
  go_enter Try.func19, Try.ntmps19
  go_wp2
  go_loopw [3, 8] (fun v i wr => ∃ k : Nat, k ≤ m ∧ i = .int .i64 k ∧ (∃ A' n' c', v = .slice A' n' c' ∧ n' = (onceT l k).length ∧ Own wr w.heap.size 34 (.slice A' n' c') S (onceT l k)) ∧ Below w.heap.size w wr) (fun _ i _ => m - (intOf i).toNat)
  case atStart => exact ⟨0, Nat.zero_le _, rfl, ⟨none, 0, 0, rfl, rfl, Own.nil_ _ _ _ _⟩, Below.refl _ _⟩
  case round =>
    obtain ⟨k, hk, rfl, ⟨A', n', c', rfl, hn', hown⟩, hw⟩ := hrel
    by_cases hlt : k < m
    · have hkl : k < l.length := by rw [hl.len]; exact hlt
      have hlr := hl.keep (Same.of_below hw hS)
      obtain ⟨g, off, cs, rfl, hSb, hlen, hc, hr⟩ := hlr.at_ k l[k] (List.getElem?_eq_getElem hkl)
      have htk := hlr.take k hk
      obtain ⟨x, hx⟩ : ∃ x, x = l[k] := ⟨_, rfl⟩
      rw [← hx] at hr
      have HX := Lib.hid (show l[k]? = some x by rw [hx]; exact List.getElem?_eq_getElem hkl)
      have hr' := hr
      obtain ⟨A1, c1, rfl, hy, hy1, hy2, hy3, hy4⟩ := hr
      have hc0 := hc 0 _ rfl
      have hc1 := hc 1 _ rfl
      have hc2 := hc 2 _ rfl
      have hc3 := hc 3 _ rfl
      have hc4 := hc 4 _ rfl
      have hc5 := hc 5 _ rfl
      clear hc
      simp only [Rp.sz, Nat.add_zero] at hc0 hc1 hc2 hc3 hc4 hc5
      have hz := hw.size
      have hS' : ∀ b, S b → b < wr.heap.size := fun b h => Nat.lt_of_lt_of_le (hS b h) hz
      have HZ := Lib.hid hz
      have HN := Lib.hid hn'
      have HL := Lib.hid hl.len
      clear hz hx hn'
      have hsz := hw.size
      by_cases hp : (l.take k).any (fun y => y.n == x.n) = true
      · go_wp2_with fail
        refine (once1Contains wr.heap.size x _ _ _ _ _ _ S _ (htk.alloc hS' _) (fun b h => by have := hS' b h; simp; omega) (Blk.new _ _ _) (Rp.keep (Same.alloc _ _ hS') hr') (fun b h => by have := hS' b h; simp; omega)).mono ?_
        rintro e w1 ⟨rfl, hw1⟩
        rw [hp]
        go_wp2
        go_roundw
        case rel =>
          have hb2 : Below w.heap.size w w1 := (hw.alloc HZ.out _).trans (hw1.mono (by simp; omega))
          refine ⟨k + 1, by omega, by go_num, ⟨A', n', c', rfl, by rw [onceT_old l k x HX.out hp]; exact HN.out, ?_⟩, hb2⟩
          rw [onceT_old l k x HX.out hp]
          have hob := hown.blk
          exact (hown.keep (Same.alloc _ _ fun b h => h.elim (hS' b) (fun h => (hob b h).2))).keep (Same.of_below hw1 fun b h => by
            have : b < wr.heap.size := h.elim (hS' b) (fun h => (hob b h).2)
            simp; omega)
        case measure => simp [intOf]; omega
      · simp only [Bool.not_eq_true] at hp
        go_wp2_with fail
        refine (once1Contains wr.heap.size x _ _ _ _ _ _ S _ (htk.alloc hS' _) (fun b h => by have := hS' b h; simp; omega) (Blk.new _ _ _) (Rp.keep (Same.alloc _ _ hS') hr') (fun b h => by have := hS' b h; simp; omega)).mono ?_
        rintro e w1 ⟨rfl, hw1⟩
        rw [hp]
        have hB := (Blk.new wr 34 #[Value.int IntKind.i64 x.n, Value.int IntKind.i64 x.fn, Value.int IntKind.i64 x.at_, Value.slice A1 x.args.length c1, Value.bool x.has, Value.int IntKind.i64 x.ans]).below hw1 (by simp)
        have hd0 := hB.cell 0
        have hd1 := hB.cell 1
        have hd2 := hB.cell 2
        have hd3 := hB.cell 3
        have hd4 := hB.cell 4
        have hd5 := hB.cell 5
        simp at hd0 hd1 hd2 hd3 hd4 hd5
        have hob := hown.blk
        have hsz1 : wr.heap.size + 1 ≤ w1.heap.size := by simpa using hw1.size
        have hown1 := (hown.keep (Same.alloc _ _ fun b h => h.elim (hS' b) (fun h => (hob b h).2))).keep (Same.of_below hw1 fun b h => by
            have : b < wr.heap.size := h.elim (hS' b) (fun h => (hob b h).2)
            simp; omega)
        have hr1 := Rp.keep (Same.of_below hw1 fun b h => by have := hS' b h; simp; omega) (Rp.keep (Same.alloc wr (.cells #[Value.int IntKind.i64 x.n, Value.int IntKind.i64 x.fn, Value.int IntKind.i64 x.at_, Value.slice A1 x.args.length c1, Value.bool x.has, Value.int IntKind.i64 x.ans] 34) hS') hr')
        have hS1 : ∀ b, S b → b < w1.heap.size := fun b h => by have := hS' b h; omega
        have hb1 : Below w.heap.size w w1 := (hw.alloc HZ.out _).trans (hw1.mono (by simp; omega))
        have hot := onceT_len l k
        have HSZ := Lib.hid hsz1
        have HS0 := Lib.hid hsz
        clear hsz1 hsz
        go_wp2_with (at_builtin; refine wpList_append_push (α := Call) _ rfl (.tmp 19) (.tmp 21) _ rfl 34 i0 _ 64 Try.underlying31 hi0 hz0 hz1 hz2 rfl (by decide) (S := S) (T := S) (base := w.heap.size) rfl (hown1.keep (Same.alloc _ _ fun b h => h.elim (hS1 b) (fun h => Nat.lt_trans (hob b h).2 (Nat.lt_of_lt_of_le (Nat.lt_succ_self _) HSZ.out)))) rfl (cells_new w1 _ _) (Rp.keep (Same.alloc _ _ hS1) hr1) ?_ ?_ ?_ ?_ ?_ _ rfl ?_)
        case refine_1 => unfold maxLen; omega
        case refine_2 => omega
        case refine_3 => have := HSZ.out; have := HS0.out; simp; omega
        case refine_4 => intro b h; have := hS1 b h; simp; omega
        case refine_5 =>
          intro b h
          refine ⟨by have := hS1 b h; simp; omega, fun h' => ?_⟩
          have := hS b h
          have := (hob b h').1
          omega
        intro A2 c2 w2 hown2 hg2 hbl2
        have hb2 : Below w.heap.size w w2 := (hb1.alloc (Nat.le_trans HS0.out (by have := HSZ.out; omega)) _).grown hg2 (by have := HSZ.out; have := HS0.out; simp; omega) (fun g hg => (hob g hg).1)
        go_wp2
        go_roundw
        case rel => exact ⟨k + 1, by omega, by go_num, ⟨A2, _, c2, rfl, by rw [onceT_new l k x HX.out hp, List.length_append]; rfl, by rw [onceT_new l k x HX.out hp]; exact hown2⟩, hb2⟩
        case measure => simp [intOf]; omega
    · obtain rfl : k = m := by omega
      go_wp2
      go_ret
      have E : onceT l k = once l := by unfold once; rw [hl.len]
      rw [← E]
      subst hn'
      exact ⟨_, _, rfl, hown, hw⟩

end Go.Proofs.Ytlbgnakpcjibjaa
