/-
  cut.
-/
import Derived.Test.YtlbgnakpcjibjaaJudge6
namespace Go.Proofs.Ytlbgnakpcjibjaa
open Go.RowKit Go.ChangeShapes Go.WideShapes Go.ChangeAt Go.Deep

def cutC (c : Call) : Call := { c with args := c.args.take 3 }
def cutL (l : List Call) : List Call := (l.map cutC).take 15
theorem cut_step (l : List Call) (k : Nat) (x : Call) (h : l[k]? = some x) : (l.map cutC).take (k + 1) = (l.map cutC).take k ++ [cutC x] := by
  obtain ⟨hk, hx⟩ := List.getElem?_eq_some_iff.1 h
  rw [List.take_succ_eq_append_getElem (by simpa using hk), List.getElem_map, hx]

theorem cells_new2 (w : World) (o : Obj) (cs : List Value) (e : TypeId) : ∀ (j : Nat) (u : Value), cs[j]? = some u → ((w.alloc o).alloc (.cells cs.toArray e)).cell? ⟨w.heap.size + 1, j, none⟩ = some u := by
  rw [← World.size_alloc w o]
  exact cells_new _ _ _

set_option maxHeartbeats 1000000 in
theorem cut (A : Option Addr) (m cap : Nat) (l : List Call) (w : World) (hl : Sl w (fun b => b < w.heap.size) A m cap l) :
    Calls Try.prog 17 #[.slice A m cap] w fun e w' => ∃ A' c', e = .returned (.slice A' (cutL l).length c') ∧ Sl w' (fun b => b < w'.heap.size) A' (cutL l).length c' (cutL l) ∧ Below w.heap.size w w' := by
  obtain ⟨i0, hi0, hz0, hz1, hz2⟩ := info_parts infoCall
  obtain ⟨j0, hj0, jz0, jz1, jz2⟩ := info_parts infoVal
  have hm := hl.max
  have hle := hl.le
  unfold maxLen at hm
  go_enter Try.func17, Try.ntmps17
  go_wp2
  go_loopw [3, 4] (fun v i wr => ∃ k : Nat, k ≤ m ∧ k ≤ 15 ∧ i = .int .i64 k ∧ (∃ A' c' S, v = .slice A' k c' ∧ Own wr w.heap.size 34 (.slice A' k c') S ((l.map cutC).take k) ∧ ∀ b, S b → b < wr.heap.size) ∧ Below w.heap.size w wr) (fun _ i _ => m - (intOf i).toNat)
  case atStart => exact ⟨0, Nat.zero_le _, Nat.zero_le _, rfl, ⟨none, 0, fun _ => False, rfl, Own.nil_ _ _ _ _, fun _ h => h.elim⟩, Below.refl _ _⟩
  case round =>
    obtain ⟨k, hk, hk15, rfl, ⟨A', c', S, rfl, hown, hS⟩, hw⟩ := hrel
    by_cases hlt : k < m ∧ k < 15
    · obtain ⟨hlt, hlt15⟩ := hlt
      have hkl : k < l.length := by rw [hl.len]; exact hlt
      have hlr := hl.keep (Same.of_below hw (fun _ h => h))
      obtain ⟨g, off, cs, rfl, hSb, hlen, hc, hr⟩ := hlr.at_ k l[k] (List.getElem?_eq_getElem hkl)
      obtain ⟨x, hx⟩ : ∃ x, x = l[k] := ⟨_, rfl⟩
      rw [← hx] at hr
      have HX := Lib.hid (show l[k]? = some x by rw [hx]; exact List.getElem?_eq_getElem hkl)
      have hr' := hr
      obtain ⟨A1, c1, rfl, hy, hy1, hy2, hy3, hy4⟩ := hr
      have hc0 := hc 0 _ rfl
      have hc1 := hc 1 _ rfl
      have hc2 := hc 2 _ rfl
      have hc3 := hc 3 _ rfl
      have hc4 := hc 4 _ rfl
      have hc5 := hc 5 _ rfl
      clear hc
      simp only [Rp.sz, Nat.add_zero] at hc0 hc1 hc2 hc3 hc4 hc5
      have HZ := Lib.hid hw.size
      have HL := Lib.hid hl.len
      clear hx
      have hob := hown.blk
      have hd15 : decide ((k : Int) < 15) = true := decide_eq_true (by omega)
      by_cases h3 : 3 < x.args.length
      · have hm1 := hy.max
        have hle1 := hy.le
        unfold maxLen at hm1
        have hS0 : ∀ b, b < w.heap.size → b < wr.heap.size := fun b h => Nat.lt_of_lt_of_le h HZ.out
        obtain ⟨bA, oA, _, rfl, _⟩ := hy.at_ 0 x.args[0] (List.getElem?_eq_getElem (by omega))
        go_wp2_with (at_builtin; refine wpList_append_sl (α := Val) _ rfl (.const (.slice none 0 0)) (.tmp 26) _ rfl 28 j0 _ 16 Try.underlying23 hj0 jz0 jz1 jz2 rfl (by decide) (S := fun _ => False) (base := wr.heap.size) (xs := []) rfl (Own.nil_ _ _ _ _) rfl ((hy.take 3 (by omega)).keep (Same.alloc _ _ hS0)) ?_ ?_ ?_ ?_ ?_ 3 ?_ ?_)
        case refine_1 => simp [maxLen]
        case refine_2 => simp
        case refine_3 => simp
        case refine_4 => intro b h; exact h.elim
        case refine_5 => intro b h; exact ⟨by have := hS0 b h; simp; omega, by simp [Value.ownBlock, Act.eval]⟩
        case refine_6 => simp; omega
        intro A2 c2 w2 hown2 hg2 hbl2
        have hB := (Blk.new wr 34 #[Value.int IntKind.i64 x.n, Value.int IntKind.i64 x.fn, Value.int IntKind.i64 x.at_, Value.slice (some ⟨bA, oA, none⟩) x.args.length c1, Value.bool x.has, Value.int IntKind.i64 x.ans]).grown hg2 (by simp [Value.ownBlock])
        have hd0 := hB.cell 0
        have hd1 := hB.cell 1
        have hd2 := hB.cell 2
        have hd3 := hB.cell 3
        have hd4 := hB.cell 4
        have hd5 := hB.cell 5
        have hf3 := hB.frozen 3
        simp at hd0 hd1 hd2 hd3 hd4 hd5
        have hz2' := hg2.size
        simp only [World.size_alloc] at hz2'
        have HZ2 := Lib.hid hz2'
        clear hz2'
        have hA2 : ∀ b, (Value.slice A2 3 c2).ownBlock = some b → b = wr.heap.size + 1 ∧ b < w2.heap.size := by
          intro b hb
          refine ⟨?_, (hown2.blk b hb).2⟩
          rcases hbl2 with h | h
          · rw [h] at hb; simp [Value.ownBlock] at hb
          · rw [h] at hb; simpa using hb.symm
        have hl3 : (x.args.take 3).length = 3 := by rw [List.length_take]; omega
        obtain ⟨A3, c3, hv3, hs3⟩ := hown2.slF
        rw [hl3] at hv3 hs3
        obtain ⟨rfl, -, rfl⟩ := Value.slice.inj hv3
        clear hv3
        have REP := Lib.hid (show Rp.rep (w2.setCell ⟨wr.heap.size, 3, none⟩ (.slice A2 3 c2)) (fun b => (Value.slice A2 3 c2).ownBlock = some b) [Value.int IntKind.i64 x.n, Value.int IntKind.i64 x.fn, Value.int IntKind.i64 x.at_, Value.slice A2 3 c2, Value.bool x.has, Value.int IntKind.i64 x.ans] (cutC x) from by
          refine ⟨A2, c2, by simp only [cutC, hl3], ?_, hy1, hy2, hy3, hy4⟩
          simp only [cutC, hl3]
          exact hs3.keep (Same.setCell _ _ _ fun h => by have := (hA2 _ h).1; simp at this))
        have OWN := Lib.hid (show Own (w2.setCell ⟨wr.heap.size, 3, none⟩ (.slice A2 3 c2)) w.heap.size 34 (.slice A' k c') S ((l.map cutC).take k) from by
          have hSv : ∀ b, S b ∨ (Value.slice A' k c').ownBlock = some b → b < wr.heap.size := fun b h => h.elim (hS b) (fun h => (hob b h).2)
          refine hown.keep (((Same.alloc _ _ hSv).trans (Same.grown hg2 fun b h => ⟨by have := hSv b h; simp; omega, by simp [Value.ownBlock]⟩)).trans (Same.setCell _ _ _ fun h => ?_))
          have := hSv _ h
          simp at this)
        have hes : (w2.setCell ⟨wr.heap.size, 3, none⟩ (.slice A2 3 c2)).heap.size = w2.heap.size := by simp [World.setCell]
        have CN := Lib.hid (show ∀ j u, [Value.int IntKind.i64 x.n, Value.int IntKind.i64 x.fn, Value.int IntKind.i64 x.at_, Value.slice A2 3 c2, Value.bool x.has, Value.int IntKind.i64 x.ans][j]? = some u → ((w2.setCell ⟨wr.heap.size, 3, none⟩ (.slice A2 3 c2)).alloc (.cells #[Value.int IntKind.i64 x.n, Value.int IntKind.i64 x.fn, Value.int IntKind.i64 x.at_, Value.slice A2 3 c2, Value.bool x.has, Value.int IntKind.i64 x.ans] 34)).cell? ⟨w2.heap.size, j, none⟩ = some u from by
          rw [← hes]
          exact cells_new _ _ _)
        have HES := Lib.hid hes
        clear hes
        have hTk : ((l.map cutC).take k).length = k := by rw [List.length_take, List.length_map]; omega
        go_wp2_with (at_builtin; go_must (refine wpList_append_push (α := Call) _ rfl (.tmp 29) (.tmp 31) _ rfl 34 i0 _ 64 Try.underlying31 hi0 hz0 hz1 hz2 rfl (by decide) (S := S) (T := fun b => (Value.slice A2 3 c2).ownBlock = some b) (base := w.heap.size) (y := cutC x) rfl (OWN.out.keep (Same.alloc _ _ ?_)) rfl CN.out (Rp.keep (Same.alloc _ _ ?_) REP.out) ?_ ?_ ?_ ?_ ?_ (k + 1) ?_ ?_))
        case refine_1 =>
          intro b h
          rw [HES.out]
          have := HZ2.out
          rcases h with h | h
          · have := hS b h; omega
          · have := (hob b h).2; omega
        case refine_2 => intro b h; rw [HES.out]; exact (hA2 b h).2
        case refine_3 => rw [hTk]; unfold maxLen; omega
        case refine_4 => rw [hTk]; omega
        case refine_5 => simp only [World.size_alloc]; rw [HES.out]; have := HZ2.out; have := HZ.out; omega
        case refine_6 => intro b h; simp only [World.size_alloc]; rw [HES.out]; have := HZ2.out; have := hS b h; omega
        case refine_7 =>
          intro b h
          refine ⟨by simp only [World.size_alloc]; rw [HES.out]; have := (hA2 b h).2; omega, fun h' => ?_⟩
          have := (hob b h').2
          have := (hA2 b h).1
          omega
        case refine_8 => rw [hTk]
        intro A4 c4 w4 hown4 hg4 hbl4
        have hz4 : w2.heap.size + 1 ≤ w4.heap.size := by have := hg4.size; simp only [World.size_alloc] at this; rw [HES.out] at this; exact this
        have hb4 : Below w.heap.size w w4 := by
          have h1 := hw.alloc HZ.out (.cells #[Value.int IntKind.i64 x.n, Value.int IntKind.i64 x.fn, Value.int IntKind.i64 x.at_, Value.slice (some ⟨bA, oA, none⟩) x.args.length c1, Value.bool x.has, Value.int IntKind.i64 x.ans] 34)
          have h2 := h1.grown hg2 (by have := HZ.out; simp; omega) (fun g hg => by simp [Value.ownBlock] at hg)
          have h3 := h2.setCell (p := ⟨wr.heap.size, 3, none⟩) HZ.out (.slice A2 3 c2)
          have h4 := h3.alloc (by rw [HES.out]; have := HZ2.out; have := HZ.out; omega) (.cells #[Value.int IntKind.i64 x.n, Value.int IntKind.i64 x.fn, Value.int IntKind.i64 x.at_, Value.slice A2 3 c2, Value.bool x.has, Value.int IntKind.i64 x.ans] 34)
          exact h4.grown hg4 (by simp only [World.size_alloc]; rw [HES.out]; have := HZ2.out; have := HZ.out; omega) (fun g hg => (hob g hg).1)
        have HZ4 := Lib.hid hz4
        clear hz4
        go_wp2
        go_roundw
        case rel =>
          refine ⟨k + 1, by omega, by omega, by go_num, ⟨A4, c4, _, rfl, by rw [cut_step l k x HX.out]; exact hown4, ?_⟩, hb4⟩
          intro b h
          have := HZ4.out
          have := HZ2.out
          rcases h with h | h
          · have := hS b h; omega
          · have := (hA2 b h).2; omega
        case measure => simp [intOf]; omega
      · have hx3 : cutC x = x := by
          unfold cutC
          rw [List.take_of_length_le (by omega)]
        have hTk : ((l.map cutC).take k).length = k := by rw [List.length_take, List.length_map]; omega
        have hSv : ∀ b, S b ∨ (Value.slice A' k c').ownBlock = some b → b < wr.heap.size := fun b h => h.elim (hS b) (fun h => (hob b h).2)
        have hS0 : ∀ b, b < w.heap.size → b < wr.heap.size := fun b h => Nat.lt_of_lt_of_le h HZ.out
        go_wp2_with (at_builtin; go_must (refine wpList_append_push (α := Call) _ rfl (.tmp 29) (.tmp 31) _ rfl 34 i0 _ 64 Try.underlying31 hi0 hz0 hz1 hz2 rfl (by decide) (S := S) (T := fun b => b < w.heap.size) (base := w.heap.size) (y := x) rfl (hown.keep ((Same.alloc _ _ hSv).trans (Same.alloc _ _ ?_))) rfl (cells_new2 _ _ _ _) (Rp.keep ((Same.alloc _ _ hS0).trans (Same.alloc _ _ ?_)) hr') ?_ ?_ ?_ ?_ ?_ (k + 1) ?_ ?_))
        case refine_1 => intro b h; have := hSv b h; simp; omega
        case refine_2 => intro b h; have := hS0 b h; simp; omega
        case refine_3 => rw [hTk]; unfold maxLen; omega
        case refine_4 => rw [hTk]; omega
        case refine_5 => have := HZ.out; simp; omega
        case refine_6 => intro b h; have := hS b h; simp; omega
        case refine_7 =>
          intro b h
          refine ⟨by have := hS0 b h; simp; omega, fun h' => ?_⟩
          have := (hob b h').1
          omega
        case refine_8 => rw [hTk]
        intro A4 c4 w4 hown4 hg4 hbl4
        have hz4 : wr.heap.size ≤ w4.heap.size := by have := hg4.size; simp at this; omega
        have hb4 : Below w.heap.size w w4 := ((hw.alloc HZ.out _).alloc (by have := HZ.out; simp; omega) _).grown hg4 (by have := HZ.out; simp; omega) (fun g hg => (hob g hg).1)
        have HZ4 := Lib.hid hz4
        clear hz4
        go_wp2
        go_roundw
        case rel =>
          refine ⟨k + 1, by omega, by omega, by go_num, ⟨A4, c4, _, rfl, by rw [cut_step l k x HX.out, hx3]; exact hown4, ?_⟩, hb4⟩
          intro b h
          have := HZ4.out
          rcases h with h | h
          · have := hS b h; omega
          · have := hS0 b h; omega
        case measure => simp [intOf]; omega
    · have E : (l.map cutC).take k = cutL l := by
        unfold cutL
        by_cases h : k = 15
        · rw [h]
        · rw [List.take_of_length_le (by rw [List.length_map, hl.len]; omega), List.take_of_length_le (by rw [List.length_map, hl.len]; omega)]
      have hlen : ((l.map cutC).take k).length = k := by rw [List.length_take, List.length_map, hl.len]; omega
      rw [E] at hown hlen
      rcases Nat.lt_or_ge k m with hkm | hkm
      · have hd15 : decide ((k : Int) < 15) = false := decide_eq_false (by omega)
        go_wp2
        go_ret
        refine ⟨A', c', by rw [hlen]; rfl, ?_, hw⟩
        rw [hlen]
        obtain ⟨A2, c2, hv, hs⟩ := hown.sl
        rw [hlen] at hv hs
        obtain ⟨rfl, -, rfl⟩ := Value.slice.inj hv
        exact hs.mono (fun b h => h.elim (hS b) (fun h => (hown.blk b h).2))
      · go_wp2
        go_ret
        refine ⟨A', c', by rw [hlen]; rfl, ?_, hw⟩
        rw [hlen]
        obtain ⟨A2, c2, hv, hs⟩ := hown.sl
        rw [hlen] at hv hs
        obtain ⟨rfl, -, rfl⟩ := Value.slice.inj hv
        exact hs.mono (fun b h => h.elim (hS b) (fun h => (hown.blk b h).2))

end Go.Proofs.Ytlbgnakpcjibjaa
