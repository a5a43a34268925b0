/-
  Contracts of the packages host and of the reference's Answer: what each call computes, and what becomes of memory.
-/
import Derived.Test.YtlbgnakpcjibjaaRep
namespace Go.Proofs.Ytlbgnakpcjibjaa
open Go.RowKit Go.ChangeShapes Go.WideShapes Go.ChangeAt Go.Deep

/-- api.Call -/
structure Call where
  n : Int
  fn : Int
  at_ : Int
  args : List Val
  has : Bool
  ans : Int

def Bd (n : Int) : Prop := -9223372036854775808 ≤ n ∧ n ≤ 9223372036854775807

instance : Rp Call where
  sz := 6
  rep w S cs c := ∃ A cap, cs = [.int .i64 c.n, .int .i64 c.fn, .int .i64 c.at_, .slice A c.args.length cap, .bool c.has, .int .i64 c.ans] ∧ Sl w S A c.args.length cap c.args ∧ Bd c.n ∧ Bd c.fn ∧ Bd c.at_ ∧ Bd c.ans
  len := by rintro w S cs x ⟨A, cap, rfl, _⟩; rfl
  keep := fun hk ⟨A, cap, h, k, r⟩ => ⟨A, cap, h, k.keep hk, r⟩
  mono := fun hs ⟨A, cap, h, k, r⟩ => ⟨A, cap, h, k.mono hs, r⟩
  one := by rintro w S cs x ⟨A, cap, rfl, _⟩ u hu; simp at hu; rcases hu with rfl | rfl | rfl | rfl | rfl | rfl <;> rfl

def mulAdd (x v : Int) : Int := wrap64 (wrap64 (x * 1000003) + v)
def ansX (x : Int) (l : List Val) : Int := l.foldl (fun x v => mulAdd x v.n) x
def answer (seed n fn : Int) (l : List Val) : Int := ansX (mulAdd (mulAdd seed n) fn) l / 1024
theorem ansX_take (x : Int) (l : List Val) (k : Nat) (hk : k < l.length) : ansX x (l.take (k + 1)) = wrap64 (wrap64 (ansX x (l.take k) * 1000003) + l[k].n) := by
  unfold ansX
  rw [List.take_succ_eq_append_getElem hk, List.foldl_append]
  rfl
theorem mulAdd_bd (x v : Int) : Bd (mulAdd x v) := by unfold mulAdd Bd wrap64; omega
theorem ansX_bd (x : Int) (hx : Bd x) (l : List Val) : Bd (ansX x l) := by
  unfold ansX
  induction l generalizing x with
  | nil => exact hx
  | cons v l ih => exact ih _ (mulAdd_bd _ _)
theorem answer_bd (seed n fn : Int) (l : List Val) : Bd (answer seed n fn l) := by
  have := ansX_bd _ (mulAdd_bd (mulAdd seed n) fn) l
  unfold answer Bd at *
  omega
theorem ret_int {k : IntKind} {a b : Int} (h : a = b) : Ending.returned (.int k a) = .returned (.int k b) := by rw [h]
theorem ret_bool {a b : Bool} (h : a = b) : Ending.returned (.bool a) = .returned (.bool b) := by rw [h]
theorem v_int {k : IntKind} {a b : Int} (h : a = b) : Value.int k a = .int k b := by rw [h]

set_option maxHeartbeats 400000 in
theorem refAnswer (seed n fn : Int) (A : Option Addr) (m cap : Nat) (l : List Val) (S : Nat → Prop) (w : World) (hl : Sl w S A m cap l) :
    Calls Try.prog 11 #[.int .i64 seed, .int .i64 n, .int .i64 fn, .slice A m cap] w fun e w' => e = .returned (.int .i64 (answer seed n fn l)) ∧ w' = w := by
  have hm := hl.max
  have hle := hl.le
  unfold maxLen at hm
  go_enter Try.func11, Try.ntmps11
  go_wp2
  go_loop [9, 10] (fun x i => ∃ k : Nat, k ≤ m ∧ i = .int .i64 k ∧ x = .int .i64 (ansX (mulAdd (mulAdd seed n) fn) (l.take k))) (fun _ i => m - (intOf i).toNat)
  case atStart => exact ⟨0, Nat.zero_le _, rfl, rfl⟩
  case round =>
    obtain ⟨k, hk, rfl, rfl⟩ := hrel
    by_cases hlt : k < m
    · have hkl : k < l.length := by rw [hl.len]; exact hlt
      obtain ⟨b, off, cs, rfl, hb, hlen, hc, hr⟩ := hl.at_ k l[k] (List.getElem?_eq_getElem hkl)
      obtain ⟨rfl, hw1, hw2⟩ := hr
      have hc1 := hc 1 _ rfl
      clear hc
      simp only [Rp.sz] at hc1
      go_wp2
      go_round
      case rel => exact ⟨k + 1, by omega, by go_num, v_int (ansX_take _ _ _ hkl).symm⟩
      case measure => simp [intOf]; omega
    · obtain rfl : k = m := by omega
      go_wp2
      go_ret
      exact ⟨ret_int (by unfold answer; rw [List.take_of_length_le (by rw [hl.len]; omega)]), rfl⟩

set_option maxHeartbeats 400000 in
theorem hostAnswer (seed n fn : Int) (A : Option Addr) (m cap : Nat) (l : List Val) (S : Nat → Prop) (w : World) (hl : Sl w S A m cap l) (hS : ∀ b, S b → b < w.heap.size) :
    Calls Try.prog 12 #[.int .i64 seed, .int .i64 n, .int .i64 fn, .slice A m cap] w fun e w' => e = .returned (.int .i64 (answer seed n fn l)) ∧ Below w.heap.size w w' := by
  have hm := hl.max
  have hle := hl.le
  unfold maxLen at hm
  go_enter Try.func12, Try.ntmps12
  go_wp2
  go_loopw [9, 22] (fun x i wr => ∃ k : Nat, k ≤ m ∧ i = .int .i64 k ∧ x = .int .i64 (ansX (mulAdd (mulAdd seed n) fn) (l.take k)) ∧ Below w.heap.size w wr) (fun _ i _ => m - (intOf i).toNat)
  case atStart => exact ⟨0, Nat.zero_le _, rfl, rfl, Below.refl _ _⟩
  case round =>
    obtain ⟨k, hk, rfl, rfl, hb⟩ := hrel
    by_cases hlt : k < m
    · have hkl : k < l.length := by rw [hl.len]; exact hlt
      obtain ⟨b, off, cs, rfl, hSb, hlen, hc, hr⟩ := (hl.keep (Same.of_below hb hS)).at_ k l[k] (List.getElem?_eq_getElem hkl)
      obtain ⟨rfl, hw1, hw2⟩ := hr
      have hc0 := hc 0 _ rfl
      have hc1 := hc 1 _ rfl
      clear hc
      simp only [Rp.sz, Nat.add_zero] at hc0 hc1
      go_wp2
      go_roundw
      case rel => exact ⟨k + 1, by omega, by go_num, v_int (ansX_take _ _ _ hkl).symm, hb.alloc hb.size _⟩
      case measure => simp [intOf]; omega
    · obtain rfl : k = m := by omega
      go_wp2
      go_ret
      exact ⟨ret_int (by unfold answer; rw [List.take_of_length_le (by rw [hl.len]; omega)]), hb⟩

theorem infoVal : (Try.prog.info? 28).map (fun i => (i.zero, i.size, i.bytes)) = some (some (.agg #[.int .i64 0, .int .i64 0]), 2, 16) := by kernel_rfl
theorem infoCall : (Try.prog.info? 34).map (fun i => (i.zero, i.size, i.bytes)) = some (some (.agg #[.int .i64 0, .int .i64 0, .int .i64 0, .slice none 0 0, .bool false, .int .i64 0]), 6, 64) := by kernel_rfl
set_option maxHeartbeats 400000 in
theorem cloneVal (A : Option Addr) (m cap : Nat) (l : List Val) (S : Nat → Prop) (w : World) (hl : Sl w S A m cap l) (hS : ∀ b, S b → b < w.heap.size) (hby : m * 16 ≤ 140737488355328) :
    Calls Try.prog 24 #[.slice A m cap] w fun e w' => ∃ A' c', e = .returned (.slice A' m c') ∧ Own w' w.heap.size 28 (.slice A' m c') S l ∧ Below w.heap.size w w' ∧ (A' = none ↔ A = none) := by
  have q := fun (w : World) (a : Option Addr) (n c n' c' : Nat) => Lib.run_eql_slice_nil (P := Try.prog) w 23 28 a n c n' c' Try.underlying23
  obtain ⟨i0, hi0, hz0, hz1, hz2⟩ := info_parts infoVal
  have hm := hl.max
  have hle := hl.le
  have hlen := hl.len
  rcases A with _ | ad
  · have h0 := hl.nil rfl
    obtain rfl : m = 0 := by omega
    obtain rfl : l = [] := List.eq_nil_of_length_eq_zero hlen
    go_enter Try.func24, Try.ntmps24
    go_wp2
    go_ret
    exact ⟨_, _, rfl, Own.nil_ _ _ _ _, Below.refl _ _, by simp⟩
  · have HL := Lib.hid hl
    have HN := Lib.hid hlen
    clear hl hlen
    go_enter Try.func24, Try.ntmps24
    go_wp2_with (at_builtin; refine wpList_append_sl (α := Val) _ rfl (.tmp 5) (.tmp 6) _ rfl 28 i0 _ 16 Try.underlying23 hi0 hz0 hz1 hz2 rfl (by decide) rfl (own_made w _) rfl (HL.out.keep (Same.of_below ((Below.refl _ _).alloc (Nat.le_refl _) _) hS)) ?_ ?_ ?_ ?_ ?_ m ?_ ?_)
    case refine_1 => simp only [List.length_nil]; omega
    case refine_2 => simp only [List.length_nil]; omega
    case refine_3 => simp
    case refine_4 => intro b hb; exact hb.elim
    case refine_5 => intro b hb; have := hS b hb; simp [Value.ownBlock, Act.eval]; omega
    case refine_6 => rw [List.length_nil, Nat.zero_add]; exact HN.out
    intro A' c' w' hown hg hbl
    go_wp2
    go_ret
    refine ⟨A', c', rfl, hown, ((Below.refl _ _).alloc (Nat.le_refl _) _).grown hg (by simp) (fun k hk => ?_), ?_⟩
    · simp [Value.ownBlock] at hk
      omega
    · rcases A' with _ | a'
      · simp [Value.ownBlock] at hbl
      · simp

set_option maxHeartbeats 400000 in
theorem cloneCall (A : Option Addr) (m cap : Nat) (l : List Call) (S : Nat → Prop) (w : World) (hl : Sl w S A m cap l) (hS : ∀ b, S b → b < w.heap.size) (hby : m * 64 ≤ 140737488355328) :
    Calls Try.prog 25 #[.slice A m cap] w fun e w' => ∃ A' c', e = .returned (.slice A' m c') ∧ Own w' w.heap.size 34 (.slice A' m c') S l ∧ Below w.heap.size w w' ∧ (A' = none ↔ A = none) := by
  have q := fun (w : World) (a : Option Addr) (n c n' c' : Nat) => Lib.run_eql_slice_nil (P := Try.prog) w 31 34 a n c n' c' Try.underlying31
  obtain ⟨i0, hi0, hz0, hz1, hz2⟩ := info_parts infoCall
  have hm := hl.max
  have hle := hl.le
  have hlen := hl.len
  rcases A with _ | ad
  · have h0 := hl.nil rfl
    obtain rfl : m = 0 := by omega
    obtain rfl : l = [] := List.eq_nil_of_length_eq_zero hlen
    go_enter Try.func25, Try.ntmps25
    go_wp2
    go_ret
    exact ⟨_, _, rfl, Own.nil_ _ _ _ _, Below.refl _ _, by simp⟩
  · have HL := Lib.hid hl
    have HN := Lib.hid hlen
    clear hl hlen
    go_enter Try.func25, Try.ntmps25
    go_wp2_with (at_builtin; refine wpList_append_sl (α := Call) _ rfl (.tmp 5) (.tmp 6) _ rfl 34 i0 _ 64 Try.underlying31 hi0 hz0 hz1 hz2 rfl (by decide) rfl (own_made w _) rfl (HL.out.keep (Same.of_below ((Below.refl _ _).alloc (Nat.le_refl _) _) hS)) ?_ ?_ ?_ ?_ ?_ m ?_ ?_)
    case refine_1 => simp only [List.length_nil]; omega
    case refine_2 => simp only [List.length_nil]; omega
    case refine_3 => simp
    case refine_4 => intro b hb; exact hb.elim
    case refine_5 => intro b hb; have := hS b hb; simp [Value.ownBlock, Act.eval]; omega
    case refine_6 => rw [List.length_nil, Nat.zero_add]; exact HN.out
    intro A' c' w' hown hg hbl
    go_wp2
    go_ret
    refine ⟨A', c', rfl, hown, ((Below.refl _ _).alloc (Nat.le_refl _) _).grown hg (by simp) (fun k hk => ?_), ?_⟩
    · simp [Value.ownBlock] at hk
      omega
    · rcases A' with _ | a'
      · simp [Value.ownBlock] at hbl
      · simp

theorem hostNew (seed : Int) (w : World) : Calls Try.prog 10 #[.int .i64 seed] w fun e w' => e = .returned (.pointer (some ⟨w.heap.size, 0, none⟩)) ∧ w' = w.alloc (.cells #[.int .i64 seed, .slice none 0 0] 46) := by
  go_enter Try.func10, Try.ntmps10
  go_wp2
  go_ret
  exact ⟨rfl, rfl⟩

theorem take_snoc_eq {α : Type} {xs ys : List α} {k : Nat} (h : xs.take k = ys.take k) (hx : k < xs.length) (hy : k < ys.length) (he : xs[k] = ys[k]) : xs.take (k + 1) = ys.take (k + 1) := by
  rw [List.take_succ_eq_append_getElem hx, List.take_succ_eq_append_getElem hy, h, he]
theorem ne_of_get {α : Type} {xs ys : List α} {k : Nat} (hx : k < xs.length) (hy : k < ys.length) (he : xs[k] ≠ ys[k]) : xs ≠ ys := fun h => he (by subst h; rfl)

set_option maxHeartbeats 1000000 in
theorem eqVals (A B : Option Addr) (n m c d : Nat) (xs ys : List Val) (S T : Nat → Prop) (w : World) (hx : Sl w S A n c xs) (hy : Sl w T B m d ys) :
    Calls Try.prog 15 #[.slice A n c, .slice B m d] w fun e w' => e = .returned (.bool (decide (xs = ys))) ∧ ∃ k, w' = w.drewN k := by
  have h1 := hx.max
  have h2 := hx.le
  have h3 := hy.max
  have h4 := hy.le
  unfold maxLen at h1 h3
  by_cases hnm : n = m
  · subst hnm
    go_enter Try.func15, Try.ntmps15
    go_wp2
    go_loopw [5] (fun i wr => ∃ k : Nat, k ≤ n ∧ i = .int .i64 k ∧ xs.take k = ys.take k ∧ ∃ j, wr = w.drewN j) (fun i _ => n - (intOf i).toNat)
    case atStart => exact ⟨0, Nat.zero_le _, rfl, rfl, 0, rfl⟩
    case round =>
      obtain ⟨k, hk, rfl, ht, j, rfl⟩ := hrel
      have HT := Lib.hid ht
      clear ht
      by_cases hlt : k < n
      · have hkx : k < xs.length := by rw [hx.len]; exact hlt
        have hky : k < ys.length := by rw [hy.len]; exact hlt
        obtain ⟨b, off, cs, rfl, hSb, hlen, hc, hr⟩ := hx.at_ k xs[k] (List.getElem?_eq_getElem hkx)
        obtain ⟨rfl, hw1, hw2⟩ := hr
        have hc0 := hc 0 _ rfl
        have hc1 := hc 1 _ rfl
        obtain ⟨b', off', cs', rfl, hSb', hlen', hc', hr'⟩ := hy.at_ k ys[k] (List.getElem?_eq_getElem hky)
        obtain ⟨rfl, hw1', hw2'⟩ := hr'
        have hd0 := hc' 0 _ rfl
        have hd1 := hc' 1 _ rfl
        clear hc hc'
        simp only [Rp.sz, Nat.add_zero] at hc0 hc1 hd0 hd1
        obtain ⟨x, hxk⟩ : ∃ x, x = xs[k] := ⟨_, rfl⟩
        obtain ⟨y, hyk⟩ : ∃ y, y = ys[k] := ⟨_, rfl⟩
        rw [← hxk] at hc0 hc1
        rw [← hyk] at hd0 hd1
        have HX := Lib.hid hxk
        have HY := Lib.hid hyk
        clear hxk hyk
        by_cases e1 : x.kind = y.kind
        · by_cases e2 : x.n = y.n
          · have e1' : (x.kind != y.kind) = false := by simp [e1]
            have e2' : (x.n != y.n) = false := by simp [e2]
            have E : Hid (x = y) := by cases x; cases y; simp at e1 e2; subst e1; subst e2; rfl
            clear e1 e2
            go_wp2
            go_quiet (fail)
            go_wp2
            go_roundw
            case rel => exact ⟨k + 1, by omega, by go_num, take_snoc_eq HT.out hkx hky (by rw [← HX.out, ← HY.out]; exact E.out), _, rfl⟩
            case measure => simp [intOf]; omega
          · have e1' : (x.kind != y.kind) = false := by simp [e1]
            have e2' : (x.n != y.n) = true := by simp [e2]
            have E : xs ≠ ys := ne_of_get hkx hky (by rw [← HX.out, ← HY.out]; rintro rfl; exact e2 rfl)
            clear e1 e2
            go_wp2
            go_quiet (fail)
            go_wp2
            go_ret
            exact ⟨ret_bool (by simp [E]), _, World.drewN_drewN ..⟩
        · have e1' : (x.kind != y.kind) = true := by simp [e1]
          have E : xs ≠ ys := ne_of_get hkx hky (by rw [← HX.out, ← HY.out]; rintro rfl; exact e1 rfl)
          clear e1
          go_wp2
          go_quiet (fail)
          go_wp2
          go_ret
          exact ⟨ret_bool (by simp [E]), _, World.drewN_drewN ..⟩
      · obtain rfl : k = n := by omega
        have E : xs = ys := by have := HT.out; rwa [List.take_of_length_le (by rw [hx.len]; omega), List.take_of_length_le (by rw [hy.len]; omega)] at this
        go_wp2
        go_ret
        exact ⟨ret_bool (by simp [E]), _, rfl⟩
  · go_enter Try.func15, Try.ntmps15
    go_wp2
    go_ret
    exact ⟨ret_bool (by simp; rintro rfl; exact hnm (hx.len.symm.trans hy.len)), 0, rfl⟩

/-- A host in block g: its seed, what it did; F: all blocks that are its. -/
def HostAt (w : World) (F : Nat → Prop) (g : Nat) (seed : Int) (calls : List Call) : Prop :=
  ∃ v S, Blk w g 46 #[.int .i64 seed, v] ∧ Own w 0 34 v S calls ∧ F g ∧ (∀ b, S b → F b ∧ b ≠ g ∧ b < w.heap.size) ∧ ∀ b, v.ownBlock = some b → F b

theorem HostAt.keep {w w' : World} {F : Nat → Prop} {g : Nat} {seed : Int} {calls : List Call} (hk : Same F w w') (hz : w.heap.size ≤ w'.heap.size) (h : HostAt w F g seed calls) : HostAt w' F g seed calls := by
  obtain ⟨v, S, h1, h2, h3, h4, h5⟩ := h
  refine ⟨v, S, (hk g h3).trans h1, h2.keep (hk.mono fun b hb => ?_), h3, fun b hb => ?_, h5⟩
  · rcases hb with hb | hb
    · exact (h4 b hb).1
    · exact h5 b hb
  · obtain ⟨a, b', c⟩ := h4 b hb
    exact ⟨a, b', by omega⟩
theorem HostAt.mono {w : World} {F G : Nat → Prop} {g : Nat} {seed : Int} {calls : List Call} (hs : ∀ b, F b → G b) (h : HostAt w F g seed calls) : HostAt w G g seed calls := by
  obtain ⟨v, S, h1, h2, h3, h4, h5⟩ := h
  exact ⟨v, S, h1, h2, hs _ h3, fun b hb => ⟨hs _ (h4 b hb).1, (h4 b hb).2⟩, fun b hb => hs _ (h5 b hb)⟩
theorem HostAt.new_ (w : World) (seed : Int) : HostAt (w.alloc (.cells #[.int .i64 seed, .slice none 0 0] 46)) (fun b => b = w.heap.size) w.heap.size seed [] :=
  ⟨.slice none 0 0, fun _ => False, Blk.new _ _ _, Own.nil_ _ _ _ _, rfl, fun _ h => h.elim, fun b h => by simp [Value.ownBlock] at h⟩

theorem callNil (n fn : Int) (a : Value) (w : World) : Calls Try.prog 13 #[.pointer none, .int .i64 n, .int .i64 fn, a] w fun e w' => e = .returned (.int .i64 0) ∧ w = w' := by
  go_enter Try.func13, Try.ntmps13
  go_wp2
  go_ret
  exact ⟨rfl, rfl⟩
theorem doneNil (w : World) : Calls Try.prog 14 #[.pointer none] w fun e w' => e = .returned (.slice none 0 0) ∧ w = w' := by
  go_enter Try.func14, Try.ntmps14
  go_wp2
  go_ret
  exact ⟨rfl, rfl⟩

set_option maxHeartbeats 1000000 in
theorem hostCall (g : Nat) (seed n fn : Int) (calls : List Call) (F S : Nat → Prop) (A : Option Addr) (m cap : Nat) (l : List Val) (w : World) (hh : HostAt w F g seed calls) (hl : Sl w S A m cap l) (hS : ∀ b, S b → b < w.heap.size)
    (hm : m ≤ 1000) (hn : calls.length ≤ 1000) (hbn : Bd n) (hbf : Bd fn) (hF : ∀ b, F b → b < w.heap.size) :
    Calls Try.prog 13 #[.pointer (some ⟨g, 0, none⟩), .int .i64 n, .int .i64 fn, .slice A m cap] w fun e w' => e = .returned (.int .i64 (answer seed n fn l)) ∧
      HostAt w' (fun b => F b ∨ (w.heap.size ≤ b ∧ b < w'.heap.size)) g seed (calls ++ [⟨n, fn, 0, l, true, answer seed n fn l⟩]) ∧ Only F w w' := by
  obtain rfl : m = l.length := hl.len.symm
  obtain ⟨v, T, h1, h2, h3, h4, h5⟩ := hh
  have hc0 := h1.cell 0
  have hc1 := h1.cell 1
  simp at hc0 hc1
  have hg := h1.lt
  go_enter Try.func13, Try.ntmps13
  go_wp2_with (go_at_call 12; refine (hostAnswer _ _ _ _ _ _ l S _ hl hS).mono ?_; rintro e w1 ⟨rfl, hb1⟩)
  have hcw : w1.cell? ⟨g, 1, none⟩ = some v := (hb1.cell (p := ⟨g, 1, none⟩) hg).trans hc1
  obtain ⟨i0, hi0, hz0, hz1, hz2⟩ := info_parts infoCall
  have hvg : v.ownBlock ≠ some g := by
    obtain ⟨css, ho, _⟩ := h2
    exact own_blk_ne ho h1 (by decide)
  refine wp_region_E (fun w' => w'.cell? ⟨g, 1, none⟩ = some v) (fun j => j == 12 || j == 15) (by kernel_rfl) ?_
  have hS0 : w1.drew.cell? ⟨g, 1, none⟩ = some v := hcw
  refine wpAnyE_pure (i := 0) (v := ?_) rfl (by kernel_rfl) (by kernel_rfl) (by kernel_rfl) (fun _ _ _ h => h) (Or.inl ⟨by rfl, ?_⟩) ?_
  rotate_left
  · intro _ _; go_simp; with_reducible rfl
  refine wpAnyE_pure (i := 1) (v := ?_) rfl (by kernel_rfl) (by kernel_rfl) (by kernel_rfl) (fun _ _ _ h => h) (Or.inl ⟨by rfl, ?_⟩) ?_
  rotate_left
  · intro _ _; go_simp; with_reducible rfl
  refine wpAnyE_pure (i := 2) (v := ?_) rfl (by kernel_rfl) (by kernel_rfl) (by kernel_rfl) (fun _ _ _ h => h) (Or.inl ⟨by rfl, ?_⟩) ?_
  rotate_left
  · intro _ _; go_simp; with_reducible rfl
  refine wpAnyE_pure (i := 3) (v := ?_) rfl (by kernel_rfl) (by kernel_rfl) (by kernel_rfl) (fun _ _ _ h => h) (Or.inl ⟨by rfl, ?_⟩) ?_
  rotate_left
  · intro _ _; go_simp; with_reducible rfl
  refine wpAnyE_pure (i := 5) (v := ?_) rfl (by kernel_rfl) (by kernel_rfl) (by kernel_rfl) (fun _ _ _ h => h) (Or.inl ⟨by rfl, ?_⟩) ?_
  rotate_left
  · intro _ _; go_simp; with_reducible rfl
  refine wpAnyE_pure (i := 6) (v := ?_) rfl (by kernel_rfl) (by kernel_rfl) (by kernel_rfl) (fun _ _ _ h => h) (Or.inl ⟨by rfl, ?_⟩) ?_
  rotate_left
  · intro _ _; go_simp; with_reducible rfl
  refine wpAnyE_pure (i := 7) (v := ?_) rfl (by kernel_rfl) (by kernel_rfl) (by kernel_rfl) (fun _ _ _ h => h) (Or.inl ⟨by rfl, ?_⟩) ?_
  rotate_left
  · intro _ _; go_simp; with_reducible rfl
  refine wpAnyE_pure (i := 9) (v := ?_) rfl (by kernel_rfl) (by kernel_rfl) (by kernel_rfl) (fun _ _ _ h => h) (Or.inl ⟨by rfl, ?_⟩) ?_
  rotate_left
  · intro _ _; go_simp; with_reducible rfl
  refine wpAnyE_take (i := 4) (v := ?_) rfl (by kernel_rfl) (by kernel_rfl) (by kernel_rfl) (by kernel_rfl) (fun _ _ _ h => h) (Or.inl ⟨by rfl, ?_⟩) hS0 ?_
  rotate_left
  · intro _ hw; go_simp; with_reducible rfl
  refine wpAnyE_only (i := 8) (by kernel_rfl) rfl ?_
  go_wp2_with (go_at_call 24; refine (cloneVal _ _ _ l S _ (hl.below hb1 hS).drew (fun b hb => Nat.lt_of_lt_of_le (hS b hb) hb1.size) (by omega)).mono ?_; rintro e w2 ⟨A2, c2, rfl, hown2, hb2, hnil⟩)
  refine ⟨(hb2.cell (p := ⟨g, 1, none⟩) (by simp; have := hb1.size; omega)).trans hcw, ?_⟩
  refine wpAnyE_pure (i := 10) (v := ?_) rfl (by kernel_rfl) (by kernel_rfl) (by kernel_rfl) (fun _ _ _ h => h) (Or.inl ⟨by rfl, ?_⟩) ?_
  rotate_left
  · intro _ _; go_simp; with_reducible rfl
  refine wpAnyE_only (i := 11) (by kernel_rfl) rfl ?_
  go_wp2
  constructor
  · intro h; rwa [World.cell?_alloc_lt _ _ _ (World.block_lt_of_cell? _ _ h)]
  refine wpAnyE_only (i := 12) (by kernel_rfl) rfl ?_
  have hz2' : w1.heap.size ≤ w2.heap.size := hb2.size
  have hbw : Below w.heap.size w (w2.alloc (.cells #[.int .i64 n, .int .i64 fn, .int .i64 0, .slice A2 l.length c2, .bool true, .int .i64 (answer seed n fn l)] 34)) :=
    ((hb1.drew).trans (hb2.mono hb1.size)).alloc (Nat.le_trans hb1.size hz2') _
  refine wpList_append_push (α := Call) _ rfl (.tmp 24) (.tmp 31) _ rfl 34 i0 _ 64 Try.underlying31 hi0 hz0 hz1 hz2 rfl (by decide) (S := T) (T := fun b => w1.heap.size ≤ b ∧ b < w2.heap.size) (base := 0) (v := v) (xs := calls) (g := w2.heap.size) (c := 1) (y := ⟨n, fn, 0, l, true, answer seed n fn l⟩) (cs := [.int .i64 n, .int .i64 fn, .int .i64 0, .slice A2 l.length c2, .bool true, .int .i64 (answer seed n fn l)]) rfl ?_ rfl ?_ ?_ ?_ ?_ ?_ ?_ ?_ (calls.length + 1) rfl ?_
  · exact h2.below hbw (fun b hb => (h4 b hb).2.2) (fun b hb => hF b (h5 b hb))
  · exact cells_new w2 _ _
  · obtain ⟨A', c', hv', hs'⟩ := hown2.slF
    obtain ⟨rfl, -, rfl⟩ := Value.slice.inj hv'
    refine ⟨A2, c2, rfl, ?_, hbn, hbf, by show Bd 0; unfold Bd; omega, answer_bd _ _ _ _⟩
    have hlt2 : ∀ b, (Value.slice A2 l.length c2).ownBlock = some b → w1.heap.size ≤ b ∧ b < w2.heap.size := fun b hb => hown2.blk b hb
    exact (hs'.alloc (fun b hb => (hlt2 b hb).2) _).mono hlt2
  · unfold maxLen; omega
  · omega
  · omega
  · intro b hb
    have := (h4 b hb).2.2
    have := hb1.size
    have := hz2'
    simp
    omega
  · intro b hb
    refine ⟨by simp; omega, fun h => ?_⟩
    have := hF b (h5 b h)
    have := hb1.size
    omega
  intro A3 c3 w3 hown3 hg3 hbl3
  have hz3 : w2.heap.size + 1 ≤ w3.heap.size := by have := hg3.size; simp at this; omega
  have hB3 := (Blk.below h1 hb1 hg).drew |>.below hb2 (by simp; have := hb1.size; omega) |>.alloc (.cells #[.int .i64 n, .int .i64 fn, .int .i64 0, .slice A2 l.length c2, .bool true, .int .i64 (answer seed n fn l)] 34) |>.grown hg3 hvg.symm
  have hk3 : w3.cell? ⟨g, 1, none⟩ = some v := by rw [hB3.cell]; rfl
  have hf3 : w3.frozen? ⟨g, 1, none⟩ = false := hB3.frozen 1
  go_wp2
  refine wpAnyE_pure (i := 13) (v := ?_) rfl (by kernel_rfl) (by kernel_rfl) (by kernel_rfl) (fun _ _ _ h => h) (Or.inl ⟨by rfl, ?_⟩) ?_
  rotate_left
  · intro _ _; go_simp; with_reducible rfl
  refine wpAnyE_pure (i := 14) (v := ?_) rfl (by kernel_rfl) (by kernel_rfl) (by kernel_rfl) (fun _ _ _ h => h) (Or.inl ⟨by rfl, ?_⟩) ?_
  rotate_left
  · intro _ _; go_simp; with_reducible rfl
  refine wpAnyE_only (i := 15) (by kernel_rfl) rfl ?_
  go_wp2
  refine wpAnyE_done (by kernel_rfl) ?_ _
  go_wp2
  go_ret
  have hz1' := hb1.size
  have hown3b : ∀ b, (Value.slice A3 (calls.length + 1) c3).ownBlock = some b → F b ∨ (w.heap.size ≤ b ∧ b < w3.heap.size) := by
    intro b hb
    have hlt := (hown3.blk b hb).2
    rcases hbl3 with h | h
    · exact .inl (h5 b (h ▸ hb))
    · rw [h] at hb
      have : (w2.alloc (.cells #[.int .i64 n, .int .i64 fn, .int .i64 0, .slice A2 l.length c2, .bool true, .int .i64 (answer seed n fn l)] 34)).heap.size = b := by simpa using hb
      simp at this
      exact .inr ⟨by omega, hlt⟩
  have hown3g : (Value.slice A3 (calls.length + 1) c3).ownBlock ≠ some g := by
    obtain ⟨css, ho, _⟩ := hown3
    exact own_blk_ne ho hB3 (by decide)
  refine ⟨rfl, ⟨.slice A3 (calls.length + 1) c3, fun b => T b ∨ (w1.heap.size ≤ b ∧ b < w2.heap.size), ?_, ?_, .inl h3, fun b hb => ?_, fun b hb => ?_⟩, ?_⟩
  · exact hB3.set_ 1 _
  · refine hown3.keep (Same.setCell _ _ _ ?_)
    rintro ((hb | hb) | hb)
    · exact (h4 g hb).2.1 rfl
    · have := hb.1; simp at this; omega
    · exact hown3g hb
  · have hzz : (w3.setCell ⟨g, 1, none⟩ (Value.slice A3 (calls.length + 1) c3)).heap.size = w3.heap.size := by simp [World.setCell]
    rw [hzz]
    rcases hb with hb | hb
    · have := h4 b hb
      exact ⟨.inl this.1, this.2.1, by omega⟩
    · exact ⟨.inr (by omega), by omega, by omega⟩
  · have hzz : (w3.setCell ⟨g, 1, none⟩ (Value.slice A3 (calls.length + 1) c3)).heap.size = w3.heap.size := by simp [World.setCell]
    rw [hzz]
    exact hown3b b hb
  · refine (((Only.of_below hbw F).grown hg3 fun k hk hlt => h5 k hk)).setCell (fun _ => h3) _

/-- which blocks element i of Done's list leads to behind k rounds -/
def doneS (B : Nat) (A : Option Addr) (S1 : Nat → Prop) (w : World) (k i b : Nat) : Prop := (i < k ∧ B ≤ b ∧ b < w.heap.size ∧ (∀ ad, A = some ad → ad.block ≠ b) ∧ Plain w b) ∨ (k ≤ i ∧ S1 b)

set_option maxHeartbeats 1000000 in
theorem hostDone (g : Nat) (seed : Int) (calls : List Call) (F : Nat → Prop) (w : World) (hh : HostAt w F g seed calls) (hF : ∀ b, F b → b < w.heap.size) (hn : calls.length ≤ 1000) (ha : ∀ c ∈ calls, c.args.length ≤ 1000) :
    Calls Try.prog 14 #[.pointer (some ⟨g, 0, none⟩)] w fun e w' => ∃ A c S, e = .returned (.slice A calls.length c) ∧ Own w' w.heap.size 34 (.slice A calls.length c) S calls ∧
      (∀ b, S b → w.heap.size ≤ b ∧ b < w'.heap.size ∧ Plain w' b) ∧ Below w.heap.size w w' := by
  obtain ⟨v, T, h1, h2, h3, h4, h5⟩ := hh
  obtain ⟨A0, c0, rfl, hs⟩ := h2.sl
  have hS1 : ∀ b, T b ∨ (Value.slice A0 calls.length c0).ownBlock = some b → b < w.heap.size := fun b hb => hb.elim (fun h => (h4 b h).2.2) (fun h => hF b (h5 b h))
  have hc1 := h1.cell 1
  simp at hc1
  have hby : calls.length * 64 ≤ 140737488355328 := by omega
  go_enter Try.func14, Try.ntmps14
  go_wp2_with (go_at_call 25; refine (cloneCall _ _ _ calls _ _ hs hS1 hby).mono ?_; rintro e w1 ⟨A1, c1, rfl, hown1, hb1, hnil⟩)
  go_loopw [14] (fun i wr => ∃ k : Nat, k ≤ calls.length ∧ i = .int .i64 k ∧ OwnI wr w.heap.size 34 (.slice A1 calls.length c1) (doneS w.heap.size A1 (fun b => T b ∨ (Value.slice A0 calls.length c0).ownBlock = some b) wr k) calls ∧ Below w.heap.size w wr) (fun i _ => calls.length - (intOf i).toNat)
  case atStart =>
    refine ⟨0, Nat.zero_le _, rfl, ?_, hb1⟩
    refine hown1.each.mono (fun i _ b hb => .inr ⟨Nat.zero_le _, hb⟩) ?_
    rintro g' hg' i (⟨h, _⟩ | ⟨_, h⟩)
    · omega
    · have := hown1.blk g' hg'
      have := hS1 g' h
      omega
  case round =>
    obtain ⟨k, hk, rfl, ho, hb⟩ := hrel
    by_cases hlt : k < calls.length
    · obtain ⟨g', cap', cs, hv, hlen, hcell, hfr, A3, c3, rfl, hs3, hbd⟩ := ho.at_ (List.getElem?_eq_getElem hlt)
      obtain ⟨rfl, -, rfl⟩ := Value.slice.inj hv
      have hc3 := hcell 3 _ rfl
      have hf3 := hfr (k * 6 + 3)
      simp only [Rp.sz] at hc3
      have hlen3 : calls[k].args.length ≤ 1000 := ha _ (List.getElem_mem hlt)
      have hgB := ho.blk g' rfl
      have hS3 : ∀ b, doneS w.heap.size (some ⟨g', 0, none⟩) (fun b => T b ∨ (Value.slice A0 calls.length c0).ownBlock = some b) wr k k b → b < wr.heap.size := by
        rintro b (⟨h, _⟩ | ⟨_, h⟩)
        · omega
        · have := hS1 b h
          have := hb.size
          omega
      obtain ⟨x, hx⟩ : ∃ x, x = calls[k] := ⟨_, rfl⟩
      rw [← hx] at hs3 hlen3 hc3
      have HX := Lib.hid hx
      clear hx
      have h16 : x.args.length * 16 ≤ 140737488355328 := by omega
      go_wp2_with (go_at_call 24; refine (cloneVal _ _ _ _ _ _ hs3 hS3 h16).mono ?_; rintro e w2 ⟨A4, c4, rfl, hown4, hb4, hnil4⟩; have hc4 := (hb4.cell (p := ⟨g', k * 6 + 3, none⟩) hgB.2).trans hc3; have hf4 := (hb4.frozen (p := ⟨g', k * 6 + 3, none⟩) hgB.2).trans hf3)
      go_roundw
      case rel =>
        obtain ⟨A5, c5, hv5, hs5⟩ := hown4.slF
        obtain ⟨rfl, -, rfl⟩ := Value.slice.inj hv5
        have hkx : calls[k]? = some x := by rw [HX.out]; exact List.getElem?_eq_getElem hlt
        have hown4b := hown4.blk
        have hz4 := hb4.size
        have hzr := hb.size
        have hset := (ho.keep (w' := w2) ?_).set_ (g := g') rfl (i := k) (j := 3) (x := x) (x' := x) (u := .slice A4 x.args.length c4) (T' := fun b => (Value.slice A4 x.args.length c4).ownBlock = some b) hkx (by decide) ?_ ?_
        · refine ⟨k + 1, by omega, by go_num, ?_, ?_⟩
          · rw [List.set_getElem?_self hkx] at hset
            refine hset.mono (fun i hi b hsb => ?_) ?_
            · by_cases hik : i = k
              · subst hik
                rw [if_pos rfl] at hsb
                have := hown4b b hsb
                exact .inl ⟨by omega, by omega, by simp [World.setCell]; omega, (fun ad hA => by have := Option.some.inj hA; subst this; simp; omega), (hown4.plain hsb).set_ _ _ _⟩
              · rw [if_neg hik] at hsb
                rcases hsb with ⟨h1, h2, h3, h4, h5⟩ | ⟨h1, h2⟩
                · exact .inl ⟨by omega, h2, by simp [World.setCell]; omega, h4, (h5.same (hb4.block b h3)).set_ _ _ _⟩
                · exact .inr ⟨by omega, h2⟩
            · rintro g2 hg2 i (⟨_, _, _, h, _⟩ | ⟨_, h⟩)
              · have : g' = g2 := by simpa [Value.ownBlock] using hg2
                exact h _ rfl this
              · have : g' = g2 := by simpa [Value.ownBlock] using hg2
                have := hS1 g2 h
                omega
          · exact (hb.trans (hb4.mono hzr)).setCell (p := ⟨g', k * 6 + 3, none⟩) hgB.1 _
        · refine Same.of_below hb4 fun b hbb => ?_
          rcases hbb with ⟨i, _, hbb⟩ | hbb
          · rcases hbb with ⟨_, _, h, _, _⟩ | ⟨_, h⟩
            · exact h
            · have := hS1 b h
              omega
          · exact (ho.blk b hbb).2
        · rintro cs ⟨A6, c6, rfl, hs6, hr6⟩
          exact ⟨A4, c4, rfl, hs5.keep (Same.setCell _ _ _ (by intro h; have := hown4b _ h; simp at this; omega)), hr6⟩
        · intro h
          have := hown4b _ h
          omega
      case measure => simp [intOf]; omega
    · obtain rfl : k = calls.length := by omega
      go_wp2
      go_ret
      refine ⟨A1, c1, _, rfl, ho.all (S' := fun b => w.heap.size ≤ b ∧ b < wr.heap.size ∧ (∀ ad, A1 = some ad → ad.block ≠ b) ∧ Plain wr b) ?_ ?_, fun b hb => ⟨hb.1, hb.2.1, hb.2.2.2⟩, hb⟩
      · rintro i hi b (⟨_, h⟩ | ⟨h, _⟩)
        · exact h
        · omega
      · rintro g2 hg2 ⟨_, _, h, _⟩
        rcases A1 with _ | ad
        · simp [Value.ownBlock] at hg2
        · exact h ad rfl (by simpa [Value.ownBlock] using hg2)

end Go.Proofs.Ytlbgnakpcjibjaa
