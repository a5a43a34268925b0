/-
  Gapless, Twins, Again, Same.
-/
import Derived.Test.YtlbgnakpcjibjaaJudge4
namespace Go.Proofs.Ytlbgnakpcjibjaa
open Go.RowKit Go.ChangeShapes Go.WideShapes Go.ChangeAt Go.Deep

/-- does f hold below k? -/
def allT (f : Nat → Bool) : Nat → Bool
  | 0 => true
  | k + 1 => allT f k && f k
theorem allT_iff (f : Nat → Bool) (k : Nat) : allT f k = true ↔ ∀ i, i < k → f i = true := by
  induction k with
  | zero => simp [allT]
  | succ k ih =>
    simp only [allT, Bool.and_eq_true, ih]
    constructor
    · rintro ⟨h1, h2⟩ i hi
      rcases Nat.lt_succ_iff_lt_or_eq.mp hi with h | rfl
      · exact h1 i h
      · exact h2
    · intro h
      exact ⟨fun i hi => h i (by omega), h k (by omega)⟩
theorem allT_false {f : Nat → Bool} {k n : Nat} (hk : k < n) (h : f k = false) : allT f n = false := by
  cases hh : allT f n with
  | false => rfl
  | true => rw [(allT_iff f n).mp hh k hk] at h; cases h
theorem allT_step {f : Nat → Bool} {k : Nat} (h : allT f k = true) (hf : f k = true) : allT f (k + 1) = true := by simp [allT, h, hf]

def gaplF (o : List Call) (i : Nat) : Bool := match o[i]? with | some c => c.n == (i : Int) + 1 | none => true
def gapless (l : List Call) : Bool := allT (gaplF (once l)) (once l).length
def twinF (l : List Call) (i : Nat) : Bool := match l[i]? with | some c => !(l.take i).any (fun x => x.n == c.n && !likeB x c) | none => true
def twins (l : List Call) : Bool := allT (twinF l) l.length
def again (l : List Call) : Int := (l.length : Int) - (once l).length
def sameF (a b : List Call) (i : Nat) : Bool := match a[i]?, b[i]? with | some x, some y => likeB x y | _, _ => true
def sameB (a b : List Call) : Bool := decide (a.length = b.length) && allT (sameF a b) a.length

set_option maxHeartbeats 1000000 in
theorem judgeAgain (A : Option Addr) (m cap : Nat) (l : List Call) (S : Nat → Prop) (w : World) (hl : Sl w S A m cap l) (hS : ∀ b, S b → b < w.heap.size) (hm1 : m ≤ 1000) :
    Calls Try.prog 22 #[.slice A m cap] w fun e w' => e = .returned (.int .i64 (again l)) ∧ Below w.heap.size w w' := by
  have hot := onceT_len l l.length
  have hlen := hl.len
  change (once l).length ≤ _ at hot
  have HL := Lib.hid hlen
  clear hlen
  go_enter Try.func22, Try.ntmps22
  go_wp2_with (go_at_call 19; refine (judgeOnce _ _ _ _ _ _ hl hS hm1).mono ?_; rintro e w1 ⟨A1, c1, rfl, hown, hw1⟩)
  go_ret
  refine ⟨ret_int ?_, hw1⟩
  have := HL.out
  unfold again wrap64
  omega

set_option maxHeartbeats 1000000 in
theorem judgeGapless (A : Option Addr) (m cap : Nat) (l : List Call) (S : Nat → Prop) (w : World) (hl : Sl w S A m cap l) (hS : ∀ b, S b → b < w.heap.size) (hm1 : m ≤ 1000) :
    Calls Try.prog 20 #[.slice A m cap] w fun e w' => e = .returned (.bool (gapless l)) ∧ Below w.heap.size w w' := by
  have hot := onceT_len l l.length
  change (once l).length ≤ _ at hot
  rw [hl.len] at hot
  go_enter Try.func20, Try.ntmps20
  go_wp2_with (go_at_call 19; refine (judgeOnce _ _ _ _ _ _ hl hS hm1).mono ?_; rintro e w1 ⟨A1, c1, rfl, hown, hw1⟩)
  obtain ⟨A', c', hv, hs⟩ := hown.sl
  obtain ⟨rfl, -, rfl⟩ := Value.slice.inj hv
  have hob := hown.blk
  have hS1 : ∀ b, S b ∨ (Value.slice A1 (once l).length c1).ownBlock = some b → b < w1.heap.size := fun b h => h.elim (fun h => Nat.lt_of_lt_of_le (hS b h) hw1.size) (fun h => (hob b h).2)
  have hG : gapless l = allT (gaplF (once l)) (once l).length := rfl
  generalize hT : (fun b => S b ∨ (Value.slice A1 (once l).length c1).ownBlock = some b) = T at hs
  have hS2 : ∀ b, T b → b < w1.heap.size := by intro b h; rw [← hT] at h; exact hS1 b h
  obtain ⟨o, ho⟩ : ∃ o, o = once l := ⟨_, rfl⟩
  rw [← ho] at hs hot hG
  rw [← ho]
  obtain ⟨n, hn⟩ : ∃ n, n = o.length := ⟨_, rfl⟩
  rw [← hn] at hs hot hG
  rw [← hn]
  have HG := Lib.hid hG
  clear hS1 hob hown hT hv hG ho
  go_loopw [8] (fun i wr => ∃ k : Nat, k ≤ n ∧ i = .int .i64 k ∧ allT (gaplF o) k = true ∧ Below w1.heap.size w1 wr) (fun i _ => n - (intOf i).toNat)
  case atStart => exact ⟨0, Nat.zero_le _, rfl, rfl, Below.refl _ _⟩
  case round =>
    obtain ⟨k, hk, rfl, ht, hw⟩ := hrel
    have HT := Lib.hid ht
    clear ht
    by_cases hlt : k < n
    · have hkl : k < o.length := by rw [← hn]; exact hlt
      obtain ⟨g, off, cs, rfl, hSb, hlen, hc, hr⟩ := (hs.keep (Same.of_below hw hS2)).at_ k o[k] (List.getElem?_eq_getElem hkl)
      obtain ⟨x, hx⟩ : ∃ x, x = o[k] := ⟨_, rfl⟩
      rw [← hx] at hr
      have HX := Lib.hid (show o[k]? = some x by rw [hx]; exact List.getElem?_eq_getElem hkl)
      obtain ⟨A1, c2, rfl, hy, hy1, hy2, hy3, hy4⟩ := hr
      have hc0 := hc 0 _ rfl
      have hc1 := hc 1 _ rfl
      have hc2 := hc 2 _ rfl
      have hc3 := hc 3 _ rfl
      have hc4 := hc 4 _ rfl
      have hc5 := hc 5 _ rfl
      clear hc
      simp only [Rp.sz, Nat.add_zero] at hc0 hc1 hc2 hc3 hc4 hc5
      have HN := Lib.hid hn
      have hz := Lib.hid hw.size
      clear hx hn
      by_cases hp : (x.n == (k : Int) + 1) = true
      · have e1 : (x.n != (k : Int) + 1) = false := by simpa using hp
        go_wp2
        go_roundw
        case rel => exact ⟨k + 1, by omega, by go_num, allT_step HT.out (by unfold gaplF; rw [HX.out]; exact hp), hw.alloc hz.out _⟩
        case measure => simp [intOf]; omega
      · have e1 : (x.n != (k : Int) + 1) = true := by simpa using hp
        go_wp2
        go_ret
        exact ⟨ret_bool (HG.out.trans (allT_false hlt (by unfold gaplF; rw [HX.out]; simpa using hp))).symm, hw1.trans ((hw.alloc hz.out _).mono hw1.size)⟩
    · obtain rfl : k = n := by omega
      go_wp2
      go_ret
      exact ⟨ret_bool (HG.out.trans HT.out).symm, hw1.trans (hw.mono hw1.size)⟩

set_option maxHeartbeats 1000000 in
theorem judgeTwins (A : Option Addr) (m cap : Nat) (l : List Call) (S : Nat → Prop) (w : World) (hl : Sl w S A m cap l) (hS : ∀ b, S b → b < w.heap.size) :
    Calls Try.prog 21 #[.slice A m cap] w fun e w' => e = .returned (.bool (twins l)) ∧ Below w.heap.size w w' := by
  have hm := hl.max
  have hle := hl.le
  unfold maxLen at hm
  go_enter Try.func21, Try.ntmps21
  go_wp2
  go_loopw [7] (fun i wr => ∃ k : Nat, k ≤ m ∧ i = .int .i64 k ∧ allT (twinF l) k = true ∧ Below w.heap.size w wr) (fun i _ => m - (intOf i).toNat)
  case atStart => exact ⟨0, Nat.zero_le _, rfl, rfl, Below.refl _ _⟩
  case round =>
    obtain ⟨k, hk, rfl, ht, hw⟩ := hrel
    have HT := Lib.hid ht
    clear ht
    by_cases hlt : k < m
    · have hkl : k < l.length := by rw [hl.len]; exact hlt
      have hlr := hl.keep (Same.of_below hw hS)
      obtain ⟨g, off, cs, rfl, hSb, hlen, hc, hr⟩ := hlr.at_ k l[k] (List.getElem?_eq_getElem hkl)
      have htk := hlr.take k hk
      obtain ⟨x, hx⟩ : ∃ x, x = l[k] := ⟨_, rfl⟩
      rw [← hx] at hr
      have HX := Lib.hid (show l[k]? = some x by rw [hx]; exact List.getElem?_eq_getElem hkl)
      have hr' := hr
      obtain ⟨A1, c2, rfl, hy, hy1, hy2, hy3, hy4⟩ := hr
      have hc0 := hc 0 _ rfl
      have hc1 := hc 1 _ rfl
      have hc2 := hc 2 _ rfl
      have hc3 := hc 3 _ rfl
      have hc4 := hc 4 _ rfl
      have hc5 := hc 5 _ rfl
      clear hc
      simp only [Rp.sz, Nat.add_zero] at hc0 hc1 hc2 hc3 hc4 hc5
      have hz := hw.size
      have hS' : ∀ b, S b → b < wr.heap.size := fun b h => Nat.lt_of_lt_of_le (hS b h) hz
      have HZ := Lib.hid hz
      have HL := Lib.hid hl.len
      clear hz hx
      by_cases hp : (l.take k).any (fun y => y.n == x.n && !likeB y x) = true
      · go_wp2_with (go_at_call 26; refine (twins1Contains wr.heap.size x _ _ _ _ _ _ S _ (htk.alloc hS' _) (fun b h => by have := hS' b h; simp; omega) (Blk.new _ _ _) (Rp.keep (Same.alloc _ _ hS') hr') (fun b h => by have := hS' b h; simp; omega)).mono ?_; rintro e w1 ⟨rfl, hw1⟩; rw [hp])
        go_ret
        exact ⟨ret_bool (allT_false (by rw [HL.out]; exact hlt) (by unfold twinF; rw [HX.out]; simp [hp])).symm, (hw.alloc HZ.out _).trans (hw1.mono (by have := HZ.out; simp; omega))⟩
      · simp only [Bool.not_eq_true] at hp
        go_wp2_with (go_at_call 26; refine (twins1Contains wr.heap.size x _ _ _ _ _ _ S _ (htk.alloc hS' _) (fun b h => by have := hS' b h; simp; omega) (Blk.new _ _ _) (Rp.keep (Same.alloc _ _ hS') hr') (fun b h => by have := hS' b h; simp; omega)).mono ?_; rintro e w1 ⟨rfl, hw1⟩; rw [hp])
        go_roundw
        case rel => exact ⟨k + 1, by omega, by go_num, allT_step HT.out (by unfold twinF; rw [HX.out]; simp [hp]), (hw.alloc HZ.out _).trans (hw1.mono (by have := HZ.out; simp; omega))⟩
        case measure => simp [intOf]; omega
    · obtain rfl : k = m := by omega
      have E : twins l = true := by unfold twins; rw [hl.len]; exact HT.out
      go_wp2
      go_ret
      exact ⟨ret_bool E.symm, hw⟩

set_option maxHeartbeats 1000000 in
theorem equalFunc (A B : Option Addr) (n m c d : Nat) (xs ys : List Call) (S T : Nat → Prop) (w : World) (hx : Sl w S A n c xs) (hy : Sl w T B m d ys) (hS : ∀ b, S b → b < w.heap.size) (hT : ∀ b, T b → b < w.heap.size) :
    Calls Try.prog 30 #[.slice A n c, .slice B m d, .func (.func 29) #[] #[]] w fun e w' => e = .returned (.bool (sameB xs ys)) ∧ Below w.heap.size w w' := by
  have h1 := hx.max
  have h2 := hx.le
  have h3 := hy.max
  have h4 := hy.le
  unfold maxLen at h1 h3
  by_cases hnm : n = m
  · subst hnm
    go_enter Try.func30, Try.ntmps30
    go_wp2
    go_loopw [17] (fun i wr => ∃ k : Nat, k ≤ n ∧ i = .int .i64 k ∧ allT (sameF xs ys) k = true ∧ Below w.heap.size w wr) (fun i _ => n - (intOf i).toNat)
    case atStart => exact ⟨0, Nat.zero_le _, rfl, rfl, Below.refl _ _⟩
    case round =>
      obtain ⟨k, hk, rfl, ht, hw⟩ := hrel
      have HT := Lib.hid ht
      clear ht
      by_cases hlt : k < n
      · have hkx : k < xs.length := by rw [hx.len]; exact hlt
        have hky : k < ys.length := by rw [hy.len]; exact hlt
        obtain ⟨b, off, cs, rfl, hSb, hplen, hpc, hpr⟩ := (hx.keep (Same.of_below hw hS)).at_ k xs[k] (List.getElem?_eq_getElem hkx)
        obtain ⟨b', off', cs', rfl, hSb', hqlen, hqc, hqr⟩ := (hy.keep (Same.of_below hw hT)).at_ k ys[k] (List.getElem?_eq_getElem hky)
        obtain ⟨x, hxk⟩ : ∃ x, x = xs[k] := ⟨_, rfl⟩
        obtain ⟨y, hyk⟩ : ∃ y, y = ys[k] := ⟨_, rfl⟩
        rw [← hxk] at hpr
        rw [← hyk] at hqr
        have HX := Lib.hid (show xs[k]? = some x by rw [hxk]; exact List.getElem?_eq_getElem hkx)
        have HY := Lib.hid (show ys[k]? = some y by rw [hyk]; exact List.getElem?_eq_getElem hky)
        have hpr' := hpr
        have hqr' := hqr
        have HL := Lib.hid hx.len
        have HZ := Lib.hid hw.size
        have hS' : ∀ b, S b → b < wr.heap.size + 1 + 1 := fun b h => by have := hS b h; have := HZ.out; omega
        have hT' : ∀ b, T b → b < wr.heap.size + 1 + 1 := fun b h => by have := hT b h; have := HZ.out; omega
        have hS0 : ∀ b, S b → b < wr.heap.size := fun b h => by have := hS b h; have := HZ.out; omega
        have hT0 : ∀ b, T b → b < wr.heap.size := fun b h => by have := hT b h; have := HZ.out; omega
        obtain ⟨A1, c1, rfl, hpy, hpy1, hpy2, hpy3, hpy4⟩ := hpr
        have hpc0 := hpc 0 _ rfl
        have hpc1 := hpc 1 _ rfl
        have hpc2 := hpc 2 _ rfl
        have hpc3 := hpc 3 _ rfl
        have hpc4 := hpc 4 _ rfl
        have hpc5 := hpc 5 _ rfl
        clear hpc
        simp only [Rp.sz, Nat.add_zero] at hpc0 hpc1 hpc2 hpc3 hpc4 hpc5
        obtain ⟨A2, c2, rfl, hqy, hqy1, hqy2, hqy3, hqy4⟩ := hqr
        have hqc0 := hqc 0 _ rfl
        have hqc1 := hqc 1 _ rfl
        have hqc2 := hqc 2 _ rfl
        have hqc3 := hqc 3 _ rfl
        have hqc4 := hqc 4 _ rfl
        have hqc5 := hqc 5 _ rfl
        clear hqc
        simp only [Rp.sz, Nat.add_zero] at hqc0 hqc1 hqc2 hqc3 hqc4 hqc5
        have hbl' := hT0 _ hSb'
        have hqd0 := fun o => (World.cell?_alloc_lt wr o ⟨b', off' + k * 6, none⟩ hbl').trans hqc0
        have hqd1 := fun o => (World.cell?_alloc_lt wr o ⟨b', off' + k * 6 + 1, none⟩ hbl').trans hqc1
        have hqd2 := fun o => (World.cell?_alloc_lt wr o ⟨b', off' + k * 6 + 2, none⟩ hbl').trans hqc2
        have hqd3 := fun o => (World.cell?_alloc_lt wr o ⟨b', off' + k * 6 + 3, none⟩ hbl').trans hqc3
        have hqd4 := fun o => (World.cell?_alloc_lt wr o ⟨b', off' + k * 6 + 4, none⟩ hbl').trans hqc4
        have hqd5 := fun o => (World.cell?_alloc_lt wr o ⟨b', off' + k * 6 + 5, none⟩ hbl').trans hqc5
        clear hxk hyk
        have hbw : ∀ o1 o2, Below w.heap.size w ((wr.alloc o1).alloc o2) := fun o1 o2 => (hw.alloc HZ.out _).alloc (by have := HZ.out; simp; omega) _
        by_cases hp : likeB x y = true
        · go_wp2_with (go_at_call 29; refine (judgeSame x y S T _ _ _ (Rp.keep ((Same.alloc wr _ hS0).trans (Same.alloc _ _ (by simpa using fun b h => Nat.lt_succ_of_lt (hS0 b h)))) hpr') (Rp.keep ((Same.alloc wr _ hT0).trans (Same.alloc _ _ (by simpa using fun b h => Nat.lt_succ_of_lt (hT0 b h)))) hqr') (by simpa using hS') (by simpa using hT')).mono ?_; rintro e w1 ⟨rfl, hw1⟩; rw [hp])
          go_roundw
          case rel => exact ⟨k + 1, by omega, by go_num, allT_step HT.out (by unfold sameF; rw [HX.out, HY.out]; exact hp), (hbw _ _).trans (hw1.mono (by have := HZ.out; simp; omega))⟩
          case measure => simp [intOf]; omega
        · simp only [Bool.not_eq_true] at hp
          go_wp2_with (go_at_call 29; refine (judgeSame x y S T _ _ _ (Rp.keep ((Same.alloc wr _ hS0).trans (Same.alloc _ _ (by simpa using fun b h => Nat.lt_succ_of_lt (hS0 b h)))) hpr') (Rp.keep ((Same.alloc wr _ hT0).trans (Same.alloc _ _ (by simpa using fun b h => Nat.lt_succ_of_lt (hT0 b h)))) hqr') (by simpa using hS') (by simpa using hT')).mono ?_; rintro e w1 ⟨rfl, hw1⟩; rw [hp])
          go_ret
          exact ⟨ret_bool (by rw [sameB, allT_false (f := sameF xs ys) (k := k) (by rw [HL.out]; exact hlt) (by unfold sameF; rw [HX.out, HY.out]; exact hp), Bool.and_false]), (hbw _ _).trans (hw1.mono (by have := HZ.out; simp; omega))⟩
      · obtain rfl : k = n := by omega
        have E : sameB xs ys = true := by unfold sameB; rw [hx.len, hy.len, HT.out]; simp
        go_wp2
        go_ret
        exact ⟨ret_bool E.symm, hw⟩
  · have E : sameB xs ys = false := by unfold sameB; rw [hx.len, hy.len]; simp [hnm]
    go_enter Try.func30, Try.ntmps30
    go_wp2
    go_ret
    exact ⟨ret_bool E.symm, Below.refl _ _⟩

theorem judgeSameL (A B : Option Addr) (n m c d : Nat) (xs ys : List Call) (S T : Nat → Prop) (w : World) (hx : Sl w S A n c xs) (hy : Sl w T B m d ys) (hS : ∀ b, S b → b < w.heap.size) (hT : ∀ b, T b → b < w.heap.size) :
    Calls Try.prog 23 #[.slice A n c, .slice B m d] w fun e w' => e = .returned (.bool (sameB xs ys)) ∧ Below w.heap.size w w' := by
  go_enter Try.func23, Try.ntmps23
  go_wp2_with (go_at_call 30; refine (equalFunc _ _ _ _ _ _ _ _ _ _ _ hx hy hS hT).mono ?_; rintro e w1 ⟨rfl, hw1⟩)
  go_ret
  exact ⟨rfl, hw1⟩

end Go.Proofs.Ytlbgnakpcjibjaa
