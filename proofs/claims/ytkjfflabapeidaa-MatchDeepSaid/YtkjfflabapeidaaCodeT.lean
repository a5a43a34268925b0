/-
  How many enclose a place; deep blocks: plain words.
-/
import Derived.Test.YtkjfflabapeidaaM7
namespace Go.Proofs.Ytkjfflabapeidaa
open Go.RowKit Go.ChangeShapes Go.WideShapes Go.ChangeAt Go.Deep
set_option linter.unusedSimpArgs false
set_option linter.unusedVariables false

/-- what holds of the blocks so far -/
structure MOk3 (j : Nat) (s : MS) : Prop where
  cl : ∀ k b, s.all[k]? = some b → k ∉ s.opn → 0 ≤ b.en ∧ b.en < (j : Int)
  op : ∀ k b, s.all[k]? = some b → k ∈ s.opn → b.en = -1
  els : ∀ b ∈ s.all, b.els < (j : Int)
  inc : (s.all.map Bk.at_).Pairwise (· < ·)
  cnt : s.all.countP (fun b => decide (b.en < 0)) = s.opn.length
theorem map_at {all : List Bk} {k : Nat} {b b' : Bk} (hb : all[k]? = some b) (h : b'.at_ = b.at_) : (all.set k b').map Bk.at_ = all.map Bk.at_ := by
  obtain ⟨hk, hx⟩ := List.getElem?_eq_some_iff.1 hb
  rw [List.map_set, h, ← hx]
  have : (all.map Bk.at_)[k]'(by simpa using hk) = all[k].at_ := by simp
  rw [← this, List.set_getElem_self]
theorem count_set {α : Type} {p : α → Bool} {all : List α} {k : Nat} {b b' : α} (hb : all[k]? = some b) : (all.set k b').countP p + (if p b = true then 1 else 0) = all.countP p + (if p b' = true then 1 else 0) := by
  obtain ⟨hk, hx⟩ := List.getElem?_eq_some_iff.1 hb
  rw [List.countP_set hk, hx]
  have : (if p b = true then 1 else 0) ≤ all.countP p := by
    split
    · next h => exact List.countP_pos_iff.2 ⟨b, List.mem_of_getElem? hb, h⟩
    · exact Nat.zero_le _
  omega
theorem mstep_ok3 {ops : List Int} {j : Nat} {s s' : MS} {op : Int} (h1 : MOk j s) (h2 : MOk2 s) (h3 : MOk3 j s) (hs : mstep ops s j op = some s') : MOk3 (j + 1) s' := by
  obtain ⟨all, opn⟩ := s
  have hk := h1.opn
  have hat := h1.at_
  have hinc := h2.inc
  obtain ⟨c1, c2, c3, c4, c5⟩ := h3
  dsimp only at hk hat hinc c1 c2 c3 c4 c5
  by_cases hO : isO op = true
  · by_cases h40 : opn.length = 40
    · rw [step_full hO h40] at hs; cases hs
    · rw [step_open hO h40] at hs
      obtain rfl := Option.some.inj hs
      constructor <;> dsimp only
      · intro k b hb hn
        have hkl : k < all.length := by
          have := (List.getElem?_eq_some_iff.1 hb).1
          simp at this hn; omega
        rw [List.getElem?_append_left hkl] at hb
        have := c1 k b hb (fun h => hn (List.mem_append_left _ h)); omega
      · intro k b hb hn
        rcases List.mem_append.1 hn with hn | hn
        · rw [List.getElem?_append_left (hk k hn)] at hb; exact c2 k b hb hn
        · rw [List.mem_singleton.1 hn] at hb; simp at hb; subst hb; rfl
      · intro b hb
        rcases List.mem_append.1 hb with hb | hb
        · have := c3 b hb; omega
        · rw [List.mem_singleton.1 hb]; show (-1 : Int) < _; omega
      · rw [List.map_append]
        refine List.pairwise_append.2 ⟨c4, by simp, fun a ha b hb => ?_⟩
        obtain ⟨x, hx, rfl⟩ := List.mem_map.1 ha
        rw [show b = j by simpa using hb]; exact hat x hx
      · rw [List.countP_append, c5]; simp [List.countP_cons]
  have hO : isO op = false := by simpa using hO
  by_cases h5 : op ≠ 5 ∧ op ≠ 11
  · rw [step_skip hO h5.1 h5.2] at hs
    obtain rfl := Option.some.inj hs
    exact ⟨fun k b hb hn => by have := c1 k b hb hn; omega, c2, fun b hb => by have := c3 b hb; omega, c4, c5⟩
  rw [step_top hO (by omega)] at hs
  rcases List.eq_nil_or_concat opn with rfl | ⟨pre, k, rfl⟩
  · rw [top_none] at hs; cases hs
  rw [List.concat_eq_append] at *
  have hkl := hk k (by simp)
  have hpre : ∀ x ∈ pre, x < k := fun x hx => (List.pairwise_append.1 hinc).2.2 x hx k (by simp)
  obtain ⟨b, hb⟩ : ∃ b, all[k]? = some b := ⟨_, List.getElem?_eq_getElem hkl⟩
  have hen := c2 k b hb (by simp)
  rcases (show op = 11 ∨ op = 5 by omega) with rfl | rfl
  · rw [top_end hb] at hs
    obtain rfl := Option.some.inj hs
    constructor <;> dsimp only
    · intro k' b' hb' hn
      by_cases hkk : k' = k
      · subst hkk
        rw [List.getElem?_set_self hkl] at hb'
        obtain rfl := Option.some.inj hb'
        dsimp only; omega
      · rw [List.getElem?_set_ne (Ne.symm hkk)] at hb'
        have := c1 k' b' hb' (by simp; exact ⟨hn, hkk⟩); omega
    · intro k' b' hb' hn
      have := hpre k' hn
      rw [List.getElem?_set_ne (by omega)] at hb'
      exact c2 k' b' hb' (by simp [hn])
    · intro x hx
      rcases List.mem_or_eq_of_mem_set hx with hx | rfl
      · have := c3 x hx; omega
      · have := c3 b (List.mem_of_getElem? hb); dsimp only; omega
    · rw [map_at (b' := ⟨b.at_, b.els, j⟩) hb rfl]; exact c4
    · have := count_set (p := fun b => decide (b.en < 0)) (b' := ⟨b.at_, b.els, j⟩) hb
      rw [c5] at this
      simp [hen] at this
      rw [if_neg (by omega)] at this
      omega
  · by_cases hc : ops[b.at_]? = some 4 ∧ ¬ 0 ≤ b.els
    · rw [top_else hb hc.1 hc.2] at hs
      obtain rfl := Option.some.inj hs
      constructor <;> dsimp only
      · intro k' b' hb' hn
        have hkk : k' ≠ k := by intro e; subst e; simp at hn
        rw [List.getElem?_set_ne (Ne.symm hkk)] at hb'
        have := c1 k' b' hb' hn; omega
      · intro k' b' hb' hn
        by_cases hkk : k' = k
        · subst hkk
          rw [List.getElem?_set_self hkl] at hb'
          obtain rfl := Option.some.inj hb'
          exact hen
        · rw [List.getElem?_set_ne (Ne.symm hkk)] at hb'
          exact c2 k' b' hb' hn
      · intro x hx
        rcases List.mem_or_eq_of_mem_set hx with hx | rfl
        · have := c3 x hx; omega
        · dsimp only; omega
      · rw [map_at (b' := ⟨b.at_, j, b.en⟩) hb rfl]; exact c4
      · have := count_set (p := fun b => decide (b.en < 0)) (b' := ⟨b.at_, j, b.en⟩) hb
        rw [c5] at this
        dsimp only at this
        omega
    · have hc' : ops[b.at_]? ≠ some 4 ∨ 0 ≤ b.els := by
        by_cases h4 : ops[b.at_]? = some 4
        · exact .inr (by by_cases h0 : 0 ≤ b.els; exact h0; exact absurd ⟨h4, h0⟩ hc)
        · exact .inl h4
      rw [top_bad hb hc'] at hs; cases hs
theorem mrun_ok3 {ops : List Int} : ∀ {j : Nat} {s : MS}, mrun ops j = some s → MOk3 j s
  | 0, s, h => by
    obtain rfl := Option.some.inj h
    exact ⟨by simp, by simp, by simp, by simp, rfl⟩
  | j + 1, s, h => by
    rw [mrun] at h
    split at h
    · next s0 op h1 h2 => exact mstep_ok3 (mrun_ok h1) (mrun_ok2 h1) (mrun_ok3 h1) h
    · cases h
/-- around a place, as far as it is known -/
def actP (i : Nat) (b : Bk) : Bool := decide (b.at_ < i) && (decide (b.en < 0) || decide ((i : Int) < b.en)) && (b.els != (i : Int))
def act (i : Nat) (s : MS) : Nat := s.all.countP (actP i)
theorem act_first {i : Nat} {s : MS} (h1 : MOk i s) (h3 : MOk3 i s) : act i s = s.opn.length := by
  rw [← h3.cnt]
  refine List.countP_congr fun b hb => ?_
  have e1 := h1.at_ b hb
  have e2 := h3.els b hb
  obtain ⟨k, hk⟩ := List.getElem?_of_mem hb
  by_cases ho : k ∈ s.opn
  · have := h3.op k b hk ho
    simp [actP]; omega
  · have := h3.cl k b hk ho
    simp [actP]; omega
/-- one step -/
theorem act_step {ops : List Int} {i j : Nat} {s s' : MS} {op : Int} (hij : i ≤ j) (h1 : MOk j s) (h3 : MOk3 j s) (hs : mstep ops s j op = some s') :
    act i s = act i s' + (if j = i ∧ (op = 5 ∨ op = 11) then 1 else 0) := by
  obtain ⟨all, opn⟩ := s
  have hk := h1.opn
  have hat := h1.at_
  obtain ⟨c1, c2, c3, c4, c5⟩ := h3
  dsimp only at hk hat c1 c2 c3 c4 c5
  by_cases hO : isO op = true
  · have : ¬ (op = 5 ∨ op = 11) := by unfold isO at hO; simp at hO; omega
    rw [if_neg (fun h => this h.2)]
    by_cases h40 : opn.length = 40
    · rw [step_full hO h40] at hs; cases hs
    · rw [step_open hO h40] at hs
      obtain rfl := Option.some.inj hs
      unfold act
      dsimp only
      rw [List.countP_append]
      have : actP i ⟨j, -1, -1⟩ = false := by simp [actP]; omega
      simp [List.countP_cons, this]
  have hO : isO op = false := by simpa using hO
  by_cases h5 : op ≠ 5 ∧ op ≠ 11
  · rw [step_skip hO h5.1 h5.2] at hs
    obtain rfl := Option.some.inj hs
    rw [if_neg (by omega)]; rfl
  rw [step_top hO (by omega)] at hs
  rcases List.eq_nil_or_concat opn with rfl | ⟨pre, k, rfl⟩
  · rw [top_none] at hs; cases hs
  rw [List.concat_eq_append] at *
  have hkl := hk k (by simp)
  obtain ⟨b, hb⟩ : ∃ b, all[k]? = some b := ⟨_, List.getElem?_eq_getElem hkl⟩
  have hen := c2 k b hb (by simp)
  have hbe := c3 b (List.mem_of_getElem? hb)
  have hba := hat b (List.mem_of_getElem? hb)
  rcases (show op = 11 ∨ op = 5 by omega) with rfl | rfl
  · rw [top_end hb] at hs
    obtain rfl := Option.some.inj hs
    have := count_set (p := actP i) (b' := ⟨b.at_, b.els, j⟩) hb
    unfold act
    dsimp only
    by_cases hji : j = i
    · subst hji
      rw [if_pos (show actP j b = true by simp [actP]; omega), if_neg (by simp [actP]; omega)] at this
      rw [if_pos ⟨rfl, .inr rfl⟩]; omega
    · rw [show actP i ⟨b.at_, b.els, j⟩ = actP i b by
        unfold actP
        dsimp only
        rw [hen, decide_eq_true (show (i : Int) < (j : Int) by omega), decide_eq_true (show (-1 : Int) < 0 by decide), Bool.or_true, Bool.true_or]] at this
      rw [if_neg (fun h => hji h.1)]; omega
  · by_cases hc : ops[b.at_]? = some 4 ∧ ¬ 0 ≤ b.els
    · rw [top_else hb hc.1 hc.2] at hs
      obtain rfl := Option.some.inj hs
      have := count_set (p := actP i) (b' := ⟨b.at_, j, b.en⟩) hb
      unfold act
      dsimp only
      by_cases hji : j = i
      · subst hji
        rw [if_pos (show actP j b = true by simp [actP]; omega), if_neg (by simp [actP])] at this
        rw [if_pos ⟨rfl, .inl rfl⟩]; omega
      · rw [show actP i ⟨b.at_, j, b.en⟩ = actP i b by
          unfold actP
          dsimp only
          rw [show (((j : Nat) : Int) != (i : Int)) = true by simp; omega, show (b.els != (i : Int)) = true by simp; omega]] at this
        rw [if_neg (fun h => hji h.1)]; omega
    · have hc' : ops[b.at_]? ≠ some 4 ∨ 0 ≤ b.els := by
        by_cases h4 : ops[b.at_]? = some 4
        · exact .inr (by by_cases h0 : 0 ≤ b.els; exact h0; exact absurd ⟨h4, h0⟩ hc)
        · exact .inl h4
      rw [top_bad hb hc'] at hs; cases hs
theorem act_run {ops : List Int} {i : Nat} {s : MS} {op : Int} (hi : mrun ops i = some s) (ho : ops[i]? = some op) : ∀ (d : Nat) (t : MS), mrun ops (i + 1 + d) = some t → s.opn.length = act i t + (if op = 5 ∨ op = 11 then 1 else 0)
  | 0, t, h => by
    rw [Nat.add_zero, mrun_next hi ho] at h
    have := act_step (Nat.le_refl i) (mrun_ok hi) (mrun_ok3 hi) h
    rw [act_first (mrun_ok hi) (mrun_ok3 hi)] at this
    simpa using this
  | d + 1, t, h => by
    rw [← Nat.add_assoc, mrun] at h
    split at h
    · next s0 op0 h1 h2 =>
      have ih := act_run hi ho d s0 h1
      have := act_step (i := i) (by omega) (mrun_ok h1) (mrun_ok3 h1) h
      rw [if_neg (by omega)] at this
      omega
    · cases h
/-- as many enclose a place as are open there, but for the one that it turns or ends -/
theorem tg_len {ops : List Int} (h : okN ops = true) {i : Nat} {s : MS} {op : Int} (hi : mrun ops i = some s) (ho : ops[i]? = some op) : s.opn.length = (tgN ops i).length + (if op = 5 ∨ op = 11 then 1 else 0) := by
  have hil := (List.getElem?_eq_some_iff.1 ho).1
  obtain ⟨all, hr⟩ := okN_run h
  have hl := okN_len h
  have hB : blN ops = all := by unfold blN matchN; rw [if_neg (by omega), hr]; rfl
  have ha := act_run hi ho (ops.length - (i + 1)) ⟨all, []⟩ (by rw [show i + 1 + (ops.length - (i + 1)) = ops.length by omega]; exact hr)
  have h3 := mrun_ok3 hr
  rw [ha]
  congr 1
  unfold tgN act
  rw [if_neg (by omega), hB, List.length_reverse, List.length_map, List.countP_eq_length_filter]
  congr 1
  refine List.filter_congr fun b hb => ?_
  obtain ⟨k, hk⟩ := List.getElem?_of_mem hb
  have := h3.cl k b hk (by simp)
  unfold actP inB
  rw [decide_eq_false (p := b.en < 0) (by omega), Bool.false_or, show (b.els != (i : Int)) = ((i : Int) != b.els) by simp [bne, eq_comm]; exact Bool.beq_comm]
  congr 2
  simp
theorem tg_dec (ops : List Int) (a : Int) : (tgN ops a).Pairwise (fun x y => y < x) := by
  unfold tgN
  split
  · exact List.Pairwise.nil
  rw [List.pairwise_reverse, List.pairwise_map]
  refine List.Pairwise.filter _ ?_
  unfold blN matchN
  split
  · exact List.Pairwise.nil
  split
  · next all h =>
    have := (mrun_ok3 h).inc
    rw [List.pairwise_map] at this
    exact this.imp fun h => by omega
  · exact List.Pairwise.nil
/-! ### deep blocks -/
def deepN (n pad : Nat) : List Int := (List.range n).map (fun i => (2 : Int) + (i % 2 : Nat)) ++ List.replicate pad 1 ++ List.replicate n 11
theorem arun_skip {L m : Nat} {op : Int} {S : List Bool} (h1 : isO op = false) (h2 : op ≠ 5) (h3 : op ≠ 11) : arun L (List.replicate m op) S = some S := by
  induction m with
  | zero => rfl
  | succ m ih =>
    rw [List.replicate_succ, arun]
    unfold astep
    rw [if_neg (by simp [h1]), if_pos ⟨h2, h3⟩]
    exact ih
theorem o23 (i : Nat) : isO ((2 : Int) + (i % 2 : Nat)) = true ∧ (((2 : Int) + (i % 2 : Nat)) == 4) = false := by
  rcases Nat.mod_two_eq_zero_or_one i with h | h <;> rw [h] <;> decide
theorem arun_opens {n : Nat} (h : n ≤ 40) : arun 40 ((List.range n).map (fun i => (2 : Int) + (i % 2 : Nat))) [] = some (List.replicate n false) := by
  induction n with
  | zero => rfl
  | succ n ih =>
    rw [List.range_succ, List.map_append, arun_app (ih (by omega))]
    rw [List.map_cons, List.map_nil, arun_one, a_open (o23 n).1 (by simp; omega), (o23 n).2, List.replicate_succ']
theorem arun_opens_none {n : Nat} (h : 40 < n) : arun 40 ((List.range n).map (fun i => (2 : Int) + (i % 2 : Nat))) [] = none := by
  obtain ⟨m, rfl⟩ : ∃ m, n = 41 + m := ⟨n - 41, by omega⟩
  induction m with
  | zero =>
    rw [List.range_succ, List.map_append, arun_app (arun_opens (Nat.le_refl 40))]
    rw [List.map_cons, List.map_nil, arun_one]
    unfold astep
    rw [if_pos (o23 _).1, if_pos (by simp)]
  | succ m ih =>
    rw [← Nat.add_assoc, List.range_succ, List.map_append]
    exact arun_none (ih (by omega))
theorem arun_ends {L : Nat} : ∀ {n : Nat}, arun L (List.replicate n 11) (List.replicate n false) = some []
  | 0 => rfl
  | n + 1 => by
    rw [List.replicate_succ, arun, List.replicate_succ', a_end]
    exact arun_ends
theorem deep_ok (n pad : Nat) : okN (deepN n pad) = decide (n ≤ 40 ∧ 2 * n + pad ≤ 300) := by
  have hl : (deepN n pad).length = 2 * n + pad := by simp [deepN]; omega
  by_cases hn : n ≤ 40
  · have hr : arun 40 (deepN n pad) [] = some [] := by
      unfold deepN
      rw [List.append_assoc, arun_app (arun_opens hn), arun_app (arun_skip (by decide) (by decide) (by decide))]
      exact arun_ends
    by_cases h3 : 2 * n + pad ≤ 300
    · rw [decide_eq_true ⟨hn, h3⟩]; exact okN_iff.2 ⟨by omega, hr⟩
    · rw [decide_eq_false (fun h => h3 h.2)]
      rw [← Bool.not_eq_true]; intro h; exact h3 (by have := (okN_iff.1 h).1; omega)
  · rw [decide_eq_false (fun h => hn h.1), ← Bool.not_eq_true]
    intro h
    have := (okN_iff.1 h).2
    unfold deepN at this
    rw [List.append_assoc, arun_none (arun_opens_none (by omega))] at this
    cases this
theorem mstep_all {ops : List Int} {s s' : MS} {i : Nat} {op : Int} (h : mstep ops s i op = some s') : s'.all.length = s.all.length + (if isO op = true then 1 else 0) := by
  unfold mstep at h
  split at h
  · next ho =>
    split at h
    · cases h
    · obtain rfl := Option.some.inj h; rw [if_pos ho]; simp
  next ho =>
  rw [if_neg ho]
  split at h
  · obtain rfl := Option.some.inj h; rfl
  unfold mtop at h
  split at h
  · cases h
  split at h
  · cases h
  split at h
  · obtain rfl := Option.some.inj h; simp
  split at h
  · cases h
  · obtain rfl := Option.some.inj h; simp
theorem mrun_all {ops : List Int} : ∀ {j : Nat} {s : MS}, mrun ops j = some s → s.all.length = (ops.take j).countP isO
  | 0, s, h => by obtain rfl := Option.some.inj h; simp
  | j + 1, s, h => by
    rw [mrun] at h
    split at h
    · next s0 op h1 h2 =>
      rw [mstep_all h, mrun_all h1, List.take_add_one, h2, List.countP_append]
      simp [List.countP_cons]
    · cases h
theorem blN_len {ops : List Int} (h : okN ops = true) : (blN ops).length = ops.countP isO := by
  obtain ⟨all, hr⟩ := okN_run h
  have hl := okN_len h
  have hB : blN ops = all := by unfold blN matchN; rw [if_neg (by omega), hr]; rfl
  have := mrun_all hr
  rw [List.take_length] at this
  rw [hB]; exact this
theorem deep_len {n pad : Nat} (h : okN (deepN n pad) = true) : (blN (deepN n pad)).length = n := by
  rw [blN_len h]
  unfold deepN
  rw [List.countP_append, List.countP_append, List.countP_map, List.countP_replicate, List.countP_replicate]
  rw [if_neg (by decide), if_neg (by decide), show List.countP (isO ∘ fun i : Nat => (2 : Int) + (i % 2 : Nat)) (List.range n) = (List.range n).length from List.countP_eq_length.2 fun i _ => (o23 i).1]
  simp
end Go.Proofs.Ytkjfflabapeidaa
