/-
  The symbolic layer: a region that draws its order. The loud operations come in one order; the others are taken as early as they can be. No program is named here.
-/
import Derived.Test.YtkjfflabapeidaaSymG
namespace Go.Proofs.Ytkjfflabapeidaa
open Go.RowKit Go.ChangeShapes Go.WideShapes Go.ChangeAt Go.Deep
set_option linter.unusedSimpArgs false
set_option linter.unusedVariables false

section
variable {P : Program} {ops : Array Oper} {Q : Exit → Act → World → Prop} {md : Region.Mode}

/-- Whatever order is picked from here on; operation j leaves the blocks H j as they are. -/
def wpAnyC (P : Program) (md : Region.Mode) (ops : Array Oper) (Q : Exit → Act → World → Prop) (H : Nat → Nat → Prop) : Nat → Array Bool → Act → World → Prop
  | 0, listed, a, w => Region.ready md ops listed = [] ∧ Q .normal a w
  | fuel + 1, listed, a, w =>
    (Region.ready md ops listed = [] → Q .normal a w) ∧
    ∀ i ∈ Region.ready md ops listed, wpOp P ops Q i (fun a' w' => (∀ g, H i g → g < w.heap.size → w'.heap[g]? = w.heap[g]?) ∧ wpAnyC P md ops Q H fuel (listed.setIfInBounds i true) a' w') a w

theorem wpAny_of_C {H : Nat → Nat → Prop} : ∀ (fuel : Nat) (listed : Array Bool) (a : Act) (w : World), wpAnyC P md ops Q H fuel listed a w → wpAny P md ops Q fuel listed a w
  | 0, _, _, _, h => h
  | fuel + 1, _, _, _, h => ⟨h.1, fun i hi => wpOp_mono (fun a' w' h' => wpAny_of_C fuel _ a' w' h'.2) (h.2 i hi)⟩
theorem wpOp_monoQ {Q' : Exit → Act → World → Prop} {i : Nat} {a : Act} {w : World} {K K' : Act → World → Prop} (h : ∀ a w, K a w → K' a w) (hQ : ∀ e a w, Q e a w → Q' e a w) (hh : wpOp P ops Q i K a w) : wpOp P ops Q' i K' a w := by
  unfold wpOp at *
  split
  · exact h _ _ (by simpa [*] using hh)
  · rename_i o ho
    simp only [ho] at hh
    split
    · rename_i hw
      simp only [hw, if_true] at hh
      exact hh.imp (Oper.wp_monoQ h hQ) (fun ⟨h1, a0, w0, h2⟩ => ⟨h1, a0, w0, hQ _ _ _ h2⟩)
    · rename_i hw
      simp only [hw] at hh
      exact h _ _ hh
theorem wpAnyC_mono {H H' : Nat → Nat → Prop} {Q' : Exit → Act → World → Prop} (hQ : ∀ e a w, Q e a w → Q' e a w) (hH : ∀ j g, H' j g → H j g) : ∀ (fuel : Nat) (listed : Array Bool) (a : Act) (w : World), wpAnyC P md ops Q H fuel listed a w → wpAnyC P md ops Q' H' fuel listed a w
  | 0, _, _, _, h => ⟨h.1, hQ _ _ _ h.2⟩
  | fuel + 1, _, _, _, h => ⟨fun hr => hQ _ _ _ (h.1 hr), fun i hi => wpOp_monoQ (fun a' w' h' => ⟨fun g hg => h'.1 g (hH i g hg), wpAnyC_mono hQ hH fuel _ a' w' h'.2⟩) hQ (h.2 i hi)⟩

theorem wpAnyC_first {C : World → Prop} {H H' : Nat → Nat → Prop} {i : Nat} {oi : Oper} {v : Value} (hi : ops[i]? = some oi) (hsel : ∀ (j : Nat) (o : Oper) cs b, ops[j]? = some o → o.op ≠ .select cs b)
    (hQ : ∀ c a w, Q (.panic c) (a.put oi.dst v) w → Q (.panic c) a w) (hHH : ∀ j g, H j g → H' j g)
    (hE : ∀ (j : Nat) (oj : Oper) (w w' : World), ops[j]? = some oj → j ≠ i → (∀ e ∈ oj.after, Region.binds md e = true → e.on ≠ i) → (∀ g, H' j g → g < w.heap.size → w'.heap[g]? = w.heap[g]?) → C w → C w') :
    ∀ (fuel : Nat) (listed : Array Bool) (a : Act) (w : World),
      (∀ j oj, ops[j]? = some oj → j ≠ i → listed.getD j true = false → (∀ e ∈ oj.after, Region.binds md e = true → e.on ≠ i) → oi.apart ops oj = true) →
      i ∈ Region.ready md ops listed → YieldsIf P ops C oi v a → C w →
      wpAnyC P md ops Q H' fuel (listed.setIfInBounds i true) (a.put oi.dst v) w → wpAnyC P md ops Q H (fuel + 1) listed a w := by
  intro fuel
  induction fuel with
  | zero =>
    intro listed a w _ hr hy hS HH
    refine ⟨fun h => (by rw [h] at hr; cases hr), fun j hj => ?_⟩
    by_cases hji : j = i
    · subst hji; exact hy.wpOp hi hS ⟨fun _ _ _ => rfl, HH⟩
    · have := ready_mono hj hji
      rw [HH.1] at this
      cases this
  | succ fuel ih =>
    intro listed a w hfree hr hy hS HH
    refine ⟨fun h => (by rw [h] at hr; cases hr), fun j hj => ?_⟩
    by_cases hji : j = i
    · subst hji
      exact hy.wpOp hi hS ⟨fun _ _ _ => rfl, wpAnyC_mono (fun _ _ _ h => h) hHH _ _ _ _ HH⟩
    · have h1 := HH.2 j (ready_mono hj hji)
      obtain ⟨hjun, oj, hoj, hall⟩ := mem_ready.1 hj
      have hnot : ∀ e ∈ oj.after, Region.binds md e = true → e.on ≠ i := fun e he hb heq => by
        have h1 := hall e he hb
        have h0 := (mem_ready.1 hr).1
        rw [heq] at h1
        rcases Nat.lt_or_ge i listed.size with h' | h'
        · simp [h'] at h0 h1; rw [h0] at h1; cases h1
        · simp [Array.getElem?_eq_none h'] at h1
      have h2 := wpOp_putIf hoj (hfree j oj hoj hji hjun hnot) (fun cs b => hsel i oi cs b hi) (fun cs b => hsel j oj cs b hoj) hQ hy h1
      have hfree' : ∀ k ok, ops[k]? = some ok → k ≠ i → (listed.setIfInBounds j true).getD k true = false →
          (∀ e ∈ ok.after, Region.binds md e = true → e.on ≠ i) → oi.apart ops ok = true := fun k ok hk hki hun hno => by
        refine hfree k ok hk hki ?_ hno
        by_cases hjk : j = k
        · subst hjk; exact hjun
        · rw [getD_set_ne true hjk] at hun; exact hun
      refine wpOp_mono (fun a' w' h3 => ?_) h2
      have hSw : C w' := hE j oj w w' hoj hji hnot h3.2.1 hS
      refine ⟨fun g hg => h3.2.1 g (hHH j g hg), ih (listed.setIfInBounds j true) a' w' hfree' (ready_mono hr (Ne.symm hji)) h3.1 hSw ?_⟩
      rw [Array.setIfInBounds_comm _ _ hji]
      exact h3.2.2
end

/-- what operation j must not turn: what the operations that came before it have read, but for those that it waits for -/
def heldBy (ops : Array Oper) (held : List (Nat × List Nat)) (j : Nat) : List Nat :=
  held.flatMap fun p => if ((ops[j]?).map fun o => o.after.any fun e => Region.binds .any e && e.on == p.1).getD false then [] else p.2
def Hd (ops : Array Oper) (M : Mp) (F : Nat → Prop) (held : List (Nat × List Nat)) (j g : Nat) : Prop := F g ∨ ∃ r ∈ heldBy ops held j, blkOf M r = some g

/-- the order as it is walked; true: the operation only looks -/
def chkB (ops : Array Oper) : Array Bool → List (Nat × Bool) → Bool
  | listed, [] => (Region.ready .any ops listed).isEmpty
  | listed, (i, l) :: rest => decide (ops.size ≤ i) || ((if l then (Region.ready .any ops listed).contains i && Region.free .any ops listed i else Region.ready .any ops listed == [i]) && chkB ops (listed.setIfInBounds i true) rest)
theorem chkB_cons {ops : Array Oper} {listed : Array Bool} {i : Nat} {l : Bool} {rest : List (Nat × Bool)} {o : Oper} (hi : ops[i]? = some o) (hc : chkB ops listed ((i, l) :: rest) = true) :
    (if l then (Region.ready .any ops listed).contains i && Region.free .any ops listed i else Region.ready .any ops listed == [i]) = true ∧ chkB ops (listed.setIfInBounds i true) rest = true := by
  have hlt : ¬ ops.size ≤ i := by have := (Array.getElem?_eq_some_iff.1 hi).1; omega
  rw [chkB, decide_eq_false hlt, Bool.false_or, Bool.and_eq_true] at hc
  exact hc

def RD (P : Program) (n : Nat) (ops : Array Oper) (listed : Array Bool) (todo : List (Nat × Bool)) (held : List (Nat × List Nat)) (s : ASt) (K : ASt → Prop) : Prop :=
  Region.noSelect ops = true → chkB ops listed todo = true → ∀ (M : Mp) (F : Nat → Prop) (N : Nat) (a : Act) (w : World), Rel M F N n s a w →
    wpAnyC P .any ops (PostN n M F N w s.σ K) (Hd ops M F held) todo.length listed a w

section
variable {P : Program} {n : Nat} {ops : Array Oper} {listed : Array Bool} {todo : List (Nat × Bool)} {held : List (Nat × List Nat)} {s : ASt} {K : ASt → Prop} {op : Op} {ty : TypeId} {pos : String} {af : Array Edge} {i : Nat}

theorem rd_nil (h : K s) : RD P n ops listed [] held s K := by
  intro _ hc M F N a w hr
  have : Region.ready .any ops listed = [] := by simpa [chkB] using hc
  exact ⟨this, M, F, N, s, hr, Ext.refl _ _ _ _ _, h⟩

/-- one operation that looks, whatever its guard -/
theorem rd_look {d : Nat} {g : Option (Nat × Bool)} {v : AV} {rs : List Nat} (hrs : ∀ r ∈ rs, ∃ p ∈ s.σ, p.1 = r) (hi : ops[i]? = some ⟨some d, op, ty, pos, af, g⟩) (hd : d < n)
    (hy : ∀ (M : Mp) (F : Nat → Prop) (N : Nat) (a : Act) (w : World), Rel M F N n s a w → ∃ u, VR M F w v u ∧ YieldsIf P ops (fun w' => ∀ b, (F b ∨ ∃ r ∈ rs, blkOf M r = some b) → w'.heap[b]? = w.heap[b]?) ⟨some d, op, ty, pos, af, g⟩ u a)
    (hK : RD P n ops (listed.setIfInBounds i true) todo ((i, rs) :: held) (s.put d v) K) : RD P n ops listed ((i, true) :: todo) held s K := by
  intro hsel hc M F N a w hr
  obtain ⟨hc0, hc3⟩ := chkB_cons hi hc
  simp only [if_true, Bool.and_eq_true] at hc0
  obtain ⟨hc1, hc2⟩ := hc0
  obtain ⟨u, hu, hyy⟩ := hy M F N a w hr
  have hrest := hK hsel hc3 M F N _ w (hr.put hd hu)
  refine wpAnyC_first (H' := Hd ops M F ((i, rs) :: held)) hi (Region.noSelect_spec hsel) (fun c a w h => h) ?_ ?_ todo.length listed a w (Region.free_spec hi hc2) (by simpa using hc1) hyy (fun _ _ => rfl) hrest
  · rintro j g (h | ⟨r, hr, hg⟩)
    · exact .inl h
    · exact .inr ⟨r, by simp only [heldBy, List.flatMap_cons] at hr ⊢; exact List.mem_append_right _ hr, hg⟩
  · intro j oj w1 w2 hj _ hno hH hC b hb
    have hlt : b < w.heap.size := by
      rcases hb with hb | ⟨r, hrr, hg⟩
      · exact hr.st.flt b hb
      · obtain ⟨p, hp, rfl⟩ := hrs r hrr
        exact (hr.st.ent p hp).lt hg
    have hlt1 : b < w1.heap.size := by
      have h1 := hC b hb
      rw [Array.getElem?_eq_getElem hlt] at h1
      exact (Array.getElem?_eq_some_iff.1 h1).1
    refine (hH b ?_ hlt1).trans (hC b hb)
    rcases hb with hb | ⟨r, hr, hg⟩
    · exact .inl hb
    · refine .inr ⟨r, ?_, hg⟩
      simp only [heldBy, List.flatMap_cons]
      refine List.mem_append_left _ ?_
      have hw : ((ops[j]?).map fun o => o.after.any fun e => Region.binds .any e && e.on == i).getD false = false := by
        rw [hj]
        simp only [Option.map_some, Option.getD_some]
        rw [Bool.eq_false_iff]
        intro hany
        obtain ⟨e, he, hb⟩ := Array.any_eq_true'.1 hany
        simp only [Bool.and_eq_true, beq_iff_eq] at hb
        exact hno e he hb.1 hb.2
      rw [if_neg (by rw [hw]; simp)]
      exact hr
theorem rd_light {d : Nat} {v : AV} {rs : List Nat} (hi : ops[i]? = some ⟨some d, op, ty, pos, af, none⟩) (h : Lop P op ty s true v rs) (hd : d < n) (hK : RD P n ops (listed.setIfInBounds i true) todo ((i, rs) :: held) (s.put d v) K) :
    RD P n ops listed ((i, true) :: todo) held s K := by
  refine rd_look h.1 hi hd (fun M F N a w hr => ?_) hK
  obtain ⟨u, hu, hrun⟩ := h.2 M F N n a w hr rfl
  exact ⟨u, hu, .inl ⟨rfl, fun w' hw => hrun w' _ rfl rfl hw⟩⟩
theorem rd_guard {d j dj : Nat} {want b : Bool} {v : AV} {rs : List Nat} (hi : ops[i]? = some ⟨some d, op, ty, pos, af, some (j, want)⟩) (hj : (ops[j]?).bind (·.dst) = some dj) (hb : fget s.fr dj = some (.bool b)) (h : Lop P op ty s (b == want) v rs) (hd : d < n)
    (hK : RD P n ops (listed.setIfInBounds i true) todo ((i, rs) :: held) (s.put d (.when (b == want) v)) K) : RD P n ops listed ((i, true) :: todo) held s K := by
  refine rd_look h.1 hi hd (fun M F N a w hr => ?_) hK
  have hw := wanted_of (o := ⟨some d, op, ty, pos, af, some (j, want)⟩) hr rfl hj hb
  by_cases hbw : (b == want) = true
  · obtain ⟨u, hu, hrun⟩ := h.2 M F N n a w hr hbw
    exact ⟨u, .when (fun _ => hu) (fun h => by rw [hbw] at h; cases h), .inl ⟨hw.trans hbw, fun w' hww => hrun w' _ rfl rfl hww⟩⟩
  · simp only [Bool.not_eq_true] at hbw
    exact ⟨_, .when (fun h => by rw [hbw] at h; cases h) (fun _ => rfl), .inr ⟨hw.trans hbw, rfl⟩⟩
theorem rd_guard_yes {d j dj : Nat} {want : Bool} {v : AV} {rs : List Nat} (hi : ops[i]? = some ⟨some d, op, ty, pos, af, some (j, want)⟩) (hj : (ops[j]?).bind (·.dst) = some dj) (hb : fget s.fr dj = some (.bool want)) (h : Lop P op ty s true v rs) (hd : d < n)
    (hK : RD P n ops (listed.setIfInBounds i true) todo ((i, rs) :: held) (s.put d v) K) : RD P n ops listed ((i, true) :: todo) held s K := by
  refine rd_look h.1 hi hd (fun M F N a w hr => ?_) hK
  have hw := wanted_of (o := ⟨some d, op, ty, pos, af, some (j, want)⟩) hr rfl hj hb
  obtain ⟨u, hu, hrun⟩ := h.2 M F N n a w hr rfl
  exact ⟨u, hu, .inl ⟨hw.trans (by cases want <;> rfl), fun w' hww => hrun w' _ rfl rfl hww⟩⟩
theorem rd_guard_no {d j dj : Nat} {want b : Bool} (hi : ops[i]? = some ⟨some d, op, ty, pos, af, some (j, want)⟩) (hj : (ops[j]?).bind (·.dst) = some dj) (hb : fget s.fr dj = some (.bool b)) (hne : (b == want) = false) (hd : d < n)
    (hK : RD P n ops (listed.setIfInBounds i true) todo ((i, []) :: held) (s.put d .undef) K) : RD P n ops listed ((i, true) :: todo) held s K := by
  refine rd_look (fun r hr => by simp at hr) hi hd (fun M F N a w hr => ?_) hK
  have hw := wanted_of (o := ⟨some d, op, ty, pos, af, some (j, want)⟩) hr rfl hj hb
  exact ⟨_, .undef _, .inr ⟨hw.trans hne, rfl⟩⟩
theorem yielded_when {M : Mp} {F : Nat → Prop} {N : Nat} {a : Act} {w : World} (hr : Rel M F N n s a w) {j dj : Nat} {x : AV} {c : Bool} (hj : (ops[j]?).bind (·.dst) = some dj) (hb : fget s.fr dj = some (.when c x)) (hc : c = false) : yielded ops a.tmps j = none := by
  have h0 := hr.fr dj _ hb
  cases h0 with
  | when _ h0 =>
    have h0 := h0 hc
    unfold yielded
    rw [hj]
    simp only [Option.bind_some]
    rcases hx : a.tmps[dj]? with _ | u
    · rfl
    · rw [Array.getD_eq_getD_getElem?, hx] at h0
      simp only [Option.getD_some] at h0
      subst h0
      rfl
theorem rd_guard_when {d j dj : Nat} {want b c : Bool} {v : AV} {rs : List Nat} (hi : ops[i]? = some ⟨some d, op, ty, pos, af, some (j, want)⟩) (hj : (ops[j]?).bind (·.dst) = some dj) (hb : fget s.fr dj = some (.when c (.bool b))) (h : Lop P op ty s (c && (b == want)) v rs) (hd : d < n)
    (hK : RD P n ops (listed.setIfInBounds i true) todo ((i, rs) :: held) (s.put d (.when (c && (b == want)) v)) K) : RD P n ops listed ((i, true) :: todo) held s K := by
  refine rd_look h.1 hi hd (fun M F N a w hr => ?_) hK
  cases hc : c with
  | false =>
    have hy := yielded_when hr hj hb hc
    exact ⟨_, .when (fun h => by simp at h) (fun _ => rfl), .inr ⟨by simp [Region.wanted, hy], rfl⟩⟩
  | true =>
    have hw := wanted_when (o := ⟨some d, op, ty, pos, af, some (j, want)⟩) hr rfl hj hb hc
    rw [hc] at h
    by_cases hbw : (b == want) = true
    · obtain ⟨u, hu, hrun⟩ := h.2 M F N n a w hr (by simp [hbw])
      exact ⟨u, .when (fun _ => hu) (fun h => by rw [hbw] at h; cases h), .inl ⟨hw.trans hbw, fun w' hww => hrun w' _ rfl rfl hww⟩⟩
    · simp only [Bool.not_eq_true] at hbw
      exact ⟨_, .when (fun h => by rw [hbw] at h; cases h) (fun _ => rfl), .inr ⟨hw.trans hbw, rfl⟩⟩

theorem rd_heavy {dst : Option Nat} {fp : List Nat} (hi : ops[i]? = some ⟨dst, op, ty, pos, af, none⟩) (h : Hop P n op ty dst s fp fun s' => RD P n ops (listed.setIfInBounds i true) todo held s' K)
    (hfp : fp = [] ∨ ((∀ r ∈ fp, r ∈ s.σ.map (·.1)) ∧ ∀ r ∈ heldBy ops held i, r ∈ s.σ.map (·.1) ∧ r ∉ fp)) : RD P n ops listed ((i, false) :: todo) held s K := by
  intro hsel hc M F N a w hr
  obtain ⟨hc1, hc3⟩ := chkB_cons hi hc
  simp only [Bool.false_eq_true, if_false, beq_iff_eq] at hc1
  refine ⟨fun h0 => by rw [hc1] at h0; simp at h0, fun j hj => ?_⟩
  rw [hc1] at hj
  obtain rfl : j = i := by simpa using hj
  unfold wpOp
  simp only [hi]
  rw [if_pos (by simp [Region.wanted])]
  refine .inl (h M F N a w _ rfl rfl rfl hr _ _ fun M' F' N' a' w' s' hr' he ho hk => ⟨fun g hg hlt => ?_, ?_⟩)
  · rcases hg with hg | ⟨r, hrh, hg⟩
    · exact he.only.block g hlt (fun hB => hr.st.nof g hB hg)
    · rcases hfp with rfl | ⟨hf1, hf2⟩
      · exact ho.block g hlt (by simp)
      · obtain ⟨h1, h2⟩ := hf2 r hrh
        obtain ⟨p, hp, rfl⟩ := List.mem_map.1 h1
        refine ho.block g hlt ?_
        rintro ⟨q, hq, hqg⟩
        obtain ⟨p2, hp2, rfl⟩ := List.mem_map.1 (hf1 q hq)
        exact h2 (by rw [hr.st.inj p hp p2 hp2 g hg hqg]; exact hq)
  · refine wpAnyC_mono (PostN.ext he) ?_ _ _ _ _ (hk hsel hc3 M' F' N' a' w' hr')
    rintro j g (hg | ⟨r, hr, hg⟩)
    · exact .inl (he.ff g hg)
    · refine .inr ⟨r, hr, ?_⟩
      unfold blkOf at hg ⊢
      cases hm : M r with
      | none => rw [hm] at hg; cases hg
      | some b => rw [hm] at hg; rw [he.mm _ _ hm]; exact hg
end

theorem Ext.drew {M : Mp} {F : Nat → Prop} {N : Nat} {w : World} {σ : Sto} : Ext M F N w σ M F N { w with drawn := w.drawn + 1 } σ :=
  ⟨fun _ _ h => h, fun _ h => h, Nat.le_refl _, ⟨rfl, rfl, rfl, Nat.le_refl _, fun _ _ _ => rfl⟩, fun _ h _ => h, fun _ h => .inl h, fun p hp _ => ⟨p, hp, rfl⟩⟩
theorem sw_region_drawn {P : Program} {n : Nat} {ks : List Nat} {s : ASt} {Q : Exit → ASt → Prop} {id : Nat} {ops : Array Oper} (order : List (Nat × Bool)) (hm : P.follows .mixedOrders = true) (hsel : Region.noSelect ops = true)
    (hchk : (chkB ops (Array.replicate ops.size false) order && order.length == ops.size) = true) (h : RD P n ops (Array.replicate ops.size false) order [] s (KeepK ks (Q .normal))) : SW P n ks (.region id ops true) s Q := by
  intro M F N a w hr
  simp only [Bool.and_eq_true, beq_iff_eq] at hchk
  have hr' : Rel M F N n s a { w with drawn := w.drawn + 1 } := hr.step (Ext.drew (σ := s.σ)) ⟨fun p hp => ER.mono (w := w) (w' := { w with drawn := w.drawn + 1 }) (fun _ _ h => h) (fun _ h => h) (fun _ _ => rfl) (fun _ _ => rfl) (hr.st.ent p hp), hr.st.inj, hr.st.nof, hr.st.flt, hr.st.fresh⟩ rfl
  have h1 := h hsel hchk.1 M F N a _ hr'
  rw [hchk.2] at h1
  refine wp_mono (wp_region_any hm (wpAny_of_C _ _ _ _ h1)) ?_
  intro e a' w' he
  cases e <;> first | exact he.elim | skip
  obtain ⟨M', F', N', s', k1, k2, k3⟩ := he
  exact ⟨M', F', N', s'.keep ks, k1.keep, Ext.drew.trans k2, k3⟩

/-! ### small steps for walks -/
theorem sw_norm {P : Program} {n : Nat} {ks : List Nat} {c : Code} {s s' : ASt} {Q : Exit → ASt → Prop} (h : s = s') (hs : SW P n ks c s' Q) : SW P n ks c s Q := h ▸ hs
theorem sw_seq_region {P : Program} {n : Nat} {ks : List Nat} {s : ASt} {Q : Exit → ASt → Prop} {id : Nat} {l : List Oper} {y : Code} (h : RS P n l.toArray l s (KeepK ks fun s' => SW P n ks y s' Q)) : SW P n ks (.seq (.region id l.toArray false) y) s Q := sw_seq (sw_region h)
theorem sw_seq_drawn {P : Program} {n : Nat} {ks : List Nat} {s : ASt} {Q : Exit → ASt → Prop} {id : Nat} {ops : Array Oper} {y : Code} (order : List (Nat × Bool)) (hm : P.follows .mixedOrders = true) (hsel : Region.noSelect ops = true)
    (hchk : (chkB ops (Array.replicate ops.size false) order && order.length == ops.size) = true) (h : RD P n ops (Array.replicate ops.size false) order [] s (KeepK ks fun s' => SW P n ks y s' Q)) : SW P n ks (.seq (.region id ops true) y) s Q :=
  sw_seq (sw_region_drawn order hm hsel hchk h)
inductive KeepIs (fr : Fr) : List Nat → Fr → Prop
  | nil : KeepIs fr [] []
  | take {k : Nat} {ks : List Nat} {x : AV} {fr' : Fr} (h : fget fr k = some x) (r : KeepIs fr ks fr') : KeepIs fr (k :: ks) ((k, x) :: fr')
  | skip {k : Nat} {ks : List Nat} {fr' : Fr} (h : fget fr k = none) (r : KeepIs fr ks fr') : KeepIs fr (k :: ks) fr'
theorem KeepIs.eq {fr : Fr} {ks : List Nat} {fr' : Fr} (h : KeepIs fr ks fr') : clean ks fr = fr' := by
  induction h with
  | nil => rfl
  | take h _ ih => unfold clean at ih ⊢; rw [List.filterMap_cons, h]; simp [ih]
  | skip h _ ih => unfold clean at ih ⊢; rw [List.filterMap_cons, h]; simp [ih]
theorem put_σ {s : ASt} {d : Nat} {x : AV} : (s.put d x).σ = s.σ := rfl
theorem mk_σ {fr : Fr} {σ : Sto} : (⟨fr, σ⟩ : ASt).σ = σ := rfl
theorem keepIs_eq {ks : List Nat} {s : ASt} {fr' : Fr} {σ' : Sto} (h : KeepIs s.fr ks fr') (hσ : s.σ = σ') : s.keep ks = ⟨fr', σ'⟩ := by
  unfold ASt.keep
  rw [h.eq, hσ]
theorem rs_end {P : Program} {n : Nat} {ks : List Nat} {ops : Array Oper} {s : ASt} {fr' : Fr} {σ' : Sto} {K : ASt → Prop} (h : KeepIs s.fr ks fr') (hσ : s.σ = σ') (hK : K ⟨fr', σ'⟩) : RS P n ops [] s (KeepK ks K) := rs_nil (by unfold KeepK; rw [keepIs_eq h hσ]; exact hK)
theorem rd_end {P : Program} {n : Nat} {ks : List Nat} {ops : Array Oper} {listed : Array Bool} {held : List (Nat × List Nat)} {s : ASt} {fr' : Fr} {σ' : Sto} {K : ASt → Prop} (h : KeepIs s.fr ks fr') (hσ : s.σ = σ') (hK : K ⟨fr', σ'⟩) : RD P n ops listed [] held s (KeepK ks K) :=
  rd_nil (by unfold KeepK; rw [keepIs_eq h hσ]; exact hK)
theorem athen_n {K : ASt → Prop} {Q : Exit → ASt → Prop} {s : ASt} (h : K s) : AThen K Q .normal s := h
theorem athen_e {K : ASt → Prop} {Q : Exit → ASt → Prop} {s : ASt} {i : Nat} (h : Q (.exit i) s) : AThen K Q (.exit i) s := h
theorem athen_g {K : ASt → Prop} {Q : Exit → ASt → Prop} {s : ASt} {i : Nat} (h : Q (.goto i) s) : AThen K Q (.goto i) s := h
theorem athen_r {K : ASt → Prop} {Q : Exit → ASt → Prop} {s : ASt} (h : Q .ret s) : AThen K Q .ret s := h
theorem ablock_n {i : Nat} {Q : Exit → ASt → Prop} {s : ASt} (h : Q .normal s) : ABlock i Q .normal s := h
theorem ablock_hit {i : Nat} {Q : Exit → ASt → Prop} {s : ASt} (h : Q .normal s) : ABlock i Q (.exit i) s := by simp [ABlock, h]
theorem ablock_e {i j : Nat} {Q : Exit → ASt → Prop} {s : ASt} (hne : (j == i) = false) (h : Q (.exit j) s) : ABlock i Q (.exit j) s := by
  simp only [beq_eq_false_iff_ne] at hne
  simp [ABlock, hne, h]
theorem ablock_g {i j : Nat} {Q : Exit → ASt → Prop} {s : ASt} (h : Q (.goto j) s) : ABlock i Q (.goto j) s := h
theorem ablock_r {i : Nat} {Q : Exit → ASt → Prop} {s : ASt} (h : Q .ret s) : ABlock i Q .ret s := h
/-- a slice that lies there is not longer than a slice can be -/
theorem sw_max {P : Program} {n : Nat} {ks : List Nat} {c : Code} {s : ASt} {Q : Exit → ASt → Prop} {i sz : Nat} {es : List (List AV)} {k : Rk} (hx : fget s.fr i = some (.ro sz es k)) (h : es.length ≤ maxLen → SW P n ks c s Q) : SW P n ks c s Q := by
  intro M F N a w hr
  refine h ?_ M F N a w hr
  have hv := hr.fr i _ hx
  generalize a.tmps.getD i Go.undef = u at hv
  cases hv with
  | ro hb hs hc hrr hle hm hf hn => omega
  | ro0 hm hA hf hn => simp
theorem sw_cond_true {P : Program} {n : Nat} {ks : List Nat} {s : ASt} {Q : Exit → ASt → Prop} {c : Operand} {x y : Code} (hc : aev s c = some (.bool true)) (h : SW P n ks x s Q) : SW P n ks (.cond c x y) s Q := sw_cond hc (fun _ => h) (fun h => by cases h)
theorem sw_cond_false {P : Program} {n : Nat} {ks : List Nat} {s : ASt} {Q : Exit → ASt → Prop} {c : Operand} {x y : Code} (hc : aev s c = some (.bool false)) (h : SW P n ks y s Q) : SW P n ks (.cond c x y) s Q := sw_cond hc (fun h => by cases h) (fun _ => h)
theorem aend {P : Program} {rs : Array ResultVar} {R : AV → Sto → Prop} {s : ASt} {xs : List AV} {σ' : Sto} (hx : ResL P s rs.toList xs) (h : R (resAV xs) σ') (hσ : ∀ p ∈ σ', p ∈ s.σ) : AEnd P rs R .ret s := ⟨s, _, σ', SGo.refl _, ⟨xs, hx, rfl⟩, hσ, h⟩
theorem aend_n {P : Program} {rs : Array ResultVar} {R : AV → Sto → Prop} {s : ASt} (h : AEnd P rs R .ret s) : AEnd P rs R .normal s := h
theorem aend_go {P : Program} {rs : Array ResultVar} {R : AV → Sto → Prop} {s s' : ASt} (hgo : SGo s s') (h : AEnd P rs R .ret s') : AEnd P rs R .ret s := by
  obtain ⟨s2, x, σ2, h1, h2, h3⟩ := h
  exact ⟨s2, x, σ2, hgo.trans h1, h2, h3⟩
/-- a frame that tells less -/
inductive FrLe (fr : Fr) : Fr → Prop
  | nil : FrLe fr []
  | cons {i : Nat} {x y : AV} {l : Fr} (h : fget fr i = some x) (hle : VLe x y) (r : FrLe fr l) : FrLe fr ((i, y) :: l)
theorem FrLe.get {fr : Fr} {l : Fr} (h : FrLe fr l) : ∀ i y, fget l i = some y → ∃ x, fget fr i = some x ∧ VLe x y := by
  induction h with
  | nil => intro i y h; simp [fget] at h
  | cons h hle _ ih =>
    intro i y hi
    simp only [fget] at hi
    split at hi
    · next e => subst e; obtain rfl := Option.some.inj hi; exact ⟨_, h, hle⟩
    · exact ih i y hi
theorem sgo_fr {s : ASt} {fr' : Fr} {σ' : Sto} (h : FrLe s.fr fr') (hσ : ∀ p ∈ σ', p ∈ s.σ) : SGo s ⟨fr', σ'⟩ := SGo.of_le h.get hσ
theorem VLe.of_eq {x y : AV} (h : x = y) : VLe x y := h ▸ VLe.refl x
theorem no_mem {s : ASt} : ∀ p ∈ ([] : Sto), p ∈ s.σ := fun p hp => by simp at hp
theorem get_map {α : Type} {f : α → List AV} {l : List α} {i : Nat} {x : α} (h : l[i]? = some x) : (l.map f)[i]? = some (f x) := by rw [List.getElem?_map, h]; rfl
section
variable {P : Program} {ty t t' : TypeId} {s : ASt} {c : Bool} {x y : Operand} {m m' : Int}
theorem wrap_i64_of {m : Int} (h1 : -9223372036854775808 ≤ m) (h2 : m ≤ 9223372036854775807) : IntKind.i64.wrap m = m := by rw [IntKind.wrap_i64]; omega
theorem lop_add64 (h : Ev s c x (.int .i64 m)) (h' : Ev s c y (.int .i64 m')) (h1 : -9223372036854775808 ≤ m + m') (h2 : m + m' ≤ 9223372036854775807) : Lop P (.binOp .add t x y t') ty s c (.int .i64 (m + m')) [] := by
  have := lop_add (P := P) (ty := ty) (t := t) (t' := t') h h'
  rwa [wrap_i64_of h1 h2] at this
theorem lop_sub64 (h : Ev s c x (.int .i64 m)) (h' : Ev s c y (.int .i64 m')) (h1 : -9223372036854775808 ≤ m - m') (h2 : m - m' ≤ 9223372036854775807) : Lop P (.binOp .sub t x y t') ty s c (.int .i64 (m - m')) [] := by
  have := lop_sub (P := P) (ty := ty) (t := t) (t' := t') h h'
  rwa [wrap_i64_of h1 h2] at this
end

end Go.Proofs.Ytkjfflabapeidaa
