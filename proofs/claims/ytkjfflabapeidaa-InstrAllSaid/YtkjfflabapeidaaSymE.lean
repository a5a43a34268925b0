/-
  The symbolic layer's triples: operations in a row, code, calls. No program is named here.
-/
import Derived.Test.YtkjfflabapeidaaSymC
import Derived.Deep.LoopGhost
namespace Go.Proofs.Ytkjfflabapeidaa
open Go.RowKit Go.ChangeShapes Go.WideShapes Go.ChangeAt Go.Deep
set_option linter.unusedSimpArgs false
set_option linter.unusedVariables false

theorem Oper.wp_monoQ {P : Program} {o : Oper} {a : Act} {w : World} {K K' : Act → World → Prop} {Q Q' : Exit → Act → World → Prop} (h : ∀ a w, K a w → K' a w) (hQ : ∀ e a w, Q e a w → Q' e a w)
    (hh : o.wp P a w K Q) : o.wp P a w K' Q' := by
  unfold Oper.wp at *
  generalize (execOp a.eval o).run P w = r at *
  cases r with
  | ok n w' =>
    cases n <;> simp only [Oper.upon] at hh ⊢ <;>
      first
        | exact h _ _ hh
        | exact Calls.mono hh (fun e w'' he => by cases e <;> first | exact h _ _ he | exact hQ _ _ _ he | (obtain ⟨a, w, he⟩ := he; exact ⟨a, w, hQ _ _ _ he⟩))
        | exact Rows.mono hh (fun _ _ he => h _ _ he)
  | halt x w' => cases x <;> simp only [Oper.upon] at hh ⊢ <;> first | exact hQ _ _ _ hh | exact hh
theorem wpList_mono {P : Program} {ops : Array Oper} {Q Q' : Exit → Act → World → Prop} (hQ : ∀ e a w, Q e a w → Q' e a w) : ∀ {l : List Oper} {a : Act} {w : World}, wpList P ops Q l a w → wpList P ops Q' l a w
  | [], _, _, h => hQ _ _ _ h
  | o :: l, _, _, h => by
    unfold wpList at h ⊢
    split
    · next hw =>
      rw [if_pos hw] at h
      rcases h with h | ⟨h1, a0, w0, h2⟩
      · exact .inl (Oper.wp_monoQ (fun _ _ h => wpList_mono hQ h) hQ h)
      · exact .inr ⟨h1, a0, w0, hQ _ _ _ h2⟩
    · next hw =>
      rw [if_neg hw] at h
      exact wpList_mono hQ h

/-- the normal end of operations in a row -/
def PostN (n : Nat) (M : Mp) (F : Nat → Prop) (N : Nat) (w : World) (σ : Sto) (K : ASt → Prop) : Exit → Act → World → Prop
  | .normal, a', w' => ∃ M' F' N' s', Rel M' F' N' n s' a' w' ∧ Ext M F N w σ M' F' N' w' s'.σ ∧ K s'
  | _, _, _ => False
theorem PostN.ext {n : Nat} {M M' : Mp} {F F' : Nat → Prop} {N N' : Nat} {w w' : World} {σ σ' : Sto} {K : ASt → Prop} (he : Ext M F N w σ M' F' N' w' σ') : ∀ e a u, PostN n M' F' N' w' σ' K e a u → PostN n M F N w σ K e a u := by
  intro e a u h
  cases e <;> first | exact h.elim | (obtain ⟨M2, F2, N2, s2, h1, h2, h3⟩ := h; exact ⟨M2, F2, N2, s2, h1, he.trans h2, h3⟩)

def RS (P : Program) (n : Nat) (ops : Array Oper) (todo : List Oper) (s : ASt) (K : ASt → Prop) : Prop :=
  ∀ (M : Mp) (F : Nat → Prop) (N : Nat) (a : Act) (w : World), Rel M F N n s a w → wpList P ops (PostN n M F N w s.σ K) todo a w

/-- An operation that writes, makes memory or calls; fp: the names of what it may turn. -/
def Hop (P : Program) (n : Nat) (op : Op) (ty : TypeId) (dst : Option Nat) (s : ASt) (fp : List Nat) (K : ASt → Prop) : Prop :=
  ∀ (M : Mp) (F : Nat → Prop) (N : Nat) (a : Act) (w : World) (o : Oper), o.op = op → o.type = ty → o.dst = dst → Rel M F N n s a w → ∀ (next : Act → World → Prop) (Q : Exit → Act → World → Prop),
    (∀ (M' : Mp) (F' : Nat → Prop) (N' : Nat) (a' : Act) (w' : World) (s' : ASt), Rel M' F' N' n s' a' w' → Ext M F N w s.σ M' F' N' w' s'.σ → Only (fun g => ∃ r ∈ fp, blkOf M r = some g) w w' → K s' → next a' w') → o.wp P a w next Q

section
variable {P : Program} {n : Nat} {ops : Array Oper} {rest : List Oper} {s : ASt} {K : ASt → Prop} {op : Op} {ty : TypeId} {pos : String} {af : Array Edge}
theorem rs_nil (h : K s) : RS P n ops [] s K := fun M F N _ _ hr => ⟨M, F, N, s, hr, Ext.refl _ _ _ _ _, h⟩
theorem rs_light {d : Nat} {v : AV} {rs : List Nat} (h : Lop P op ty s true v rs) (hd : d < n) (hK : RS P n ops rest (s.put d v) K) : RS P n ops (⟨some d, op, ty, pos, af, none⟩ :: rest) s K := by
  intro M F N a w hr
  obtain ⟨u, hu, hrun⟩ := h.2 M F N n a w hr rfl
  refine wpList_plain rfl fun K' hK' => ?_
  unfold Oper.wp
  rw [hrun w _ rfl rfl (fun _ _ => rfl)]
  exact hK' _ _ (hK M F N _ w (hr.put hd hu))
/-- whether a guarded operation is wanted: the guard's slot, where c0 holds, is b -/
theorem wanted_of {M : Mp} {F : Nat → Prop} {N : Nat} {a : Act} {w : World} (hr : Rel M F N n s a w) {o : Oper} {j dj : Nat} {want b : Bool} (hg : o.guard = some (j, want)) (hj : (ops[j]?).bind (·.dst) = some dj)
    (hb : fget s.fr dj = some (.bool b)) : Region.wanted o (yielded ops a.tmps) = (b == want) := by
  have h1 := hr.fr dj _ hb
  have h2 : yielded ops a.tmps j = some b := by
    unfold yielded
    rw [hj]
    simp only [Option.bind_some]
    rcases hx : a.tmps[dj]? with _ | u
    · rw [Array.getD_eq_getD_getElem?, hx] at h1
      cases h1
    · rw [Array.getD_eq_getD_getElem?, hx] at h1
      simp only [Option.getD_some] at h1
      cases h1
      rfl
  unfold Region.wanted
  rw [hg]
  simp only [h2]
  cases b <;> cases want <;> rfl
theorem wanted_when {M : Mp} {F : Nat → Prop} {N : Nat} {a : Act} {w : World} (hr : Rel M F N n s a w) {o : Oper} {j dj : Nat} {want b c : Bool} (hg : o.guard = some (j, want)) (hj : (ops[j]?).bind (·.dst) = some dj)
    (hb : fget s.fr dj = some (.when c (.bool b))) (hc : c = true) : Region.wanted o (yielded ops a.tmps) = (b == want) := by
  have h0 := hr.fr dj _ hb
  have h1 : VR M F w (.bool b) (a.tmps.getD dj Go.undef) := by cases h0 with | when h _ => exact h hc
  have h2 : yielded ops a.tmps j = some b := by
    unfold yielded
    rw [hj]
    simp only [Option.bind_some]
    rcases hx : a.tmps[dj]? with _ | u
    · rw [Array.getD_eq_getD_getElem?, hx] at h1
      cases h1
    · rw [Array.getD_eq_getD_getElem?, hx] at h1
      simp only [Option.getD_some] at h1
      cases h1
      rfl
  unfold Region.wanted
  rw [hg]
  simp only [h2]
  cases b <;> cases want <;> rfl
/-- guarded, and the guard is known as a term: the slot holds what it holds where it is wanted -/
theorem rs_guard {d j dj : Nat} {want b : Bool} {v : AV} {rs : List Nat} (hj : (ops[j]?).bind (·.dst) = some dj) (hb : fget s.fr dj = some (.bool b)) (h : Lop P op ty s (b == want) v rs) (hd : d < n)
    (hK : RS P n ops rest (s.put d (.when (b == want) v)) K) : RS P n ops (⟨some d, op, ty, pos, af, some (j, want)⟩ :: rest) s K := by
  intro M F N a w hr
  have hw := wanted_of (o := ⟨some d, op, ty, pos, af, some (j, want)⟩) hr rfl hj hb
  refine wpList_step fun K' hK' => ?_
  rw [hw]
  by_cases hbw : (b == want) = true
  · obtain ⟨u, hu, hrun⟩ := h.2 M F N n a w hr hbw
    rw [if_pos hbw]
    unfold Oper.wp
    rw [hrun w _ rfl rfl (fun _ _ => rfl)]
    exact hK' _ _ (hK M F N _ w (hr.put hd (.when (fun _ => hu) (fun h => by rw [hbw] at h; cases h))))
  · rw [if_neg hbw]
    exact hK' _ _ (hK M F N _ w (hr.put hd (.when (fun h => absurd h hbw) (fun _ => rfl))))
/-- a guard that is a literal -/
theorem rs_guard_yes {d j dj : Nat} {want : Bool} {v : AV} {rs : List Nat} (hj : (ops[j]?).bind (·.dst) = some dj) (hb : fget s.fr dj = some (.bool want)) (h : Lop P op ty s true v rs) (hd : d < n)
    (hK : RS P n ops rest (s.put d v) K) : RS P n ops (⟨some d, op, ty, pos, af, some (j, want)⟩ :: rest) s K := by
  intro M F N a w hr
  have hw := wanted_of (o := ⟨some d, op, ty, pos, af, some (j, want)⟩) hr rfl hj hb
  refine wpList_step fun K' hK' => ?_
  rw [hw, if_pos (by cases want <;> rfl)]
  obtain ⟨u, hu, hrun⟩ := h.2 M F N n a w hr rfl
  unfold Oper.wp
  rw [hrun w _ rfl rfl (fun _ _ => rfl)]
  exact hK' _ _ (hK M F N _ w (hr.put hd hu))
theorem rs_guard_no {d j dj : Nat} {want b : Bool} (hj : (ops[j]?).bind (·.dst) = some dj) (hb : fget s.fr dj = some (.bool b)) (hne : (b == want) = false) (hd : d < n)
    (hK : RS P n ops rest (s.put d .undef) K) : RS P n ops (⟨some d, op, ty, pos, af, some (j, want)⟩ :: rest) s K := by
  intro M F N a w hr
  have hw := wanted_of (o := ⟨some d, op, ty, pos, af, some (j, want)⟩) hr rfl hj hb
  refine wpList_step fun K' hK' => ?_
  rw [hw, if_neg (by rw [hne]; simp)]
  exact hK' _ _ (hK M F N _ w (hr.put hd (.undef _)))
/-- a guard whose slot is itself guarded -/
theorem rs_guard_when {d j dj : Nat} {want b c : Bool} {v : AV} {rs : List Nat} (hj : (ops[j]?).bind (·.dst) = some dj) (hb : fget s.fr dj = some (.when c (.bool b))) (h : Lop P op ty s (c && (b == want)) v rs) (hd : d < n)
    (hK : RS P n ops rest (s.put d (.when (c && (b == want)) v)) K) : RS P n ops (⟨some d, op, ty, pos, af, some (j, want)⟩ :: rest) s K := by
  intro M F N a w hr
  refine wpList_step fun K' hK' => ?_
  cases hc : c with
  | false =>
    have hy : yielded ops a.tmps j = none := by
      have h0 := hr.fr dj _ hb
      cases h0 with
      | when _ h0 =>
        have h0 := h0 hc
        unfold yielded
        rw [hj]
        simp only [Option.bind_some]
        rcases hx : a.tmps[dj]? with _ | u
        · rfl
        · rw [Array.getD_eq_getD_getElem?, hx] at h0
          simp only [Option.getD_some] at h0
          subst h0
          rfl
    rw [if_neg (by simp [Region.wanted, hy])]
    exact hK' _ _ (hK M F N _ w (hr.put hd (.when (fun h => by simp [hc] at h) (fun _ => rfl))))
  | true =>
    have hw := wanted_when (o := ⟨some d, op, ty, pos, af, some (j, want)⟩) hr rfl hj hb hc
    rw [hw]
    by_cases hbw : (b == want) = true
    · obtain ⟨u, hu, hrun⟩ := h.2 M F N n a w hr (by simp [hc, hbw])
      rw [if_pos hbw]
      unfold Oper.wp
      rw [hrun w _ rfl rfl (fun _ _ => rfl)]
      exact hK' _ _ (hK M F N _ w (hr.put hd (.when (fun _ => hu) (fun h => by rw [hc, hbw] at h; cases h))))
    · rw [if_neg hbw]
      exact hK' _ _ (hK M F N _ w (hr.put hd (.when (fun h => by simp [hc] at h; simp [h] at hbw) (fun _ => rfl))))
theorem rs_heavy {dst : Option Nat} {fp : List Nat} (h : Hop P n op ty dst s fp fun s' => RS P n ops rest s' K) : RS P n ops (⟨dst, op, ty, pos, af, none⟩ :: rest) s K := by
  intro M F N a w hr
  refine wpList_plain rfl fun K' hK' => ?_
  refine h M F N a w _ rfl rfl rfl hr K' _ fun M' F' N' a' w' s' hr' he _ hk => ?_
  exact hK' _ _ (wpList_mono (PostN.ext he) (hk M' F' N' a' w' hr'))
end

/-! ### code -/
def clean (ks : List Nat) (fr : Fr) : Fr := ks.filterMap fun i => (fget fr i).map fun x => (i, x)
theorem fget_clean {fr : Fr} : ∀ {ks : List Nat} {i : Nat} {x : AV}, fget (clean ks fr) i = some x → fget fr i = some x
  | [], i, x, h => by simp [clean, fget] at h
  | k :: ks, i, x, h => by
    unfold clean at h
    rw [List.filterMap_cons] at h
    cases hk : fget fr k with
    | none =>
      rw [hk] at h
      exact fget_clean (ks := ks) h
    | some y =>
      rw [hk] at h
      simp only [Option.map_some, fget] at h
      split at h
      · next e => subst e; exact hk.trans h
      · exact fget_clean (ks := ks) h
def ASt.keep (s : ASt) (ks : List Nat) : ASt := ⟨clean ks s.fr, s.σ⟩

def SW (P : Program) (n : Nat) (ks : List Nat) (c : Code) (s : ASt) (Q : Exit → ASt → Prop) : Prop :=
  ∀ (M : Mp) (F : Nat → Prop) (N : Nat) (a : Act) (w : World), Rel M F N n s a w →
    c.wp P (fun e a' w' => ∃ M' F' N' s', Rel M' F' N' n s' a' w' ∧ Ext M F N w s.σ M' F' N' w' s'.σ ∧ Q e s') a w

/-- what is asked behind a region: of the slots that live on -/
def KeepK (ks : List Nat) (K : ASt → Prop) : ASt → Prop := fun s => K (s.keep ks)
def AThen (K : ASt → Prop) (Q : Exit → ASt → Prop) : Exit → ASt → Prop
  | .normal, s => K s
  | e, s => Q e s
def ABlock (id : Nat) (Q : Exit → ASt → Prop) : Exit → ASt → Prop
  | .exit id', s => if id' = id then Q .normal s else Q (.exit id') s
  | e, s => Q e s

section
variable {P : Program} {n : Nat} {ks : List Nat} {s : ASt} {Q : Exit → ASt → Prop}
theorem Rel.keep {ks : List Nat} {M : Mp} {F : Nat → Prop} {N : Nat} {a : Act} {w : World} (h : Rel M F N n s a w) : Rel M F N n (s.keep ks) a w := ⟨h.size, h.defers, fun i x hi => h.fr i x (fget_clean hi), h.st⟩
theorem sw_region {id : Nat} {l : List Oper} (h : RS P n l.toArray l s (KeepK ks (Q .normal))) : SW P n ks (.region id l.toArray false) s Q := by
  intro M F N a w hr
  refine wp_region_lit (wpList_mono ?_ (h M F N a w hr))
  intro e a' w' he
  cases e <;> first | exact he.elim | skip
  obtain ⟨M', F', N', s', h1, h2, h3⟩ := he
  exact ⟨M', F', N', s'.keep ks, h1.keep, h2, h3⟩
theorem sw_skip (h : Q .normal s) : SW P n ks .skip s Q := fun M F N _ _ hr => wp_skip ⟨M, F, N, s, hr, Ext.refl _ _ _ _ _, h⟩
theorem sw_ret (h : Q .ret s) : SW P n ks .ret s Q := fun M F N _ _ hr => wp_ret ⟨M, F, N, s, hr, Ext.refl _ _ _ _ _, h⟩
theorem sw_exit {id : Nat} (h : Q (.exit id) s) : SW P n ks (.exit id) s Q := fun M F N _ _ hr => wp_exit ⟨M, F, N, s, hr, Ext.refl _ _ _ _ _, h⟩
theorem sw_goto {l : Nat} (h : Q (.goto l) s) : SW P n ks (.goto l) s Q := fun M F N _ _ hr => wp_goto ⟨M, F, N, s, hr, Ext.refl _ _ _ _ _, h⟩
theorem sw_label {l : Nat} (h : Q .normal s) : SW P n ks (.label l) s Q := fun M F N _ _ hr => wp_label ⟨M, F, N, s, hr, Ext.refl _ _ _ _ _, h⟩
theorem sw_seq {x y : Code} (h : SW P n ks x s (AThen (fun s' => SW P n ks y s' Q) Q)) : SW P n ks (.seq x y) s Q := by
  intro M F N a w hr
  refine wp_seq (wp_mono (h M F N a w hr) ?_)
  rintro e a' w' ⟨M', F', N', s', h1, h2, h3⟩
  cases e <;> first | exact ⟨M', F', N', s', h1, h2, h3⟩ | skip
  refine wp_mono (h3 M' F' N' a' w' h1) ?_
  rintro e2 a2 w2 ⟨M2, F2, N2, s2, k1, k2, k3⟩
  exact ⟨M2, F2, N2, s2, k1, h2.trans k2, k3⟩
theorem sw_seq_k {x y : Code} (h : ∀ K : ASt → Prop, (∀ s', SW P n ks y s' Q → K s') → SW P n ks x s (AThen K Q)) : SW P n ks (.seq x y) s Q := sw_seq (h _ fun _ h => h)
theorem sw_mono {c : Code} {Q' : Exit → ASt → Prop} (h : SW P n ks c s Q) (hQ : ∀ e s, Q e s → Q' e s) : SW P n ks c s Q' := fun M F N a w hr =>
  wp_mono (h M F N a w hr) fun _ _ _ ⟨M', F', N', s', h1, h2, h3⟩ => ⟨M', F', N', s', h1, h2, hQ _ _ h3⟩
theorem sw_cond {c : Operand} {x y : Code} {b : Bool} (hc : aev s c = some (.bool b)) (ht : b = true → SW P n ks x s Q) (hf : b = false → SW P n ks y s Q) : SW P n ks (.cond c x y) s Q := by
  intro M F N a w hr
  refine wp_cond_split (t := b) ?_ (fun h => ht h M F N a w hr) (fun h => hf h M F N a w hr)
  exact (Ev.here hc).bool hr rfl
theorem sw_block {id : Nat} {c : Code} (h : SW P n ks c s (ABlock id Q)) : SW P n ks (.block id c) s Q := by
  intro M F N a w hr
  refine wp_block (wp_mono (h M F N a w hr) ?_)
  rintro e a' w' ⟨M', F', N', s', h1, h2, h3⟩
  cases e with
  | exit id' =>
    simp only [Exit.inBlock, ABlock] at h3 ⊢
    split <;> rename_i hid <;> simp only [hid, if_true, if_false] at h3 <;> exact ⟨M', F', N', s', h1, h2, h3⟩
  | _ => exact ⟨M', F', N', s', h1, h2, h3⟩
/-- another abstract state of the same world -/
def SGo (s s' : ASt) : Prop := ∀ (M : Mp) (F : Nat → Prop) (N n : Nat) (a : Act) (w : World), Rel M F N n s a w → ∃ M' F' N', Rel M' F' N' n s' a w ∧ Ext M F N w s.σ M' F' N' w s'.σ
theorem SGo.refl (s : ASt) : SGo s s := fun M F N _ _ _ hr => ⟨M, F, N, hr, Ext.refl _ _ _ _ _⟩
theorem SGo.trans {s s' s2 : ASt} (h : SGo s s') (k : SGo s' s2) : SGo s s2 := fun M F N n a w hr => by
  obtain ⟨M', F', N', h1, h2⟩ := h M F N n a w hr
  obtain ⟨M2, F2, N2, k1, k2⟩ := k M' F' N' n a w h1
  exact ⟨M2, F2, N2, k1, h2.trans k2⟩
/-- a value may be told with less -/
def VLe (x y : AV) : Prop := ∀ (M : Mp) (F : Nat → Prop) (w : World) (v : Value), VR M F w x v → VR M F w y v
theorem VLe.refl (x : AV) : VLe x x := fun _ _ _ _ h => h
theorem VLe.any {sz : Nat} {es : List (List AV)} {k : Rk} : VLe (.ro sz es k) (.ro sz es .any) := fun _ _ _ _ h => by
  cases h with
  | ro hb hs hc hr hle hm hf hn => exact .ro hb hs hc hr hle hm (fun h => by cases h) (fun h => by cases h)
  | ro0 hm hA hf hn => exact .ro0 hm hA (fun h => by cases h) (fun h => by cases h)
theorem VLe.empty {sz sz' : Nat} {k : Rk} : VLe (.ro sz [] k) (.ro sz' [] .any) := fun _ _ _ _ h => by
  cases h with
  | ro hb hs hc hr hle hm hf hn => exact .ro0 hm (fun h => by cases h) (fun h => by cases h) (fun h => by cases h)
  | ro0 hm hA hf hn => exact .ro0 hm hA (fun h => by cases h) (fun h => by cases h)
theorem VLe.undef (x : AV) : VLe x .undef := fun _ _ _ v _ => .undef v
theorem SGo.of_le {s s' : ASt} (hf : ∀ i x, fget s'.fr i = some x → ∃ y, fget s.fr i = some y ∧ VLe y x) (hσ : ∀ p ∈ s'.σ, p ∈ s.σ) : SGo s s' := fun M F N n a w hr =>
  ⟨M, F, N, ⟨hr.size, hr.defers, fun i x hi => by obtain ⟨y, hy, hle⟩ := hf i x hi; exact hle _ _ _ _ (hr.fr i y hy), hr.st.sub hσ⟩, (Ext.refl M F N w s.σ).sub hσ⟩
theorem sw_go {c : Code} {s' : ASt} (hgo : SGo s s') (h : SW P n ks c s' Q) : SW P n ks c s Q := by
  intro M F N a w hr
  obtain ⟨M1, F1, N1, hr1, he1⟩ := hgo M F N n a w hr
  refine wp_mono (h M1 F1 N1 a w hr1) ?_
  rintro e a' w' ⟨M', F', N', s2, h1, h2, h3⟩
  exact ⟨M', F', N', s2, h1, he1.trans h2, h3⟩
theorem sw_loop {c : Code} (I : Nat → ASt → Prop) (m0 : Nat) (h0 : ∃ s0, SGo s s0 ∧ I m0 s0) (round : ∀ m s', I m s' → SW P n ks c s' (AThen (fun s2 => ∃ m' s3, SGo s2 s3 ∧ m' < m ∧ I m' s3) Q)) : SW P n ks (.loop c) s Q := by
  obtain ⟨s0, hgo, h0⟩ := h0
  refine sw_go hgo ?_
  intro M F N a w hr
  refine wp_loop_ghost (I := fun m a' w' => ∃ M' F' N' s', Rel M' F' N' n s' a' w' ∧ Ext M F N w s0.σ M' F' N' w' s'.σ ∧ I m s') m0 ⟨M, F, N, s0, hr, Ext.refl _ _ _ _ _, h0⟩ ?_
  rintro m a' w' ⟨M', F', N', s', hr', he, hI⟩
  refine wp_mono (round m s' hI M' F' N' a' w' hr') ?_
  rintro e a1 w1 ⟨M1, F1, N1, s1, r1, e1, q1⟩
  cases e <;> first | exact ⟨M1, F1, N1, s1, r1, he.trans e1, q1⟩ | skip
  obtain ⟨m', s3, hgo3, hlt, hI3⟩ := q1
  obtain ⟨M3, F3, N3, r3, e3⟩ := hgo3 M1 F1 N1 n a1 w1 r1
  exact ⟨m', hlt, M3, F3, N3, s3, r3, (he.trans e1).trans e3, hI3⟩

/-! ### calls -/
def SCall (P : Program) (f : FuncId) (args : List AV) (σ : Sto) (R : AV → Sto → Prop) : Prop :=
  ∀ (M : Mp) (F : Nat → Prop) (N : Nat) (w : World) (vs : List Value), vs.length = args.length → (∀ (i : Nat) (x : AV) (v : Value), args[i]? = some x → vs[i]? = some v → VR M F w x v) → SR M F N w σ →
    Calls P f vs.toArray w fun e w' => ∃ v x M' F' N' σ', e = .returned v ∧ Ext M F N w σ M' F' N' w' σ' ∧ VR M' F' w' x v ∧ SR M' F' N' w' σ' ∧ R x σ'
theorem SCall.mono {f : FuncId} {args : List AV} {σ : Sto} {R R' : AV → Sto → Prop} (h : SCall P f args σ R) (hR : ∀ x σ', R x σ' → R' x σ') : SCall P f args σ R' :=
  fun M F N w vs hl hv hs => (h M F N w vs hl hv hs).mono fun _ _ ⟨v, x, M', F', N', σ', h1, h2, h3, h4, h5⟩ => ⟨v, x, M', F', N', σ', h1, h2, h3, h4, hR _ _ h5⟩

/-- the values that a function's results hold -/
inductive ResL (P : Program) (s : ASt) : List ResultVar → List AV → Prop
  | nil : ResL P s [] []
  | tmp {t : Nat} {x : AV} {rs : List ResultVar} {xs : List AV} (hx : fget s.fr t = some x) (r : ResL P s rs xs) : ResL P s (.tmp t :: rs) (x :: xs)
  | cell {t : Nat} {ty : TypeId} {d : TypeDesc} {r off : Nat} {bt : TypeId} {cs : List AV} {x : AV} {rs : List ResultVar} {xs : List AV} (hp : fget s.fr t = some (.ptr r off)) (i : Ty P ty d) (hd : aggD d = false) (hg : sget s.σ r = some (.box bt cs)) (hx : cs[off]? = some x) (l : ResL P s rs xs) : ResL P s (.cell t ty :: rs) (x :: xs)
  | cells {t : Nat} {ty : TypeId} {d : TypeDesc} {sz by_ : Nat} {z : Value} {r off : Nat} {bt : TypeId} {cs : List AV} {rs : List ResultVar} {xs : List AV} (hp : fget s.fr t = some (.ptr r off)) (i : Ty P ty d) (i' : Tz P ty sz by_ z) (hd : aggD d = true) (hg : sget s.σ r = some (.box bt cs)) (hx : off + sz ≤ cs.length) (l : ResL P s rs xs) : ResL P s (.cell t ty :: rs) (.agg ((cs.drop off).take sz) :: xs)
def resAV : List AV → AV
  | [x] => x
  | xs => .tup xs
def ResIs (P : Program) (rs : Array ResultVar) (s : ASt) (x : AV) : Prop := ∃ xs, ResL P s rs.toList xs ∧ resAV xs = x
def frame0 : Nat → List AV → Fr
  | _, [] => []
  | i, x :: l => (i, x) :: frame0 (i + 1) l
theorem fget_frame0 : ∀ {l : List AV} {i j : Nat} {x : AV}, fget (frame0 i l) j = some x → i ≤ j ∧ l[j - i]? = some x
  | [], i, j, x, h => by simp [frame0, fget] at h
  | y :: l, i, j, x, h => by
    simp only [frame0, fget] at h
    split at h
    · next e => subst e; exact ⟨Nat.le_refl _, by simpa using h⟩
    · next e =>
      obtain ⟨h1, h2⟩ := fget_frame0 h
      refine ⟨by omega, ?_⟩
      rw [show j - i = (j - (i + 1)) + 1 by omega]
      simpa using h2
theorem run_loadVar_of {t : TypeId} {p : Addr} {u : Value} {w : World} (h : (Instr.loadAt t (.pointer (some p))).run P w = .ok u w) : (loadVar t p).run P w = .ok u w := by
  simpa [Instr.loadAt, Instr.sureAddr] using h
theorem run_resL {M : Mp} {F : Nat → Prop} {N : Nat} {a : Act} {w : World} (hr : Rel M F N n s a w) {rs : List ResultVar} {xs : List AV} (h : ResL P s rs xs) :
    ∃ us, ((rs.mapM fun | .tmp t => pure (a.tmps.getD t Go.undef) | .cell c t => do loadVar t (← asAddr (a.tmps.getD c Go.undef)) : Sem (List Value))).run P w = .ok us w ∧ us.length = xs.length ∧ ∀ (j : Nat) (b : AV) (u : Value), xs[j]? = some b → us[j]? = some u → VR M F w b u := by
  have step : ∀ {v : ResultVar} {x : AV} {rs : List ResultVar} {xs : List AV} (u : Value), ((match v with | .tmp t => pure (a.tmps.getD t Go.undef) | .cell c t => do loadVar t (← asAddr (a.tmps.getD c Go.undef)) : Sem Value)).run P w = .ok u w → VR M F w x u →
      (∃ us, ((rs.mapM fun | .tmp t => pure (a.tmps.getD t Go.undef) | .cell c t => do loadVar t (← asAddr (a.tmps.getD c Go.undef)) : Sem (List Value))).run P w = .ok us w ∧ us.length = xs.length ∧ ∀ (j : Nat) (b : AV) (u : Value), xs[j]? = some b → us[j]? = some u → VR M F w b u) →
      ∃ us, (((v :: rs).mapM fun | .tmp t => pure (a.tmps.getD t Go.undef) | .cell c t => do loadVar t (← asAddr (a.tmps.getD c Go.undef)) : Sem (List Value))).run P w = .ok us w ∧ us.length = (x :: xs).length ∧ ∀ (j : Nat) (b : AV) (u : Value), (x :: xs)[j]? = some b → us[j]? = some u → VR M F w b u := by
    rintro v x rs xs u hu hv ⟨us, h1, h2, h3⟩
    refine ⟨u :: us, ?_, by simp [h2], fun j b u' hj hu' => ?_⟩
    · rw [List.mapM_cons, Sem.run_bind, hu, Result.andThen_ok, Sem.run_bind, h1, Result.andThen_ok, Sem.run_pure]
    · cases j with
      | zero => simp at hj hu'; subst hj; subst hu'; exact hv
      | succ j => exact h3 j b u' (by simpa using hj) (by simpa using hu')
  induction h with
  | nil => exact ⟨[], by simp, rfl, fun j b u hj => by simp at hj⟩
  | @tmp t x rs xs hx _ ih => exact step _ (by simp) (hr.fr t x hx) ih
  | @cell t ty d r off bt cs x rs xs hp i hd hg hx _ ih =>
    have hv := hr.fr t _ hp
    generalize hu : a.tmps.getD t Go.undef = u at hv
    obtain ⟨g, vs, hM', hcl, hsz, hvr⟩ := hr.st.ent _ (sget_mem hg)
    cases hv with
    | ptr hM =>
      have hg' := hM'.symm.trans hM
      simp only [Option.some.injEq, Blk'.row.injEq] at hg'
      obtain ⟨q1, q2, q3⟩ := hg'
      subst q1
      have hlt : off < vs.size := by rw [hsz]; exact (List.getElem?_eq_some_iff.1 hx).1
      have hc' := hcl.cell off
      rw [Array.getElem?_eq_getElem hlt] at hc'
      refine step vs[off] ?_ (hvr off x _ hx (Array.getElem?_eq_getElem hlt)) ih
      have := run_loadVar_of (P := P) (run_loadAt_one (P := P) (w := w) (t := ty) (h := i) hd hc')
      simp only [hu]
      simp [asAddr, this]
  | @cells t ty d sz by_ z r off bt cs rs xs hp i i' hd hg hx _ ih =>
    have hv := hr.fr t _ hp
    generalize hu : a.tmps.getD t Go.undef = u at hv
    obtain ⟨g, vs, hM', hcl, hsz, hvr⟩ := hr.st.ent _ (sget_mem hg)
    cases hv with
    | ptr hM =>
      have hg' := hM'.symm.trans hM
      simp only [Option.some.injEq, Blk'.row.injEq] at hg'
      obtain ⟨q1, q2, q3⟩ := hg'
      subst q1
      have := run_loadAt_agg (P := P) (w := w) (t := ty) (h := i) (h' := i') hd (p := ⟨g, off, none⟩) (cs := (vs.toList.drop off).take sz) (by simp [hsz]; omega) (fun j v hj => by
        have hjl : j < sz := by
          have := (List.getElem?_eq_some_iff.1 hj).1; simp at this; omega
        rw [List.getElem?_take_of_lt hjl, List.getElem?_drop] at hj
        rw [Addr.add_lit, hcl.cell]
        simpa using hj)
      refine step (.agg ((vs.toList.drop off).take sz).toArray) ?_ (.agg (by simp [hsz]) fun j b u hj hu => ?_) ih
      · have := run_loadVar_of (P := P) this
        simp only [hu]
        simp [asAddr, this]
      · have hjl : j < sz := by
          have := (List.getElem?_eq_some_iff.1 hj).1; simp at this; omega
        rw [List.getElem?_take_of_lt hjl, List.getElem?_drop] at hj
        simp only [List.getElem?_toArray] at hu
        rw [List.getElem?_take_of_lt hjl, List.getElem?_drop] at hu
        exact hvr _ b u hj (by simpa using hu)
theorem run_results {M : Mp} {F : Nat → Prop} {N : Nat} {a : Act} {w : World} (hr : Rel M F N n s a w) {fn : Func} {x : AV} (h : ResIs P fn.results s x) : ∃ v, (results fn a.tmps).run P w = .ok v w ∧ VR M F w x v := by
  obtain ⟨xs, hl, rfl⟩ := h
  obtain ⟨us, h1, h2, h3⟩ := run_resL (P := P) hr hl
  have hrun : (results fn a.tmps).run P w = .ok (if h : us.toArray.size = 1 then us.toArray[0] else .tuple us.toArray) w := by
    unfold results
    rw [Array.mapM_eq_mapM_toList, Sem.run_bind, map_eq_pure_bind, Sem.run_bind]
    erw [h1]
    rfl
  refine ⟨_, hrun, ?_⟩
  match xs, us, h2, h3 with
  | [x], [u], _, h3 => exact h3 0 x u rfl rfl
  | [], [], _, h3 => exact .tup rfl fun j b u hj => by simp at hj
  | x :: y :: xs, u :: v :: us, h2, h3 => 
    have : ¬ (u :: v :: us).toArray.size = 1 := by simp
    rw [dif_neg this]
    exact .tup (by simpa using h2) fun j b u hj hu => h3 j b u hj (by simpa using hu)

/-- how a body must end -/
def AEnd (P : Program) (rs : Array ResultVar) (R : AV → Sto → Prop) : Exit → ASt → Prop
  | .normal, s | .ret, s => ∃ s' x σ', SGo s s' ∧ ResIs P rs s' x ∧ (∀ p ∈ σ', p ∈ s'.σ) ∧ R x σ'
  | _, _ => False

theorem scall_of {f : FuncId} {fn : Func} {c : Code} {args : List AV} {σ : Sto} {R : AV → Sto → Prop} (hf : P.funcs[f]? = some fn) (hb : fn.body = some c) (hn : fn.ntmps = n) (hle : args.length ≤ n)
    (h : SW P n ks c ⟨frame0 0 args, σ⟩ (AEnd P fn.results R)) : SCall P f args σ R := by
  intro M F N w vs hl hv hs
  refine calls_of_wp hf hb ?_
  have hr : Rel M F N n ⟨frame0 0 args, σ⟩ { tmps := vs.toArray ++ Array.replicate (fn.ntmps - vs.toArray.size) Go.undef, defers := [] } w := by
    refine ⟨by simp [hn, hl]; omega, rfl, fun i x hi => ?_, hs⟩
    obtain ⟨_, hi⟩ := fget_frame0 hi
    rw [Nat.sub_zero] at hi
    have hlt : i < vs.length := by rw [hl]; exact (List.getElem?_eq_some_iff.1 hi).1
    have he : (vs.toArray ++ Array.replicate (fn.ntmps - vs.toArray.size) Go.undef).getD i Go.undef = vs[i] := by
      rw [Array.getD_eq_getD_getElem?, Array.getElem?_append_left (by simpa using hlt)]
      simp [hlt]
    rw [he]
    exact hv i x _ hi (List.getElem?_eq_getElem hlt)
  refine wp_mono (h M F N _ w hr) ?_
  rintro e a' w' ⟨M', F', N', s', h1, h2, h3⟩
  have fin : (∃ s2 x σ2, SGo s' s2 ∧ ResIs P fn.results s2 x ∧ (∀ p ∈ σ2, p ∈ s2.σ) ∧ R x σ2) → a'.defers = [] ∧ ∃ v, (results fn a'.tmps).run P w' = .ok v w' ∧
      ∃ v_1 x M' F' N' σ', Ending.returned v = .returned v_1 ∧ Ext M F N w σ M' F' N' w' σ' ∧ VR M' F' w' x v_1 ∧ SR M' F' N' w' σ' ∧ R x σ' := by
    rintro ⟨s2, x, σ2, hgo, hres, hsub, hR⟩
    obtain ⟨M2, F2, N2, r2, e2⟩ := hgo M' F' N' n a' w' h1
    obtain ⟨v, hv1, hv2⟩ := run_results (P := P) r2 hres
    exact ⟨h1.defers, v, hv1, v, x, M2, F2, N2, σ2, rfl, (h2.trans e2).sub hsub, hv2, r2.st.sub hsub, hR⟩
  cases e <;> first | exact h3.elim | exact fin h3

/-- operands against what a contract asks of them -/
inductive ArgsLe (s : ASt) : List Operand → List AV → Prop
  | nil : ArgsLe s [] []
  | cons {x : Operand} {xs : List Operand} {v y : AV} {ys : List AV} (h : aev s x = some v) (hle : VLe v y) (hr : ArgsLe s xs ys) : ArgsLe s (x :: xs) (y :: ys)
theorem ArgsLe.len {xs : List Operand} {ys : List AV} (h : ArgsLe s xs ys) : xs.length = ys.length := by
  induction h with
  | nil => rfl
  | cons _ _ _ ih => simp [ih]
theorem ArgsLe.vr {M : Mp} {F : Nat → Prop} {N : Nat} {a : Act} {w : World} (hr : Rel M F N n s a w) {xs : List Operand} {ys : List AV} (h : ArgsLe s xs ys) : ∀ (i : Nat) (y : AV) (v : Value), ys[i]? = some y → (xs.map a.eval)[i]? = some v → VR M F w y v := by
  induction h with
  | nil => intro i y v hi; simp at hi
  | @cons x xs v y ys hx hle _ ih =>
    intro i y' v' hi hv
    cases i with
    | zero =>
      simp only [List.getElem?_cons_zero, Option.some.injEq, List.map_cons] at hi hv
      subst hi; subst hv
      exact hle _ _ _ _ (hr.aev hx)
    | succ i => exact ih i y' v' (by simpa using hi) (by simpa using hv)

theorem Hop.of_call {op : Op} {ty : TypeId} {d : Nat} {f : FuncId} {args : List AV} {σ1 : Sto} {R : AV → Sto → Prop} {K : ASt → Prop} (hd : d < n) (h : SCall P f args σ1 R) (hsub : ∀ p ∈ σ1, p ∈ s.σ) (fargs : Act → List Value)
    (hrun : ∀ (M : Mp) (F : Nat → Prop) (N : Nat) (a : Act) (w : World) (o : Oper), o.op = op → Rel M F N n s a w → (execOp a.eval o).run P w = .ok (.enter f (fargs a).toArray) w ∧ (fargs a).length = args.length ∧
      ∀ (i : Nat) (x : AV) (v : Value), args[i]? = some x → (fargs a)[i]? = some v → VR M F w x v)
    (hK : ∀ x σ', R x σ' → (∀ p ∈ σ', (∃ q ∈ σ1, q.1 = p.1) ∨ Fresh p.1 s.σ) → K ⟨(d, x) :: s.fr, σ' ++ sdrop (σ1.map (·.1)) s.σ⟩) : Hop P n op ty (some d) s (σ1.map (·.1)) K := by
  intro M F N a w o ho _ hdst hr next Q hnext
  obtain ⟨h1, h2, h3⟩ := hrun M F N a w o ho hr
  unfold Oper.wp
  rw [h1]
  show Calls P f (fargs a).toArray w _
  have hs1 : SR M F N w σ1 := hr.st.sub hsub
  refine (h M F N w (fargs a) h2 h3 hs1).mono ?_
  rintro e w' ⟨v, x, M', F', N', σ', rfl, he, hv, hs', hR⟩
  -- the rest of the store
  have hrest : ∀ p ∈ s.σ, p.1 ∉ σ1.map (·.1) → ∀ g, blkOf M p.1 = some g → ¬ Bs M σ1 g := by
    rintro p hp hn g hg ⟨q, hq, hqg⟩
    have := hr.st.inj p hp q (hsub q hq) g hg hqg
    exact hn (List.mem_map.2 ⟨q, hq, this.symm⟩)
  have hmem : ∀ p, p ∈ sdrop (σ1.map (·.1)) s.σ → p ∈ s.σ ∧ p.1 ∉ σ1.map (·.1) := fun p hp => mem_sdrop hp
  have hMeq : ∀ p ∈ s.σ, blkOf M' p.1 = blkOf M p.1 := by
    intro p hp
    have hne := (hr.st.ent p hp).some
    unfold blkOf
    cases hm : M p.1 with
    | none => exact absurd hm hne
    | some b => rw [he.mm _ _ hm]
  have hext : Ext M F N w s.σ M' F' N' w' (σ' ++ sdrop (σ1.map (·.1)) s.σ) := by
    refine ⟨he.mm, he.ff, he.nn, he.only.mono fun i _ ⟨q, hq, hqg⟩ => ⟨q, hsub q hq, hqg⟩, ?_, ?_, ?_⟩
    · rintro g ⟨p, hp, hg⟩ hlt
      rcases List.mem_append.1 hp with hp | hp
      · obtain ⟨q, hq, hqg⟩ := he.old g ⟨p, hp, hg⟩ hlt
        exact ⟨q, hsub q hq, hqg⟩
      · exact ⟨p, (hmem p hp).1, by rw [← hMeq p (hmem p hp).1]; exact hg⟩
    · intro b hb
      rcases he.fro b hb with hb | hb | ⟨q, hq, hqg⟩
      · exact .inl hb
      · exact .inr (.inl hb)
      · exact .inr (.inr ⟨q, hsub q hq, hqg⟩)
    · intro p hp hlt
      rcases List.mem_append.1 hp with hp | hp
      · obtain ⟨q, hq, hqg⟩ := he.nam p hp hlt
        exact ⟨q, hsub q hq, hqg⟩
      · exact ⟨p, (hmem p hp).1, rfl⟩
  have hSame : Same F w w' := he.same hs1
  have hSR : SR M' F' N' w' (σ' ++ sdrop (σ1.map (·.1)) s.σ) := by
    have hdis : ∀ p ∈ σ', ∀ q ∈ s.σ, q.1 ∉ σ1.map (·.1) → ∀ g, blkOf M' p.1 = some g → blkOf M' q.1 = some g → False := by
      intro p hp q hq hqn g hpg hqg
      rw [hMeq q hq] at hqg
      have hlt := (hr.st.ent q hq).lt hqg
      exact hrest q hq hqn g hqg (he.old g ⟨p, hp, hpg⟩ hlt)
    refine ⟨?_, ?_, ?_, hs'.flt, hs'.fresh⟩
    · intro p hp
      rcases List.mem_append.1 hp with hp | hp
      · exact hs'.ent p hp
      · obtain ⟨hp1, hp2⟩ := hmem p hp
        refine ER.mono he.mm he.ff hSame (fun g hg => ?_) (hr.st.ent p hp1)
        exact he.only.block g ((hr.st.ent p hp1).lt hg) (hrest p hp1 hp2 g hg)
    · intro p hp q hq g hpg hqg
      rcases List.mem_append.1 hp with hp | hp <;> rcases List.mem_append.1 hq with hq | hq
      · exact hs'.inj p hp q hq g hpg hqg
      · exact (hdis p hp q (hmem q hq).1 (hmem q hq).2 g hpg hqg).elim
      · exact (hdis q hq p (hmem p hp).1 (hmem p hp).2 g hqg hpg).elim
      · rw [hMeq p (hmem p hp).1] at hpg
        rw [hMeq q (hmem q hq).1] at hqg
        exact hr.st.inj p (hmem p hp).1 q (hmem q hq).1 g hpg hqg
    · rintro g ⟨p, hp, hg⟩ hF
      rcases List.mem_append.1 hp with hp | hp
      · exact hs'.nof g ⟨p, hp, hg⟩ hF
      · obtain ⟨hp1, hp2⟩ := hmem p hp
        rw [hMeq p hp1] at hg
        rcases he.fro g hF with hb | hb | hb
        · exact hr.st.nof g ⟨p, hp1, hg⟩ hb
        · have := (hr.st.ent p hp1).lt hg; omega
        · exact hrest p hp1 hp2 g hg hb
  have hrel : Rel M' F' N' n ⟨s.fr, σ' ++ sdrop (σ1.map (·.1)) s.σ⟩ a w' :=
    ⟨hr.size, hr.defers, fun i y hi => (hr.fr i y hi).mono he.mm he.ff hSame, hSR⟩
  rw [hdst]
  refine hnext M' F' N' _ w' _ (hrel.put hd hv) hext (he.only.mono fun i _ ⟨q, hq, hqg⟩ => ⟨q.1, List.mem_map.2 ⟨q, hq, rfl⟩, hqg⟩) ?_
  refine hK x σ' hR fun p hp => ?_
  rcases Nat.lt_or_ge p.1 N with hlt | hge
  · exact .inl (he.nam p hp hlt)
  · exact .inr fun q hq heq => by have := hr.st.name hq; omega

/-- a call of a Go function by its name -/
theorem hop_call {ty : TypeId} {d : Nat} {f : FuncId} {xs : List Operand} {ats : Array TypeId} {args : List AV} {σ1 : Sto} {R : AV → Sto → Prop} {K : ASt → Prop} (hf : ∀ args w, (callFunc f args).run P w = .ok (.enter f args) w) (h : SCall P f args σ1 R) (hd : d < n)
    (hargs : ArgsLe s xs args) (hsub : ∀ p ∈ σ1, p ∈ s.σ)
    (hK : ∀ x σ', R x σ' → (∀ p ∈ σ', (∃ q ∈ σ1, q.1 = p.1) ∨ Fresh p.1 s.σ) → K ⟨(d, x) :: s.fr, σ' ++ sdrop (σ1.map (·.1)) s.σ⟩) :
    Hop P n (.call { callee := .value (.func f), args := xs.toArray, argTypes := ats }) ty (some d) s (σ1.map (·.1)) K := by
  refine Hop.of_call hd h hsub (fun a => xs.map a.eval) (fun M F N a w o ho hr => ⟨?_, by simp [hargs.len], hargs.vr hr⟩) hK
  obtain ⟨dst, op, ty', pos, after, guard⟩ := o
  dsimp only at ho
  subst ho
  rw [execOp_call_go, Array.append_empty, Array.empty_append, List.map_toArray, hf]
end

end Go.Proofs.Ytkjfflabapeidaa
