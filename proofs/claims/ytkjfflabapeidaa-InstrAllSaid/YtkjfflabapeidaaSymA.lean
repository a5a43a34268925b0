/-
  A symbolic layer: abstract values and stores, and how they stand to a world. A slice that nobody writes is a value of its own; boxes and rows of the call's own lie in an abstract store by names. No program is named here.
-/
import Derived.Test.YtkjfflabapeidaaRep
namespace Go.Proofs.Ytkjfflabapeidaa
open Go.RowKit Go.ChangeShapes Go.WideShapes Go.ChangeAt Go.Deep
set_option linter.unusedSimpArgs false
set_option linter.unusedVariables false

/-- what is known of a slice that is only read: it is nil; its capacity is its length; nothing -/
inductive Rk where
  | nil | full | any
  deriving DecidableEq, Repr, Inhabited

inductive AV where
  | undef
  | int (k : IntKind) (n : Int)
  | bool (b : Bool)
  | str (s : ByteArray)
  | nilp
  | ptr (r off : Nat)
  | el (sz : Nat) (es : List (List AV)) (i off : Nat)
  | ow (t i off : Nat)
  | ro (sz : Nat) (es : List (List AV)) (k : Rk)
  | own (t off len : Nat)
  | agg (cs : List AV)
  | tup (cs : List AV)
  | fn (f : Fn) (first captured : List AV)
  | when (c : Bool) (x : AV)
  | val (v : Value)
  deriving Inhabited

def AV.cell : AV → Bool
  | .int .. | .bool _ | .str _ | .nilp | .ptr .. | .el .. | .ow .. | .ro .. | .own .. | .fn .. => true
  | _ => false

inductive Blk' where
  | row (g c sz : Nat)
  | virt

abbrev Mp := Nat → Option Blk'
def blkOf (M : Mp) (r : Nat) : Option Nat := match M r with | some (.row g _ _) => some g | _ => none

/-- rows of sz cells each -/
def RowsOk (sz : Nat) (es : List (List AV)) : Prop := ∀ x ∈ es, x.length = sz ∧ ∀ a ∈ x, a.cell = true

inductive VR (M : Mp) (F : Nat → Prop) (w : World) : AV → Value → Prop
  | undef (v : Value) : VR M F w .undef v
  | int (k : IntKind) (n : Int) : VR M F w (.int k n) (.int k n)
  | bool (b : Bool) : VR M F w (.bool b) (.bool b)
  | str (s : ByteArray) : VR M F w (.str s) (.string s)
  | nilp : VR M F w .nilp (.pointer none)
  | ptr {r off g c sz : Nat} (h : M r = some (.row g c sz)) : VR M F w (.ptr r off) (.pointer (some ⟨g, off, none⟩))
  | ow {t i off g c sz : Nat} (h : M t = some (.row g c sz)) : VR M F w (.ow t i off) (.pointer (some ⟨g, i * sz + off, none⟩))
  | el {es : List (List AV)} {i off b o sz : Nat} {us : Nat → Nat → Value} (hb : F b) (hs : RowsOk sz es)
      (hc : ∀ (i : Nat) (e : List AV) (j : Nat) (a : AV), es[i]? = some e → e[j]? = some a → w.cell? ⟨b, o + i * sz + j, none⟩ = some (us i j)) (hr : ∀ (i : Nat) (e : List AV) (j : Nat) (a : AV), es[i]? = some e → e[j]? = some a → VR M F w a (us i j)) :
      VR M F w (.el sz es i off) (.pointer (some ⟨b, o + i * sz + off, none⟩))
  | ro {es : List (List AV)} {k : Rk} {b o sz cap : Nat} {us : Nat → Nat → Value} (hb : F b) (hs : RowsOk sz es)
      (hc : ∀ (i : Nat) (e : List AV) (j : Nat) (a : AV), es[i]? = some e → e[j]? = some a → w.cell? ⟨b, o + i * sz + j, none⟩ = some (us i j)) (hr : ∀ (i : Nat) (e : List AV) (j : Nat) (a : AV), es[i]? = some e → e[j]? = some a → VR M F w a (us i j))
      (hle : es.length ≤ cap) (hm : cap ≤ maxLen) (hf : k = .full → cap = es.length) (hn : k ≠ .nil) : VR M F w (.ro sz es k) (.slice (some ⟨b, o, none⟩) es.length cap)
  | ro0 {sz : Nat} {k : Rk} {A : Option Addr} {cap : Nat} (hm : cap ≤ maxLen) (hA : A = none → cap = 0) (hf : k = .full → cap = 0) (hn : k = .nil → A = none) : VR M F w (.ro sz [] k) (.slice A 0 cap)
  | own {t off len g c sz : Nat} (h : M t = some (.row g c sz)) (hle : off + len ≤ c) (hm : c ≤ maxLen) : VR M F w (.own t off len) (.slice (some ⟨g, off * sz, none⟩) len (c - off))
  | own0 {t off : Nat} {A : Option Addr} : VR M F w (.own t off 0) (.slice A 0 0)
  | agg {cs : List AV} {vs : Array Value} (hl : vs.size = cs.length) (h : ∀ (j : Nat) (a : AV) (u : Value), cs[j]? = some a → vs[j]? = some u → VR M F w a u) : VR M F w (.agg cs) (.agg vs)
  | tup {cs : List AV} {vs : Array Value} (hl : vs.size = cs.length) (h : ∀ (j : Nat) (a : AV) (u : Value), cs[j]? = some a → vs[j]? = some u → VR M F w a u) : VR M F w (.tup cs) (.tuple vs)
  | fn {f : Fn} {xs cs : List AV} {us vs : Array Value} (h1 : us.size = xs.length) (h2 : ∀ (j : Nat) (a : AV) (u : Value), xs[j]? = some a → us[j]? = some u → VR M F w a u)
      (h3 : vs.size = cs.length) (h4 : ∀ (j : Nat) (a : AV) (u : Value), cs[j]? = some a → vs[j]? = some u → VR M F w a u) : VR M F w (.fn f xs cs) (.func f us vs)
  | when {c : Bool} {x : AV} {v : Value} (h : c = true → VR M F w x v) (h0 : c = false → v = Go.undef) : VR M F w (.when c x) v
  | val (v : Value) : VR M F w (.val v) v

theorem VR.cell_one {M : Mp} {F : Nat → Prop} {w : World} {a : AV} {v : Value} (h : VR M F w a v) (hc : a.cell = true) : v.oneCell' = true := by
  cases h <;> first | rfl | (simp [AV.cell] at hc)

theorem VR.mono {M M' : Mp} {F F' : Nat → Prop} {w w' : World} (hM : ∀ r b, M r = some b → M' r = some b) (hF : ∀ b, F b → F' b) (hS : Same F w w') {a : AV} {v : Value} (h : VR M F w a v) : VR M' F' w' a v := by
  induction h with
  | undef v => exact .undef v
  | int k n => exact .int k n
  | bool b => exact .bool b
  | str s => exact .str s
  | nilp => exact .nilp
  | ptr h => exact .ptr (hM _ _ h)
  | ow h => exact .ow (hM _ _ h)
  | el hb hs hc _ ih => exact .el (hF _ hb) hs (fun i e j a hi hj => (hS.cell (p := ⟨_, _, none⟩) hb).trans (hc i e j a hi hj)) ih
  | ro hb hs hc _ hle hm hf hn ih => exact .ro (hF _ hb) hs (fun i e j a hi hj => (hS.cell (p := ⟨_, _, none⟩) hb).trans (hc i e j a hi hj)) ih hle hm hf hn
  | ro0 hm hA hf hn => exact .ro0 hm hA hf hn
  | own h hle hm => exact .own (hM _ _ h) hle hm
  | own0 => exact .own0
  | agg hl _ ih => exact .agg hl ih
  | tup hl _ ih => exact .tup hl ih
  | fn h1 _ h3 _ ih1 ih2 => exact .fn h1 ih1 h3 ih2
  | when _ h0 ih => exact .when ih h0
  | val v => exact .val v

/-- block g holds the cells vs of element type ty, none of them frozen -/
def Cl (w : World) (g : Nat) (ty : TypeId) (vs : Array Value) : Prop := w.heap[g]? = some (.cells vs ty (0, 0))
section
variable {w w' : World} {g : Nat} {ty : TypeId} {vs : Array Value}
theorem Cl.lt (h : Cl w g ty vs) : g < w.heap.size := (Array.getElem?_eq_some_iff.1 h).1
theorem Cl.same (h : Cl w g ty vs) (hs : w'.heap[g]? = w.heap[g]?) : Cl w' g ty vs := hs.trans h
theorem Cl.cell (h : Cl w g ty vs) (i : Nat) : w.cell? ⟨g, i, none⟩ = vs[i]? := by
  unfold Cl at h
  simp [World.cell?, h]
theorem Cl.new (w : World) (ty : TypeId) (vs : Array Value) : Cl (w.alloc (.cells vs ty)) w.heap.size ty vs := heap_alloc_new w _
end

inductive Ent where
  | box (ty : TypeId) (cs : List AV)
  | arr (e : TypeId) (sz : Nat) (es : List (List AV))

def ER (M : Mp) (F : Nat → Prop) (w : World) (r : Nat) : Ent → Prop
  | .box ty cs => ∃ g vs, M r = some (.row g cs.length 1) ∧ Cl w g ty vs ∧ vs.size = cs.length ∧ (∀ (j : Nat) (a : AV) (u : Value), cs[j]? = some a → vs[j]? = some u → VR M F w a u)
  | .arr e sz es => 0 < sz ∧ RowsOk sz es ∧ ((M r = some .virt ∧ es = []) ∨ ∃ g c vs, M r = some (.row g c sz) ∧ Cl w g e vs ∧ vs.size = c * sz ∧ es.length ≤ c ∧ c ≤ maxLen ∧
      (∀ (i : Nat) (x : List AV) (j : Nat) (a : AV) (u : Value), es[i]? = some x → x[j]? = some a → vs[i * sz + j]? = some u → VR M F w a u))

theorem ER.mono {M M' : Mp} {F F' : Nat → Prop} {w w' : World} (hM : ∀ r b, M r = some b → M' r = some b) (hF : ∀ b, F b → F' b) (hS : Same F w w') {r : Nat} {x : Ent}
    (hb : ∀ g, blkOf M r = some g → w'.heap[g]? = w.heap[g]?) (h : ER M F w r x) : ER M' F' w' r x := by
  cases x with
  | box ty cs =>
    obtain ⟨g, vs, h1, h2, h3, h4⟩ := h
    exact ⟨g, vs, hM _ _ h1, h2.same (hb g (by simp [blkOf, h1])), h3, fun j a u hj hu => (h4 j a u hj hu).mono hM hF hS⟩
  | arr e sz es =>
    obtain ⟨h0, h1, h2⟩ := h
    refine ⟨h0, h1, ?_⟩
    rcases h2 with ⟨h2, h3⟩ | ⟨g, c, vs, h2, h3, h4, h5, h6, h7⟩
    · exact .inl ⟨hM _ _ h2, h3⟩
    · exact .inr ⟨g, c, vs, hM _ _ h2, h3.same (hb g (by simp [blkOf, h2])), h4, h5, h6, fun i x j a u hi hj hu => (h7 i x j a u hi hj hu).mono hM hF hS⟩
theorem ER.some {M : Mp} {F : Nat → Prop} {w : World} {r : Nat} {x : Ent} (h : ER M F w r x) : M r ≠ none := by
  cases x with
  | box ty cs => obtain ⟨g, vs, h1, _⟩ := h; simp [h1]
  | arr e sz es => obtain ⟨_, _, ⟨h2, _⟩ | ⟨g, c, vs, h2, _⟩⟩ := h <;> simp [h2]
theorem ER.lt {M : Mp} {F : Nat → Prop} {w : World} {r : Nat} {x : Ent} (h : ER M F w r x) {g : Nat} (hg : blkOf M r = .some g) : g < w.heap.size := by
  cases x with
  | box ty cs => obtain ⟨g', vs, h1, h2, _⟩ := h; simp [blkOf, h1] at hg; subst hg; exact h2.lt
  | arr e sz es =>
    obtain ⟨_, _, ⟨h2, _⟩ | ⟨g', c, vs, h2, h3, _⟩⟩ := h
    · simp [blkOf, h2] at hg
    · simp [blkOf, h2] at hg; subst hg; exact h3.lt

abbrev Sto := List (Nat × Ent)
/-- the blocks of a store -/
def Bs (M : Mp) (σ : Sto) (g : Nat) : Prop := ∃ p ∈ σ, blkOf M p.1 = some g

structure SR (M : Mp) (F : Nat → Prop) (N : Nat) (w : World) (σ : Sto) : Prop where
  ent : ∀ p ∈ σ, ER M F w p.1 p.2
  inj : ∀ p ∈ σ, ∀ q ∈ σ, ∀ g, blkOf M p.1 = some g → blkOf M q.1 = some g → p.1 = q.1
  nof : ∀ g, Bs M σ g → ¬ F g
  flt : ∀ b, F b → b < w.heap.size
  fresh : ∀ r, N ≤ r → M r = none

theorem SR.lt {M : Mp} {F : Nat → Prop} {N : Nat} {w : World} {σ : Sto} (h : SR M F N w σ) {g : Nat} (hg : Bs M σ g) : g < w.heap.size := by
  obtain ⟨p, hp, hg⟩ := hg
  exact (h.ent p hp).lt hg
theorem SR.name {M : Mp} {F : Nat → Prop} {N : Nat} {w : World} {σ : Sto} (h : SR M F N w σ) {p : Nat × Ent} (hp : p ∈ σ) : p.1 < N := by
  rcases Nat.lt_or_ge p.1 N with hlt | hge
  · exact hlt
  · exact absurd (h.fresh _ hge) (h.ent p hp).some

/-- what a step may do: from (M, F, N, w, σ) to (M', F', N', w', σ') -/
structure Ext (M : Mp) (F : Nat → Prop) (N : Nat) (w : World) (σ : Sto) (M' : Mp) (F' : Nat → Prop) (N' : Nat) (w' : World) (σ' : Sto) : Prop where
  mm : ∀ r b, M r = some b → M' r = some b
  ff : ∀ b, F b → F' b
  nn : N ≤ N'
  only : Only (Bs M σ) w w'
  old : ∀ g, Bs M' σ' g → g < w.heap.size → Bs M σ g
  fro : ∀ b, F' b → F b ∨ w.heap.size ≤ b ∨ Bs M σ b
  nam : ∀ p ∈ σ', p.1 < N → ∃ q ∈ σ, q.1 = p.1

section
variable {M M' M'' : Mp} {F F' F'' : Nat → Prop} {N N' N'' : Nat} {w w' w'' : World} {σ σ' σ'' : Sto}
theorem Ext.refl (M : Mp) (F : Nat → Prop) (N : Nat) (w : World) (σ : Sto) : Ext M F N w σ M F N w σ :=
  ⟨fun _ _ h => h, fun _ h => h, Nat.le_refl _, Only.refl _ _, fun _ h _ => h, fun _ h => .inl h, fun p hp _ => ⟨p, hp, rfl⟩⟩
theorem Ext.trans (h : Ext M F N w σ M' F' N' w' σ') (k : Ext M' F' N' w' σ' M'' F'' N'' w'' σ'') : Ext M F N w σ M'' F'' N'' w'' σ'' where
  mm r b hr := k.mm r b (h.mm r b hr)
  ff b hb := k.ff b (h.ff b hb)
  nn := Nat.le_trans h.nn k.nn
  only := h.only.trans' k.only fun i hi hb => h.old i hb hi
  old g hg hlt := h.old g (k.old g hg (Nat.lt_of_lt_of_le hlt h.only.size)) hlt
  fro b hb := by
    rcases k.fro b hb with hb | hb | hb
    · exact h.fro b hb
    · exact .inr (.inl (Nat.le_trans h.only.size hb))
    · rcases Nat.lt_or_ge b w.heap.size with hlt | hge
      · exact .inr (.inr (h.old b hb hlt))
      · exact .inr (.inl hge)
  nam p hp hlt := by
    obtain ⟨q, hq, he⟩ := k.nam p hp (Nat.lt_of_lt_of_le hlt h.nn)
    obtain ⟨q', hq', he'⟩ := h.nam q hq (by omega)
    exact ⟨q', hq', he'.trans he⟩
theorem Ext.same (h : Ext M F N w σ M' F' N' w' σ') (hs : SR M F N w σ) : Same F w w' := h.only.same fun b hb => ⟨hs.flt b hb, fun hB => hs.nof b hB hb⟩
theorem Ext.vr (h : Ext M F N w σ M' F' N' w' σ') (hs : SR M F N w σ) {a : AV} {v : Value} (hv : VR M F w a v) : VR M' F' w' a v := hv.mono h.mm h.ff (h.same hs)
theorem Ext.sub (h : Ext M F N w σ M' F' N' w' σ') (hsub : ∀ p ∈ σ'', p ∈ σ') : Ext M F N w σ M' F' N' w' σ'' :=
  { h with old := fun g ⟨p, hp, hg⟩ hlt => h.old g ⟨p, hsub p hp, hg⟩ hlt, nam := fun p hp hlt => h.nam p (hsub p hp) hlt }
theorem SR.sub (h : SR M F N w σ) (hsub : ∀ p ∈ σ', p ∈ σ) : SR M F N w σ' :=
  ⟨fun p hp => h.ent p (hsub p hp), fun p hp q hq => h.inj p (hsub p hp) q (hsub q hq), fun g ⟨p, hp, hg⟩ => h.nof g ⟨p, hsub p hp, hg⟩, h.flt, h.fresh⟩
end

/-! ### frames -/
abbrev Fr := List (Nat × AV)
def fget : Fr → Nat → Option AV
  | [], _ => none
  | (j, x) :: l, i => if i = j then some x else fget l i

structure ASt where
  fr : Fr
  σ : Sto

def ASt.put (s : ASt) (d : Nat) (x : AV) : ASt := ⟨(d, x) :: s.fr, s.σ⟩

structure Rel (M : Mp) (F : Nat → Prop) (N n : Nat) (s : ASt) (a : Act) (w : World) : Prop where
  size : a.tmps.size = n
  defers : a.defers = []
  fr : ∀ i x, fget s.fr i = some x → VR M F w x (a.tmps.getD i Go.undef)
  st : SR M F N w s.σ

section
variable {M M' : Mp} {F F' : Nat → Prop} {N N' n : Nat} {w w' : World} {s s' : ASt} {a : Act}
theorem Rel.put (h : Rel M F N n s a w) {d : Nat} {x : AV} {v : Value} (hd : d < n) (hv : VR M F w x v) : Rel M F N n (s.put d x) (a.put (some d) v) w where
  size := by simp [Act.put, h.size]
  defers := h.defers
  fr i y hi := by
    simp only [ASt.put, fget] at hi
    by_cases hid : i = d
    · subst hid
      rw [if_pos rfl] at hi
      obtain rfl := Option.some.inj hi
      simp [Act.put, h.size, hd]
      exact hv
    · rw [if_neg hid] at hi
      have := h.fr i y hi
      have he : (a.put (some d) v).tmps.getD i Go.undef = a.tmps.getD i Go.undef := by
        simp [Act.put, Array.getElem?_setIfInBounds_ne (fun e => hid e.symm)]
      rw [he]; exact this
  st := h.st
/-- a step of the world: the frame is kept -/
theorem Rel.step (h : Rel M F N n s a w) (he : Ext M F N w s.σ M' F' N' w' s'.σ) (hs : SR M' F' N' w' s'.σ) (hf : s'.fr = s.fr) : Rel M' F' N' n s' a w' :=
  ⟨h.size, h.defers, fun i x hi => he.vr h.st (h.fr i x (hf ▸ hi)), hs⟩
end

end Go.Proofs.Ytkjfflabapeidaa
