/-
  How Go data read in memory: a class of representations, for numbers, texts, slices and structs; each is kept while the blocks that it reaches are unchanged. No program is named here.
-/
import Derived.Test.YtkjfflabapeidaaBase
import Derived.Deep.RegionHeld3
import Derived.Deep.RegionWith
import Derived.Deep.RegionLaw
import Derived.StillTailTactics
import Derived.WalkSpells
namespace Go.Proofs.Ytkjfflabapeidaa
open Go.RowKit Go.ChangeShapes Go.WideShapes Go.ChangeAt Go.Deep
set_option linter.unusedSimpArgs false
set_option linter.unusedVariables false

/-- The blocks of S hold in w' what they hold in w. -/
def Same (S : Nat → Prop) (w w' : World) : Prop := ∀ b, S b → w'.heap[b]? = w.heap[b]?

theorem Same.refl {S : Nat → Prop} (w : World) : Same S w w := fun _ _ => rfl
theorem Same.trans {S : Nat → Prop} {a b c : World} (h : Same S a b) (k : Same S b c) : Same S a c := fun i hi => (k i hi).trans (h i hi)
theorem Same.mono {S T : Nat → Prop} {a b : World} (h : Same T a b) (hs : ∀ i, S i → T i) : Same S a b := fun i hi => h i (hs i hi)
theorem Same.of_below {S : Nat → Prop} {B : Nat} {w w' : World} (h : Below B w w') (hS : ∀ b, S b → b < B) : Same S w w' := fun b hb => h.block b (hS b hb)
theorem Same.cell {S : Nat → Prop} {w w' : World} (h : Same S w w') {p : Addr} (hp : S p.block) : w'.cell? p = w.cell? p := World.cell?_of_block (h p.block hp)

/-- How a value of a Go type reads: sz cells; S: the blocks that its reading may reach. -/
class Rp (α : Type) where
  sz : Nat
  rep : World → (Nat → Prop) → List Value → α → Prop
  len : ∀ {w S cs x}, rep w S cs x → cs.length = sz
  keep : ∀ {w w' : World} {S : Nat → Prop} {cs x}, Same S w w' → rep w S cs x → rep w' S cs x
  mono : ∀ {w} {S T : Nat → Prop} {cs x}, (∀ b, S b → T b) → rep w S cs x → rep w T cs x
  one : ∀ {w S cs x}, rep w S cs x → ∀ u ∈ cs, u.oneCell' = true

/-- A slice value reads as a list. -/
structure Sl {α : Type} [Rp α] (w : World) (S : Nat → Prop) (A : Option Addr) (n cap : Nat) (xs : List α) : Prop where
  len : xs.length = n
  le : n ≤ cap
  max : cap ≤ maxLen
  nil : A = none → cap = 0
  at_ : ∀ i x, xs[i]? = some x → ∃ b off cs, A = some ⟨b, off, none⟩ ∧ S b ∧ cs.length = Rp.sz α ∧ (∀ j u, cs[j]? = some u → w.cell? ⟨b, off + i * Rp.sz α + j, none⟩ = some u) ∧ Rp.rep w S cs x

theorem Sl.keep {α : Type} [Rp α] {w w' : World} {S : Nat → Prop} {A : Option Addr} {n cap : Nat} {xs : List α} (hk : Same S w w') (h : Sl w S A n cap xs) : Sl w' S A n cap xs :=
  ⟨h.len, h.le, h.max, h.nil, fun i x hx => by
    obtain ⟨b, off, cs, hA, hb, hl, hc, hr⟩ := h.at_ i x hx
    exact ⟨b, off, cs, hA, hb, hl, fun j u hu => (hk.cell (p := ⟨b, off + i * Rp.sz α + j, none⟩) hb).trans (hc j u hu), Rp.keep hk hr⟩⟩
theorem Sl.mono {α : Type} [Rp α] {w : World} {S T : Nat → Prop} {A : Option Addr} {n cap : Nat} {xs : List α} (hs : ∀ b, S b → T b) (h : Sl w S A n cap xs) : Sl w T A n cap xs :=
  ⟨h.len, h.le, h.max, h.nil, fun i x hx => by
    obtain ⟨b, off, cs, hA, hb, hl, hc, hr⟩ := h.at_ i x hx
    exact ⟨b, off, cs, hA, hs b hb, hl, hc, Rp.mono hs hr⟩⟩
theorem Sl.nil_ {α : Type} [Rp α] (w : World) (S : Nat → Prop) : Sl w S none 0 0 ([] : List α) := ⟨rfl, Nat.le_refl _, by simp [maxLen], fun _ => rfl, fun i x hx => by simp at hx⟩

instance {α : Type} [Rp α] : Rp (List α) where
  sz := 1
  rep w S cs xs := ∃ A cap, cs = [.slice A xs.length cap] ∧ Sl w S A xs.length cap xs
  len := by rintro w S cs x ⟨A, cap, rfl, _⟩; rfl
  keep := by rintro w w' S cs x hk ⟨A, cap, rfl, h⟩; exact ⟨A, cap, rfl, h.keep hk⟩
  mono := by rintro w S T cs x hs ⟨A, cap, rfl, h⟩; exact ⟨A, cap, rfl, h.mono hs⟩
  one := by rintro w S cs x ⟨A, cap, rfl, _⟩ u hu; simp at hu; subst hu; rfl

/-- Go's int, int64: a number in its bounds. -/
instance : Rp Int where
  sz := 1
  rep _ _ cs n := cs = [.int .i64 n] ∧ -9223372036854775808 ≤ n ∧ n ≤ 9223372036854775807
  len := by rintro w S cs x ⟨rfl, _⟩; rfl
  keep := fun _ h => h
  mono := fun _ h => h
  one := by rintro w S cs x ⟨rfl, _⟩ u hu; simp at hu; subst hu; rfl

instance : Rp Bool where
  sz := 1
  rep _ _ cs b := cs = [.bool b]
  len := by rintro w S cs x rfl; rfl
  keep := fun _ h => h
  mono := fun _ h => h
  one := by rintro w S cs x rfl u hu; simp at hu; subst hu; rfl

instance : Rp UInt8 where
  sz := 1
  rep _ _ cs n := cs = [.int .u8 n.toNat]
  len := by rintro w S cs x rfl; rfl
  keep := fun _ h => h
  mono := fun _ h => h
  one := by rintro w S cs x rfl u hu; simp at hu; subst hu; rfl

instance : Rp ByteArray where
  sz := 1
  rep _ _ cs s := cs = [.string s] ∧ s.size ≤ maxLen
  len := by rintro w S cs x ⟨rfl, _⟩; rfl
  keep := fun _ h => h
  mono := fun _ h => h
  one := by rintro w S cs x ⟨rfl, _⟩ u hu; simp at hu; subst hu; rfl

/-- api.Val -/
structure Val where
  kind : Int
  n : Int
  deriving DecidableEq, Inhabited, Repr

instance : Rp Val where
  sz := 2
  rep _ _ cs v := cs = [.int .i64 v.kind, .int .i64 v.n] ∧ (-9223372036854775808 ≤ v.kind ∧ v.kind ≤ 9223372036854775807) ∧ -9223372036854775808 ≤ v.n ∧ v.n ≤ 9223372036854775807
  len := by rintro w S cs x ⟨rfl, _⟩; rfl
  keep := fun _ h => h
  mono := fun _ h => h
  one := by rintro w S cs x ⟨rfl, _⟩ u hu; simp at hu; rcases hu with rfl | rfl <;> rfl

/-! ### a row of the call's own whose elements are read -/
def Cells {α : Type} [Rp α] (w : World) (S : Nat → Prop) (css : List (List Value)) (xs : List α) : Prop :=
  css.length = xs.length ∧ ∀ (i : Nat) (cs : List Value) (x : α), css[i]? = some cs → xs[i]? = some x → Rp.rep w S cs x

section
variable {α : Type} [Rp α] {w w' : World} {S T : Nat → Prop} {css dss : List (List Value)} {xs ys : List α}
theorem Cells.nil_ : Cells w S [] ([] : List α) := ⟨rfl, fun i cs x h => by simp at h⟩
theorem Cells.len (h : Cells w S css xs) : ∀ cs ∈ css, cs.length = Rp.sz α := by
  intro cs hcs
  obtain ⟨i, hi, rfl⟩ := List.mem_iff_getElem.1 hcs
  have hx : i < xs.length := by rw [← h.1]; exact hi
  exact Rp.len (h.2 i _ xs[i] (List.getElem?_eq_getElem hi) (List.getElem?_eq_getElem hx))
theorem flat_length {n : Nat} : ∀ {css : List (List Value)}, (∀ cs ∈ css, cs.length = n) → css.flatten.length = css.length * n
  | [], _ => by simp
  | cs :: css, h => by
    rw [List.flatten_cons, List.length_append, flat_length (fun c hc => h c (by simp [hc])), h cs (by simp), List.length_cons, Nat.succ_mul]; omega
theorem flat_get {n : Nat} : ∀ {css : List (List Value)} (_ : ∀ cs ∈ css, cs.length = n) {i j : Nat} {cs : List Value} {u : Value}, css[i]? = some cs → cs[j]? = some u → css.flatten[i * n + j]? = some u
  | [], _, i, j, cs, u, h, _ => by simp at h
  | c :: css, hl, 0, j, cs, u, h, hu => by
    have hc : c = cs := by simpa using h
    subst hc
    have hj : j < c.length := (List.getElem?_eq_some_iff.1 hu).1
    rw [List.flatten_cons, Nat.zero_mul, Nat.zero_add, List.getElem?_append_left hj]
    exact hu
  | c :: css, hl, i + 1, j, cs, u, h, hu => by
    have hc := hl c (by simp)
    rw [List.flatten_cons, List.getElem?_append_right (by rw [hc, Nat.succ_mul]; omega)]
    rw [show (i + 1) * n + j - c.length = i * n + j by rw [hc, Nat.succ_mul]; omega]
    exact flat_get (fun c' hc' => hl c' (by simp [hc'])) (by simpa using h) hu
theorem Cells.flat (h : Cells w S css xs) : css.flatten.length = xs.length * Rp.sz α := by rw [flat_length h.len, h.1]
theorem Cells.get (h : Cells w S css xs) {i j : Nat} {cs : List Value} {u : Value} (hi : css[i]? = some cs) (hj : cs[j]? = some u) : css.flatten[i * Rp.sz α + j]? = some u := flat_get h.len hi hj
theorem Cells.keep (hk : Same S w w') (h : Cells w S css xs) : Cells w' S css xs := ⟨h.1, fun i cs x hi hx => Rp.keep hk (h.2 i cs x hi hx)⟩
theorem Cells.mono (hs : ∀ b, S b → T b) (h : Cells w S css xs) : Cells w T css xs := ⟨h.1, fun i cs x hi hx => Rp.mono hs (h.2 i cs x hi hx)⟩
theorem Cells.append (h : Cells w S css xs) (k : Cells w S dss ys) : Cells w S (css ++ dss) (xs ++ ys) := by
  refine ⟨by rw [List.length_append, List.length_append, h.1, k.1], fun i cs x hi hx => ?_⟩
  rcases Nat.lt_or_ge i css.length with hlt | hge
  · rw [List.getElem?_append_left hlt] at hi
    rw [List.getElem?_append_left (by rw [← h.1]; exact hlt)] at hx
    exact h.2 i cs x hi hx
  · rw [List.getElem?_append_right hge] at hi
    rw [List.getElem?_append_right (by rw [← h.1]; exact hge), ← h.1] at hx
    exact k.2 _ cs x hi hx
theorem Cells.single {cs : List Value} {x : α} (h : Rp.rep w S cs x) : Cells w S [cs] [x] := ⟨rfl, fun i cs' x' hi hx => by
  match i, hi, hx with
  | 0, hi, hx => simp at hi hx; subst hi; subst hx; exact h
  | i + 1, hi, _ => simp at hi⟩
theorem Cells.one (h : Cells w S css xs) : ∀ u ∈ css.flatten, u.oneCell' = true := by
  intro u hu
  obtain ⟨cs, hcs, hu⟩ := List.mem_flatten.1 hu
  obtain ⟨i, hi, rfl⟩ := List.mem_iff_getElem.1 hcs
  have hx : i < xs.length := by rw [← h.1]; exact hi
  exact Rp.one (h.2 i _ xs[i] (List.getElem?_eq_getElem hi) (List.getElem?_eq_getElem hx)) u hu
theorem Cells.ex (h : Cells w S css xs) {i : Nat} {x : α} (hx : xs[i]? = some x) : ∃ cs, css[i]? = some cs ∧ Rp.rep w S cs x := by
  have hi : i < css.length := by rw [h.1]; exact (List.getElem?_eq_some_iff.1 hx).1
  exact ⟨css[i], List.getElem?_eq_getElem hi, h.2 i _ x (List.getElem?_eq_getElem hi) hx⟩
end

/-- The slice value v of n elements of type e is the call's own row (blocks from B on); it reads as xs; its elements lead to blocks of S, the row's own block not among them. -/
def Own {α : Type} [Rp α] (w : World) (B : Nat) (e : TypeId) (v : Value) (S : Nat → Prop) (xs : List α) : Prop :=
  ∃ css, w.ownsRow B e (Rp.sz α) v xs.length css.flatten ∧ Cells w S css xs ∧ ∀ g, v.ownBlock = some g → ¬ S g

section
variable {α : Type} [Rp α] {w w' : World} {B B' : Nat} {e : TypeId} {v : Value} {S T : Nat → Prop} {xs ys : List α}
theorem Own.nil_ (w : World) (B : Nat) (e : TypeId) (S : Nat → Prop) : Own w B e (.slice none 0 0) S ([] : List α) := ⟨[], World.ownsRow_nil w B e _, Cells.nil_, fun g h => by simp [Value.ownBlock] at h⟩
theorem Own.slice (h : Own w B e v S xs) : ∃ A cap, v = .slice A xs.length cap ∧ xs.length ≤ cap ∧ cap ≤ maxLen := by
  obtain ⟨css, h1, _⟩ := h
  rcases h1.2 with ⟨rfl, h0⟩ | ⟨g, cap, cur, rfl, _, _, hn, hm, _⟩
  · exact ⟨none, 0, by rw [h0], by omega, by simp [maxLen]⟩
  · exact ⟨_, cap, rfl, hn, hm⟩
theorem Own.blk (h : Own w B e v S xs) : ∀ g, v.ownBlock = some g → B ≤ g ∧ g < w.heap.size := by obtain ⟨css, h1, _⟩ := h; exact h1.lt
theorem Own.base (h : Own w B e v S xs) (hB : B' ≤ B) : Own w B' e v S xs := by
  obtain ⟨css, h1, h2, h3⟩ := h
  refine ⟨css, ⟨h1.1, ?_⟩, h2, h3⟩
  rcases h1.2 with h0 | ⟨g, cap, cur, hv, hb, r⟩
  · exact .inl h0
  · exact .inr ⟨g, cap, cur, hv, by omega, r⟩
theorem Own.keep (hk : Same (fun b => S b ∨ v.ownBlock = some b) w w') (h : Own w B e v S xs) : Own w' B e v S xs := by
  obtain ⟨css, h1, h2, h3⟩ := h
  refine ⟨css, ⟨h1.1, ?_⟩, h2.keep (hk.mono fun i hi => .inl hi), h3⟩
  rcases h1.2 with h0 | ⟨g, cap, cur, rfl, hb, hg, r⟩
  · exact .inl h0
  · exact .inr ⟨g, cap, cur, rfl, hb, (hk g (.inr rfl)).trans hg, r⟩
/-- as a reading -/
theorem Own.sl (h : Own w B e v S xs) : ∃ A cap, v = .slice A xs.length cap ∧ Sl w (fun b => S b ∨ v.ownBlock = some b) A xs.length cap xs := by
  obtain ⟨css, h1, h2, h3⟩ := h
  rcases h1.2 with ⟨rfl, h0⟩ | ⟨g, cap, cur, rfl, hb, hg, hn, hm, _⟩
  · have : xs = [] := List.eq_nil_of_length_eq_zero h0
    subst this
    exact ⟨none, 0, rfl, Sl.nil_ _ _⟩
  · refine ⟨_, cap, rfl, rfl, hn, hm, (fun h => by cases h), fun i x hx => ?_⟩
    obtain ⟨cs, hi, hr⟩ := h2.ex hx
    refine ⟨g, 0, cs, rfl, .inr rfl, Rp.len hr, fun j u hu => ?_, Rp.mono (fun b hb => .inl hb) hr⟩
    have := h1.cells (g := g) rfl _ u (h2.get hi hu)
    rw [Nat.zero_add]
    simpa [Addr.add_lit] using this
theorem Own.more (hs : ∀ b, S b → T b) (hv : ∀ g, v.ownBlock = some g → ¬ T g) (h : Own w B e v S xs) : Own w B e v T xs := by
  obtain ⟨css, h1, h2, _⟩ := h
  exact ⟨css, h1, h2.mono hs, hv⟩
theorem Own.below {C : Nat} (hb : Below C w w') (hC : ∀ b, S b → b < C) (hv : ∀ g, v.ownBlock = some g → g < C) (h : Own w B e v S xs) : Own w' B e v S xs :=
  h.keep (Same.of_below hb fun b hb => by
    rcases hb with hb | hb
    · exact hC b hb
    · exact hv b hb)
end

theorem Own.sliceE {α : Type} [Rp α] {w : World} {B : Nat} {e : TypeId} {v : Value} {S : Nat → Prop} {xs : List α} (h : Own w B e v S xs) {n : Nat} (hn : xs.length = n) : ∃ A cap, v = .slice A n cap ∧ n ≤ cap ∧ cap ≤ maxLen ∧ Own w B e (.slice A n cap) S xs := by
  subst hn
  obtain ⟨A, cap, rfl, h1, h2⟩ := h.slice
  exact ⟨A, cap, rfl, h1, h2, h⟩

/-- A slice that is read, as its flat cells. -/
theorem Sl.rows {α : Type} [Rp α] {w : World} {S : Nat → Prop} {A : Option Addr} {n cap : Nat} {xs : List α} (h : Sl w S A n cap xs) (B : Nat) (hS : ∀ b, S b → b < B) :
    ∃ css, Reads w B (Rp.sz α) A n css.flatten ∧ Cells w S css xs := by
  have hex : ∀ i : Nat, ∃ cs : List Value, ∀ x, xs[i]? = some x → ∃ b off, A = some ⟨b, off, none⟩ ∧ S b ∧ cs.length = Rp.sz α ∧ (∀ j u, cs[j]? = some u → w.cell? ⟨b, off + i * Rp.sz α + j, none⟩ = some u) ∧ Rp.rep w S cs x := by
    intro i
    by_cases hi : i < xs.length
    · obtain ⟨b, off, cs, r⟩ := h.at_ i xs[i] (List.getElem?_eq_getElem hi)
      refine ⟨cs, fun x hx => ?_⟩
      rw [List.getElem?_eq_getElem hi] at hx
      obtain rfl := Option.some.inj hx
      exact ⟨b, off, r⟩
    · exact ⟨[], fun x hx => absurd (List.getElem?_eq_some_iff.1 hx).1 hi⟩
  obtain ⟨f, hf⟩ := Classical.axiomOfChoice hex
  have hcells : Cells w S ((List.range xs.length).map f) xs := by
    refine ⟨by simp, fun i cs x hi hx => ?_⟩
    have hlt : i < xs.length := (List.getElem?_eq_some_iff.1 hx).1
    rw [List.getElem?_map, List.getElem?_range hlt] at hi
    obtain rfl := Option.some.inj hi
    obtain ⟨_, _, _, _, _, _, hr⟩ := hf i x hx
    exact hr
  refine ⟨(List.range xs.length).map f, ⟨by rw [hcells.flat, h.len], fun hn => ?_⟩, hcells⟩
  have h0 : 0 < xs.length := by rw [h.len]; exact hn
  obtain ⟨b, off, hA, hb, _⟩ := hf 0 xs[0] (List.getElem?_eq_getElem h0)
  refine ⟨_, hA, hS b hb, fun k u hu => ?_⟩
  have hsz : 0 < Rp.sz α := by
    rcases Nat.eq_zero_or_pos (Rp.sz α) with hz | hz
    · have := (List.getElem?_eq_some_iff.1 hu).1
      rw [hcells.flat, hz, Nat.mul_zero] at this
      omega
    · exact hz
  have hk : k < xs.length * Rp.sz α := by have := (List.getElem?_eq_some_iff.1 hu).1; rw [hcells.flat] at this; exact this
  have hi : k / Rp.sz α < xs.length := (Nat.div_lt_iff_lt_mul hsz).2 hk
  obtain ⟨b', off', hA', _, hl, hc, _⟩ := hf (k / Rp.sz α) xs[k / Rp.sz α] (List.getElem?_eq_getElem hi)
  rw [hA] at hA'
  obtain ⟨rfl, rfl⟩ : b = b' ∧ off = off' := by simpa using hA'
  have hj : k % Rp.sz α < (f (k / Rp.sz α)).length := by rw [hl]; exact Nat.mod_lt _ hsz
  have hget := hcells.get (i := k / Rp.sz α) (j := k % Rp.sz α) (by rw [List.getElem?_map, List.getElem?_range hi]; rfl) (List.getElem?_eq_getElem hj)
  have hdm : k / Rp.sz α * Rp.sz α + k % Rp.sz α = k := by rw [Nat.mul_comm]; exact Nat.div_add_mod k _
  rw [hdm] at hget
  rw [hget] at hu
  have hu' := Option.some.inj hu
  have := hc (k % Rp.sz α) u (by rw [List.getElem?_eq_getElem hj, hu'])
  rw [Nat.add_assoc, hdm] at this
  unfold Addr.add
  split
  · next h => subst h; simpa using this
  · exact this

section
variable {α : Type} [Rp α] {P : Program} (w : World)
theorem run_append_rows {S T : Nat → Prop} {base : Nat} (t ty e : TypeId) (i : TypeInfo) (z : Value) (bytes : Nat) (ht : P.underlying t = some (.slice e)) (hi : P.info? e = some i) (hz : i.zero = some z)
    (hsize : i.size = Rp.sz α) (hby : i.bytes = bytes) (hzs : z.cells.size = Rp.sz α) (hsz : 0 < Rp.sz α)
    {v : Value} {xs : List α} (hown : Own w base e v S xs) {A : Option Addr} {m c : Nat} {dss : List (List Value)} {ys : List α} (hr : Reads w w.heap.size (Rp.sz α) A m dss.flatten) (hd : Cells w T dss ys)
    (h63 : xs.length + m ≤ maxLen) (hbytes : (xs.length + m) * bytes ≤ 140737488355328) (hbase : base ≤ w.heap.size)
    (hS : ∀ b, S b → b < w.heap.size) (hT : ∀ b, T b → b < w.heap.size ∧ v.ownBlock ≠ some b) :
    ∃ v' w', (Builtin.append_ #[t, t] ty #[v, .slice A m c]).run P w = .ok v' w' ∧ Own w' base e v' (fun b => S b ∨ T b) (xs ++ ys) ∧ w.grownBy w' v.ownBlock ∧
      (v'.ownBlock = v.ownBlock ∨ v'.ownBlock = some w.heap.size) := by
  obtain ⟨css, h1, h2, h3⟩ := hown
  have hm : m = ys.length := by
    have := hr.1; rw [hd.flat] at this; exact (Nat.eq_of_mul_eq_mul_right hsz this).symm
  subst hm
  obtain ⟨v', w', hrun, ho, hg, hb⟩ := run_append_any (P := P) w base t ty e i z (Rp.sz α) bytes ht hi hz hsize hby hzs hsz v xs.length css.flatten h1 w.heap.size A ys.length c dss.flatten hr hd.one h63 hbytes hbase
  refine ⟨v', w', hrun, ⟨css ++ dss, by rw [List.flatten_append, List.length_append]; exact ho, ?_, ?_⟩, hg, hb⟩
  · have hsame : Same (fun b => S b ∨ T b) w w' := fun b hb' => hg.block b (by
      rcases hb' with hb' | hb'
      · exact hS b hb'
      · exact (hT b hb').1) (by
      rcases hb' with hb' | hb'
      · intro e; exact h3 b e.symm hb'
      · exact fun e => (hT b hb').2 e.symm)
    exact ((h2.mono fun b hb => .inl hb).append (hd.mono fun b hb => .inr hb)).keep hsame
  · intro g hg' hst
    have hlt : g < w.heap.size := by
      rcases hst with hst | hst
      · exact hS g hst
      · exact (hT g hst).1
    rcases hb with hb | hb
    · rw [hb] at hg'
      rcases hst with hst | hst
      · exact h3 g hg' hst
      · exact (hT g hst).2 hg'
    · rw [hb] at hg'
      have : w.heap.size = g := by simpa using hg'
      omega

/-- append(s, x...) onto a row of the call's own, x a slice that is read -/
theorem wpList_append_sl {ops : Array Oper} {rest : List Oper} {o : Oper} {a : Act} {Q : Exit → Act → World → Prop} (hgd : o.guard = none) (s x : Operand) (t : TypeId)
    (ho : o.op = .call { callee := .builtin .append, args := #[s, x], argTypes := #[t, t] }) {S T : Nat → Prop} {base : Nat} (e : TypeId) (i : TypeInfo) (z : Value) (bytes : Nat) (ht : P.underlying t = some (.slice e)) (hi : P.info? e = some i) (hz : i.zero = some z)
    (hsize : i.size = Rp.sz α) (hby : i.bytes = bytes) (hzs : z.cells.size = Rp.sz α) (hsz : 0 < Rp.sz α)
    {v : Value} {xs : List α} (hs : a.eval s = v) (hown : Own w base e v S xs) {A : Option Addr} {m c : Nat} {ys : List α} (hx : a.eval x = .slice A m c) (hr : Sl w T A m c ys)
    (h63 : xs.length + m ≤ maxLen) (hbytes : (xs.length + m) * bytes ≤ 140737488355328) (hbase : base ≤ w.heap.size)
    (hS : ∀ b, S b → b < w.heap.size) (hT : ∀ b, T b → b < w.heap.size ∧ v.ownBlock ≠ some b)
    (n : Nat) (hn : xs.length + ys.length = n)
    (h : ∀ A' c' w', Own w' base e (.slice A' n c') (fun b => S b ∨ T b) (xs ++ ys) → w.grownBy w' v.ownBlock → ((Value.slice A' n c').ownBlock = v.ownBlock ∨ (Value.slice A' n c').ownBlock = some w.heap.size) → wpList P ops Q rest (a.put o.dst (.slice A' n c')) w') : wpList P ops Q (o :: rest) a w :=
  wpList_plain hgd fun _ hK => by
    obtain ⟨dss, hr1, hr2⟩ := hr.rows w.heap.size fun b hb => (hT b hb).1
    obtain ⟨v', w', hrun, h2, h3, h4⟩ := run_append_rows (P := P) (c := c) w t o.type e i z bytes ht hi hz hsize hby hzs hsz hown hr1 hr2 h63 hbytes hbase hS hT
    unfold Oper.wp execOp
    simp only [ho, resolve, invoke, builtin, Sem.run_bind, Sem.run_pure, Result.andThen_ok, List.map_toArray, List.map_cons, List.map_nil, hs, hx, hrun]
    obtain ⟨A', c', rfl, _, _, h2'⟩ := h2.sliceE (n := n) (by rw [List.length_append, hn])
    exact hK _ _ (h A' c' w' h2' h3 h4)

/-- append(s, y): the one element y lies in the block g -/
theorem wpList_append_push {ops : Array Oper} {rest : List Oper} {o : Oper} {a : Act} {Q : Exit → Act → World → Prop} (hgd : o.guard = none) (s x : Operand) (t : TypeId)
    (ho : o.op = .call { callee := .builtin .append, args := #[s, x], argTypes := #[t, t] }) {S T : Nat → Prop} {base : Nat} (e : TypeId) (i : TypeInfo) (z : Value) (bytes : Nat) (ht : P.underlying t = some (.slice e)) (hi : P.info? e = some i) (hz : i.zero = some z)
    (hsize : i.size = Rp.sz α) (hby : i.bytes = bytes) (hzs : z.cells.size = Rp.sz α) (hsz : 0 < Rp.sz α)
    {v : Value} {xs : List α} (hs : a.eval s = v) (hown : Own w base e v S xs) {g c : Nat} {y : α} {cs : List Value} (hx : a.eval x = .slice (some ⟨g, 0, none⟩) 1 c) (hg : ∀ j u, cs[j]? = some u → w.cell? ⟨g, j, none⟩ = some u) (hy : Rp.rep w T cs y)
    (h63 : xs.length + 1 ≤ maxLen) (hbytes : (xs.length + 1) * bytes ≤ 140737488355328) (hbase : base ≤ w.heap.size)
    (hS : ∀ b, S b → b < w.heap.size) (hT : ∀ b, T b → b < w.heap.size ∧ v.ownBlock ≠ some b)
    (n : Nat) (hn : xs.length + 1 = n)
    (h : ∀ A' c' w', Own w' base e (.slice A' n c') (fun b => S b ∨ T b) (xs ++ [y]) → w.grownBy w' v.ownBlock → ((Value.slice A' n c').ownBlock = v.ownBlock ∨ (Value.slice A' n c').ownBlock = some w.heap.size) → wpList P ops Q rest (a.put o.dst (.slice A' n c')) w') : wpList P ops Q (o :: rest) a w :=
  wpList_plain hgd fun _ hK => by
    have hcl := Rp.len hy
    have hr1 : Reads w w.heap.size (Rp.sz α) (some ⟨g, 0, none⟩) 1 [cs].flatten := by
      refine ⟨by simp [hcl], fun _ => ⟨_, rfl, ?_, fun j u hu => ?_⟩⟩
      · exact World.block_lt_of_cell? w ⟨g, 0, none⟩ (hg 0 (cs[0]'(by omega)) (List.getElem?_eq_getElem (by omega)))
      · rw [show (⟨g, 0, none⟩ : Addr).add j = ⟨g, j, none⟩ by simp [Addr.add_lit]]
        exact hg j u (by simpa using hu)
    obtain ⟨v', w', hrun, h2, h3, h4⟩ := run_append_rows (P := P) (c := c) w t o.type e i z bytes ht hi hz hsize hby hzs hsz hown hr1 (Cells.single hy) h63 hbytes hbase hS hT
    unfold Oper.wp execOp
    simp only [ho, resolve, invoke, builtin, Sem.run_bind, Sem.run_pure, Result.andThen_ok, List.map_toArray, List.map_cons, List.map_nil, hs, hx, hrun]
    obtain ⟨A', c', rfl, _, _, h2'⟩ := h2.sliceE (n := n) (by rw [List.length_append, ← hn]; rfl)
    exact hK _ _ (h A' c' w' h2' h3 h4)
end

/-- A type whose reading ends in its own cells. -/
class Flat (α : Type) [Rp α] : Prop where
  flat : ∀ {w w' : World} {S T : Nat → Prop} {cs : List Value} {x : α}, Rp.rep w S cs x → Rp.rep w' T cs x
instance : Flat Int := ⟨fun h => h⟩
instance : Flat Bool := ⟨fun h => h⟩
instance : Flat UInt8 := ⟨fun h => h⟩
instance : Flat ByteArray := ⟨fun h => h⟩
instance : Flat Val := ⟨fun h => h⟩
theorem Own.flat {α : Type} [Rp α] [Flat α] {w : World} {B : Nat} {e : TypeId} {v : Value} {S : Nat → Prop} {xs : List α} (h : Own w B e v S xs) : Own w B e v (fun _ => False) xs := by
  obtain ⟨css, h1, h2, _⟩ := h
  exact ⟨css, h1, ⟨h2.1, fun i cs x hi hx => Flat.flat (h2.2 i cs x hi hx)⟩, fun _ _ h => h⟩
theorem Sl.flat {α : Type} [Rp α] [Flat α] {w : World} {S : Nat → Prop} {A : Option Addr} {n cap : Nat} {xs : List α} (h : Sl w S A n cap xs) : Sl w (fun b => ∃ ad, A = some ad ∧ ad.block = b) A n cap xs :=
  ⟨h.len, h.le, h.max, h.nil, fun i x hx => by
    obtain ⟨b, off, cs, hA, hb, hl, hc, hr⟩ := h.at_ i x hx
    exact ⟨b, off, cs, hA, ⟨_, hA, rfl⟩, hl, hc, Flat.flat hr⟩⟩
/-- An owned row of flat elements, as a reading in its own block. -/
theorem Own.slF {α : Type} [Rp α] [Flat α] {w : World} {B : Nat} {e : TypeId} {v : Value} {S : Nat → Prop} {xs : List α} (h : Own w B e v S xs) : ∃ A cap, v = .slice A xs.length cap ∧ Sl w (fun b => v.ownBlock = some b) A xs.length cap xs := by
  obtain ⟨A, cap, hv, hs⟩ := h.flat.sl
  exact ⟨A, cap, hv, hs.mono fun b hb => hb.elim False.elim id⟩

theorem Own.orF {α : Type} [Rp α] {w : World} {B : Nat} {e : TypeId} {v : Value} {S : Nat → Prop} {xs : List α} (h : Own w B e v (fun b => False ∨ S b) xs) : Own w B e v S xs :=
  h.more (fun _ hb => hb.elim False.elim id) (by
    obtain ⟨_, _, _, h3⟩ := h
    exact fun g hg hs => h3 g hg (.inr hs))
theorem own_made {α : Type} [Rp α] (w : World) (e : TypeId) : Own (w.alloc (.cells #[] e)) w.heap.size e (.slice (some ⟨w.heap.size, 0, none⟩) 0 0) (fun _ => False) ([] : List α) :=
  ⟨[], World.ownsRow_made w #[] 0 (Nat.le_refl _) (Nat.zero_le _) (by simp), Cells.nil_, fun _ _ h => h⟩

section
variable {α : Type} [Rp α] {P : Program} (w : World)
/-- append(s, y) inside a region: the one element y lies in the block g -/
theorem step_append_push {ops : Array Oper} {o : Oper} {a : Act} {K : Act → World → Prop} {Q : Exit → Act → World → Prop} {E : Prop} (hgd : o.guard = none) (s x : Operand) (t : TypeId)
    (ho : o.op = .call { callee := .builtin .append, args := #[s, x], argTypes := #[t, t] }) {S T : Nat → Prop} {base : Nat} (e : TypeId) (i : TypeInfo) (z : Value) (bytes : Nat) (ht : P.underlying t = some (.slice e)) (hi : P.info? e = some i) (hz : i.zero = some z)
    (hsize : i.size = Rp.sz α) (hby : i.bytes = bytes) (hzs : z.cells.size = Rp.sz α) (hsz : 0 < Rp.sz α)
    {v : Value} {xs : List α} (hs : a.eval s = v) (hown : Own w base e v S xs) {g c : Nat} {y : α} {cs : List Value} (hx : a.eval x = .slice (some ⟨g, 0, none⟩) 1 c) (hg : ∀ j u, cs[j]? = some u → w.cell? ⟨g, j, none⟩ = some u) (hy : Rp.rep w T cs y)
    (h63 : xs.length + 1 ≤ maxLen) (hbytes : (xs.length + 1) * bytes ≤ 140737488355328) (hbase : base ≤ w.heap.size)
    (hS : ∀ b, S b → b < w.heap.size) (hT : ∀ b, T b → b < w.heap.size ∧ v.ownBlock ≠ some b)
    (n : Nat) (hn : xs.length + 1 = n)
    (h : ∀ A' c' w', Own w' base e (.slice A' n c') (fun b => S b ∨ T b) (xs ++ [y]) → w.grownBy w' v.ownBlock → ((Value.slice A' n c').ownBlock = v.ownBlock ∨ (Value.slice A' n c').ownBlock = some w.heap.size) → K (a.put o.dst (.slice A' n c')) w') :
    if Region.wanted o (yielded ops a.tmps) = true then Oper.wp P o a w K Q else E := by
  have hw : Region.wanted o (yielded ops a.tmps) = true := by simp [Region.wanted, hgd]
  rw [if_pos hw]
  have hcl := Rp.len hy
  have hr1 : Reads w w.heap.size (Rp.sz α) (some ⟨g, 0, none⟩) 1 [cs].flatten := by
    refine ⟨by simp [hcl], fun _ => ⟨_, rfl, ?_, fun j u hu => ?_⟩⟩
    · exact World.block_lt_of_cell? w ⟨g, 0, none⟩ (hg 0 (cs[0]'(by omega)) (List.getElem?_eq_getElem (by omega)))
    · rw [show (⟨g, 0, none⟩ : Addr).add j = ⟨g, j, none⟩ by simp [Addr.add_lit]]
      exact hg j u (by simpa using hu)
  obtain ⟨v', w', hrun, h2, h3, h4⟩ := run_append_rows (P := P) (c := c) w t o.type e i z bytes ht hi hz hsize hby hzs hsz hown hr1 (Cells.single hy) h63 hbytes hbase hS hT
  unfold Oper.wp execOp
  simp only [ho, resolve, invoke, builtin, Sem.run_bind, Sem.run_pure, Result.andThen_ok, List.map_toArray, List.map_cons, List.map_nil, hs, hx, hrun]
  obtain ⟨A', c', rfl, _, _, h2'⟩ := h2.sliceE (n := n) (by rw [List.length_append, ← hn]; rfl)
  exact h A' c' w' h2' h3 h4
end
theorem Same.alloc {S : Nat → Prop} (w : World) (o : Obj) (hS : ∀ b, S b → b < w.heap.size) : Same S w (w.alloc o) := fun b hb => Below.heap_alloc w o b (hS b hb)
theorem Same.below {S : Nat → Prop} {w w' : World} (h : Below w.heap.size w w') (hS : ∀ b, S b → b < w.heap.size) : Same S w w' := Same.of_below h hS
theorem Same.setCell {S : Nat → Prop} (w : World) (p : Addr) (u : Value) (hS : ¬ S p.block) : Same S w (w.setCell p u) := fun b hb => Below.heap_setCell w p u b (fun e => hS (e ▸ hb))
theorem Same.grown {S : Nat → Prop} {w w' : World} {row : Option Nat} (h : w.grownBy w' row) (hS : ∀ b, S b → b < w.heap.size ∧ row ≠ some b) : Same S w w' := fun b hb => h.block b (hS b hb).1 (fun e => (hS b hb).2 e.symm)

theorem Same.drew {S : Nat → Prop} (w : World) : Same S w w.drew := fun _ _ => rfl
theorem Same.drewN {S : Nat → Prop} (w : World) (n : Nat) : Same S w (w.drewN n) := fun _ _ => rfl
theorem Sl.drew {α : Type} [Rp α] {w : World} {S : Nat → Prop} {A : Option Addr} {n cap : Nat} {xs : List α} (h : Sl w S A n cap xs) : Sl w.drew S A n cap xs := h.keep (Same.drew w)
theorem Sl.drewN {α : Type} [Rp α] {w : World} {S : Nat → Prop} {A : Option Addr} {n cap : Nat} {xs : List α} (h : Sl w S A n cap xs) (k : Nat) : Sl (w.drewN k) S A n cap xs := h.keep (Same.drewN w k)
theorem Sl.alloc {α : Type} [Rp α] {w : World} {S : Nat → Prop} {A : Option Addr} {n cap : Nat} {xs : List α} (h : Sl w S A n cap xs) (hS : ∀ b, S b → b < w.heap.size) (o : Obj) : Sl (w.alloc o) S A n cap xs := h.keep (Same.alloc w o hS)
theorem Sl.below {α : Type} [Rp α] {w w' : World} {S : Nat → Prop} {A : Option Addr} {n cap : Nat} {xs : List α} (h : Sl w S A n cap xs) (hb : Below w.heap.size w w') (hS : ∀ b, S b → b < w.heap.size) : Sl w' S A n cap xs := h.keep (Same.below hb hS)

/-- A call of a Go function as one step of a region, by its contract. -/
theorem step_call {P : Program} {f : FuncId} (hf : ∀ args w, (callFunc f args).run P w = .ok (.enter f args) w) {ops : Array Oper} {dst : Option Tmp} {xs : List Operand} {ats : Array TypeId} {ty : TypeId} {pos : String} {after : Array Edge}
    {a : Act} {w : World} {K : Act → World → Prop} {Q : Exit → Act → World → Prop} {E : Prop} {args : List Value} (hargs : xs.map a.eval = args) {R : Ending → World → Prop} (hc : Calls P f args.toArray w R)
    (h : ∀ e w', R e w' → ∃ v, e = .returned v ∧ K (a.put dst v) w') :
    if Region.wanted { dst, op := .call { callee := .value (.func f), args := xs.toArray, argTypes := ats }, type := ty, pos, after, guard := none } (yielded ops a.tmps) = true then
      Oper.wp P { dst, op := .call { callee := .value (.func f), args := xs.toArray, argTypes := ats }, type := ty, pos, after, guard := none } a w K Q else E := by
  have hw : Region.wanted { dst, op := .call { callee := .value (.func f), args := xs.toArray, argTypes := ats }, type := ty, pos, after, guard := none } (yielded ops a.tmps) = true := by simp [Region.wanted]
  rw [if_pos hw]
  unfold Oper.wp
  rw [execOp_call_go, Array.append_empty, Array.empty_append, List.map_toArray, hargs, hf]
  show Calls P f args.toArray w _
  exact hc.mono fun e w' hr => by
    obtain ⟨v, rfl, hk⟩ := h e w' hr
    exact hk

/-! ### A region that draws its order, in one order: loads that nobody turns before they come up are taken first -/
section
variable {P : Program} {ops : Array Oper} {Q : Exit → Act → World → Prop} {md : Region.Mode} {S : World → Prop} {E : Nat → Bool}

/-- Whatever order is picked from here on; every operation but those of E leaves the condition S as true as it was. -/
def wpAnyE (P : Program) (md : Region.Mode) (ops : Array Oper) (Q : Exit → Act → World → Prop) (S : World → Prop) (E : Nat → Bool) : Nat → Array Bool → Act → World → Prop
  | 0, listed, a, w => Region.ready md ops listed = [] ∧ Q .normal a w
  | fuel + 1, listed, a, w =>
    (Region.ready md ops listed = [] → Q .normal a w) ∧
    ∀ i ∈ Region.ready md ops listed, wpOp P ops Q i (fun a' w' => (E i = true ∨ (S w → S w')) ∧ wpAnyE P md ops Q S E fuel (listed.setIfInBounds i true) a' w') a w

theorem wpAny_of_E : ∀ (fuel : Nat) (listed : Array Bool) (a : Act) (w : World), wpAnyE P md ops Q S E fuel listed a w → wpAny P md ops Q fuel listed a w
  | 0, _, _, _, h => h
  | fuel + 1, _, _, _, h => ⟨h.1, fun i hi => wpOp_mono (fun a' w' h' => wpAny_of_E fuel _ a' w' h'.2) (h.2 i hi)⟩

/-- Every operation of E waits for number i itself. -/
def waitsB (md : Region.Mode) (ops : Array Oper) (E : Nat → Bool) (i : Nat) : Bool :=
  (List.range ops.size).all fun j => !E j || j == i || ((ops[j]?).map (·.after.any fun e => Region.binds md e && e.on == i)).getD true

theorem waitsB_spec {i j : Nat} {oj : Oper} (h : waitsB md ops E i = true) (hj : ops[j]? = some oj) (hE : E j = true) (hne : j ≠ i) : ∃ e ∈ oj.after, Region.binds md e = true ∧ e.on = i := by
  have hlt : j < ops.size := (Array.getElem?_eq_some_iff.1 hj).1
  have h1 := List.all_eq_true.1 h j (List.mem_range.2 hlt)
  simp only [hE, hj, Bool.not_true, Bool.false_or, Bool.or_eq_true, beq_iff_eq, hne, false_or, Option.map_some, Option.getD_some] at h1
  rw [Array.any_eq_true'] at h1
  obtain ⟨e, he, hb⟩ := h1
  simp only [Bool.and_eq_true, beq_iff_eq] at hb
  exact ⟨e, he, hb.1, hb.2⟩

theorem wpAnyE_first {C : World → Prop} {i : Nat} {oi : Oper} {v : Value} (hi : ops[i]? = some oi) (hsel : ∀ (j : Nat) (o : Oper) cs b, ops[j]? = some o → o.op ≠ .select cs b)
    (hQ : ∀ c a w, Q (.panic c) (a.put oi.dst v) w → Q (.panic c) a w) 
    (hE : ∀ (j : Nat) (oj : Oper) (w w' : World), ops[j]? = some oj → j ≠ i → (∀ e ∈ oj.after, Region.binds md e = true → e.on ≠ i) → (E j = true ∨ (S w → S w')) → C w → C w') :
    ∀ (fuel : Nat) (listed : Array Bool) (a : Act) (w : World),
      (∀ j oj, ops[j]? = some oj → j ≠ i → listed.getD j true = false → (∀ e ∈ oj.after, Region.binds md e = true → e.on ≠ i) → oi.apart ops oj = true) →
      i ∈ Region.ready md ops listed → YieldsIf P ops C oi v a → C w →
      wpAnyE P md ops Q S E fuel (listed.setIfInBounds i true) (a.put oi.dst v) w → wpAnyE P md ops Q S E (fuel + 1) listed a w := by
  intro fuel
  induction fuel with
  | zero =>
    intro listed a w _ hr hy hS H
    refine ⟨fun h => (by rw [h] at hr; cases hr), fun j hj => ?_⟩
    by_cases hji : j = i
    · subst hji; exact hy.wpOp hi hS ⟨.inr id, H⟩
    · have := ready_mono hj hji
      rw [H.1] at this
      cases this
  | succ fuel ih =>
    intro listed a w hfree hr hy hS H
    refine ⟨fun h => (by rw [h] at hr; cases hr), fun j hj => ?_⟩
    by_cases hji : j = i
    · subst hji; exact hy.wpOp hi hS ⟨.inr id, H⟩
    · have h1 := H.2 j (ready_mono hj hji)
      obtain ⟨hjun, oj, hoj, hall⟩ := mem_ready.1 hj
      have hnot : ∀ e ∈ oj.after, Region.binds md e = true → e.on ≠ i := fun e he hb heq => by
        have h1 := hall e he hb
        have h0 := (mem_ready.1 hr).1
        rw [heq] at h1
        rcases Nat.lt_or_ge i listed.size with h' | h'
        · simp [h'] at h0 h1; rw [h0] at h1; cases h1
        · simp [Array.getElem?_eq_none h'] at h1
      have h2 := wpOp_putIf hoj (hfree j oj hoj hji hjun hnot) (fun cs b => hsel i oi cs b hi) (fun cs b => hsel j oj cs b hoj) hQ hy h1
      have hfree' : ∀ k ok, ops[k]? = some ok → k ≠ i → (listed.setIfInBounds j true).getD k true = false →
          (∀ e ∈ ok.after, Region.binds md e = true → e.on ≠ i) → oi.apart ops ok = true := fun k ok hk hki hun hno => by
        refine hfree k ok hk hki ?_ hno
        by_cases hjk : j = k
        · subst hjk; exact hjun
        · rw [getD_set_ne true hjk] at hun; exact hun
      refine wpOp_mono (fun a' w' h3 => ?_) h2
      have hSw : C w' := hE j oj w w' hoj hji hnot h3.2.1 hS
      refine ⟨h3.2.1, ih (listed.setIfInBounds j true) a' w' hfree' (ready_mono hr (Ne.symm hji)) h3.1 hSw ?_⟩
      rw [Array.setIfInBounds_comm _ _ hji]
      exact h3.2.2

/-- a load whose cell nobody turns before it -/
theorem wpAnyE_take {i : Nat} {oi : Oper} {v : Value} {fuel : Nat} {listed : Array Bool} {a : Act} {w : World} (hi : ops[i]? = some oi)
    (hs : Region.noSelect ops = true) (hf : Region.free md ops listed i = true) (hr : (Region.ready md ops listed).contains i = true) (hE : waitsB md ops E i = true)
    (hQ : ∀ c a w, Q (.panic c) (a.put oi.dst v) w → Q (.panic c) a w) (hy : YieldsIf P ops S oi v a) (hS : S w)
    (h : wpAnyE P md ops Q S E fuel (listed.setIfInBounds i true) (a.put oi.dst v) w) : wpAnyE P md ops Q S E (fuel + 1) listed a w :=
  wpAnyE_first hi (Region.noSelect_spec hs) hQ (fun j oj w w' hj hne hno hp hc => hp.elim (fun he => by
    obtain ⟨e, h1, h2, h3⟩ := waitsB_spec hE hj he hne
    exact absurd h3 (hno e h1 h2)) fun hp => hp hc) fuel listed a w (Region.free_spec hi hf) (by simpa using hr) hy hS h
/-- what yields in whatever world -/
theorem wpAnyE_pure {i : Nat} {oi : Oper} {v : Value} {fuel : Nat} {listed : Array Bool} {a : Act} {w : World} (hi : ops[i]? = some oi)
    (hs : Region.noSelect ops = true) (hf : Region.free md ops listed i = true) (hr : (Region.ready md ops listed).contains i = true)
    (hQ : ∀ c a w, Q (.panic c) (a.put oi.dst v) w → Q (.panic c) a w) (hy : YieldsIf P ops (fun _ => True) oi v a)
    (h : wpAnyE P md ops Q S E fuel (listed.setIfInBounds i true) (a.put oi.dst v) w) : wpAnyE P md ops Q S E (fuel + 1) listed a w :=
  wpAnyE_first hi (Region.noSelect_spec hs) hQ (fun _ _ _ _ _ _ _ _ h => h) fuel listed a w (Region.free_spec hi hf) (by simpa using hr) hy trivial h

/-- Number i alone can come up: it is walked as a list of one. -/
theorem wpAnyE_only {i : Nat} {oi : Oper} {fuel : Nat} {listed : Array Bool} {a : Act} {w : World} (hr : Region.ready md ops listed = [i]) (hi : ops[i]? = some oi)
    (h : wpList P ops (fun e a' w' => match e with | .normal => (E i = true ∨ (S w → S w')) ∧ wpAnyE P md ops Q S E fuel (listed.setIfInBounds i true) a' w' | e => Q e a' w') [oi] a w) :
    wpAnyE P md ops Q S E (fuel + 1) listed a w := by
  refine ⟨fun h0 => by rw [hr] at h0; simp at h0, fun j hj => ?_⟩
  rw [hr] at hj
  obtain rfl : j = i := by simpa using hj
  unfold wpOp
  simp only [hi]
  unfold wpList at h
  split
  · next hw =>
    rw [if_pos hw] at h
    rcases h with h | ⟨h1, a0, w0, h2⟩
    · refine .inl ?_
      unfold Oper.wp at h ⊢
      generalize (execOp a.eval oi).run P w = r at h ⊢
      cases r with
      | ok n w' =>
        cases n <;> simp only [Oper.upon, wpList] at h ⊢ <;> exact h
      | halt x w' => cases x <;> simp only [Oper.upon] at h ⊢ <;> exact h
    · exact .inr ⟨h1, a0, w0, h2⟩
  · next hw => rw [if_neg hw] at h; exact h

theorem wpOp_listE {i : Nat} {oi : Oper} {K : Act → World → Prop} {a : Act} {w : World} (hi : ops[i]? = some oi)
    (h : wpList P ops (fun e a' w' => match e with | .normal => K a' w' | e => Q e a' w') [oi] a w) : wpOp P ops Q i K a w := by
  unfold wpOp
  simp only [hi]
  unfold wpList at h
  split
  · next hw =>
    rw [if_pos hw] at h
    rcases h with h | ⟨h1, a0, w0, h2⟩
    · refine .inl ?_
      unfold Oper.wp at h ⊢
      generalize (execOp a.eval oi).run P w = r at h ⊢
      cases r with
      | ok n w' =>
        cases n <;> simp only [Oper.upon, wpList] at h ⊢ <;> exact h
      | halt x w' => cases x <;> simp only [Oper.upon] at h ⊢ <;> exact h
    · exact .inr ⟨h1, a0, w0, h2⟩
  · next hw => rw [if_neg hw] at h; exact h
/-- two are ready: both roads -/
theorem wpAnyE_two {i j : Nat} {oi oj : Oper} {fuel : Nat} {listed : Array Bool} {a : Act} {w : World} (hr : Region.ready md ops listed = [i, j]) (hi : ops[i]? = some oi) (hj : ops[j]? = some oj)
    (h : wpList P ops (fun e a' w' => match e with | .normal => (E i = true ∨ (S w → S w')) ∧ wpAnyE P md ops Q S E fuel (listed.setIfInBounds i true) a' w' | e => Q e a' w') [oi] a w)
    (h' : wpList P ops (fun e a' w' => match e with | .normal => (E j = true ∨ (S w → S w')) ∧ wpAnyE P md ops Q S E fuel (listed.setIfInBounds j true) a' w' | e => Q e a' w') [oj] a w) :
    wpAnyE P md ops Q S E (fuel + 1) listed a w := by
  refine ⟨fun h0 => by rw [hr] at h0; simp at h0, fun k hk => ?_⟩
  rw [hr] at hk
  simp only [List.mem_cons, List.not_mem_nil, or_false] at hk
  rcases hk with rfl | rfl
  · exact wpOp_listE hi h
  · exact wpOp_listE hj h'

theorem wpAnyE_done {listed : Array Bool} {a : Act} {w : World} (hr : Region.ready md ops listed = []) (h : Q .normal a w) : ∀ fuel, wpAnyE P md ops Q S E fuel listed a w
  | 0 => ⟨hr, h⟩
  | _ + 1 => ⟨fun _ => h, by rw [hr]; simp⟩

theorem wp_region_E (S : World → Prop) (E : Nat → Bool) {id : Nat} {a : Act} {w : World} (hm : P.follows .mixedOrders = true)
    (h : wpAnyE P .any ops Q S E ops.size (Array.replicate ops.size false) a w.drew) : (Code.region id ops true).wp P Q a w :=
  wp_region_any hm (wpAny_of_E _ _ _ _ h)
end

theorem cells_new (w : World) (cs : List Value) (e : TypeId) : ∀ (j : Nat) (u : Value), cs[j]? = some u → (w.alloc (.cells cs.toArray e)).cell? ⟨w.heap.size, j, none⟩ = some u := by
  intro j u hu
  rw [(Blk.new w e cs.toArray).cell]
  simpa using hu
theorem Blk.drew_ {w : World} {g : Nat} {t : TypeId} {cs : Array Value} (h : Blk w g t cs) : Blk w.drew g t cs := h

/-! ### an own row whose elements lead each to blocks of their own; one cell of it set -/
def OwnI {α : Type} [Rp α] (w : World) (B : Nat) (e : TypeId) (v : Value) (S : Nat → Nat → Prop) (xs : List α) : Prop :=
  ∃ css : List (List Value), w.ownsRow B e (Rp.sz α) v xs.length css.flatten ∧ css.length = xs.length ∧ (∀ (i : Nat) (cs : List Value) (x : α), css[i]? = some cs → xs[i]? = some x → Rp.rep w (S i) cs x) ∧
    ∀ g, v.ownBlock = some g → ∀ i, ¬ S i g

theorem flat_set {n : Nat} : ∀ {css : List (List Value)} (_ : ∀ cs ∈ css, cs.length = n) {i j : Nat} {cs : List Value} (u : Value), css[i]? = some cs → j < n → (css.set i (cs.set j u)).flatten = css.flatten.set (i * n + j) u
  | [], _, i, j, cs, u, h, _ => by simp at h
  | c :: css, hl, 0, j, cs, u, h, hj => by
    have hc : c = cs := by simpa using h
    subst hc
    have := hl c (by simp)
    rw [List.set_cons_zero, List.flatten_cons, List.flatten_cons, Nat.zero_mul, Nat.zero_add, List.set_append_left _ _ (by omega)]
  | c :: css, hl, i + 1, j, cs, u, h, hj => by
    have hc := hl c (by simp)
    rw [List.set_cons_succ, List.flatten_cons, List.flatten_cons, List.set_append_right _ _ (by rw [hc, Nat.succ_mul]; omega),
      flat_set (fun c' hc' => hl c' (by simp [hc'])) u (by simpa using h) hj, hc, show (i + 1) * n + j - n = i * n + j by rw [Nat.succ_mul]; omega]

section
variable {α : Type} [Rp α] {w w' : World} {B : Nat} {e : TypeId} {v : Value} {S T : Nat → Nat → Prop} {xs : List α}
theorem Own.each {S : Nat → Prop} (h : Own w B e v S xs) : OwnI w B e v (fun _ => S) xs := by
  obtain ⟨css, h1, h2, h3⟩ := h
  exact ⟨css, h1, h2.1, h2.2, fun g hg _ => h3 g hg⟩
theorem OwnI.all {S' : Nat → Prop} (h : OwnI w B e v S xs) (hs : ∀ i, i < xs.length → ∀ b, S i b → S' b) (hv : ∀ g, v.ownBlock = some g → ¬ S' g) : Own w B e v S' xs := by
  obtain ⟨css, h1, h2, h3, h4⟩ := h
  exact ⟨css, h1, ⟨h2, fun i cs x hi hx => Rp.mono (hs i (List.getElem?_eq_some_iff.1 hx).1) (h3 i cs x hi hx)⟩, hv⟩
theorem OwnI.mono (h : OwnI w B e v S xs) (hs : ∀ i, i < xs.length → ∀ b, S i b → T i b) (hv : ∀ g, v.ownBlock = some g → ∀ i, ¬ T i g) : OwnI w B e v T xs := by
  obtain ⟨css, h1, h2, h3, h4⟩ := h
  exact ⟨css, h1, h2, fun i cs x hi hx => Rp.mono (hs i (List.getElem?_eq_some_iff.1 hx).1) (h3 i cs x hi hx), hv⟩
theorem OwnI.keep (hk : Same (fun b => (∃ i, i < xs.length ∧ S i b) ∨ v.ownBlock = some b) w w') (h : OwnI w B e v S xs) : OwnI w' B e v S xs := by
  obtain ⟨css, h1, h2, h3, h4⟩ := h
  refine ⟨css, ⟨h1.1, ?_⟩, h2, fun i cs x hi hx => Rp.keep (hk.mono fun b hb => .inl ⟨i, (List.getElem?_eq_some_iff.1 hx).1, hb⟩) (h3 i cs x hi hx), h4⟩
  rcases h1.2 with h0 | ⟨g, cap, cur, rfl, hb, hg, r⟩
  · exact .inl h0
  · exact .inr ⟨g, cap, cur, rfl, hb, (hk g (.inr rfl)).trans hg, r⟩
theorem OwnI.blk (h : OwnI w B e v S xs) : ∀ g, v.ownBlock = some g → B ≤ g ∧ g < w.heap.size := by obtain ⟨css, h1, _⟩ := h; exact h1.lt
/-- element i, its cells at its place -/
theorem OwnI.at_ (h : OwnI w B e v S xs) {i : Nat} {x : α} (hi : xs[i]? = some x) : ∃ g cap cs, v = .slice (some ⟨g, 0, none⟩) xs.length cap ∧ cs.length = Rp.sz α ∧ (∀ j u, cs[j]? = some u → w.cell? ⟨g, i * Rp.sz α + j, none⟩ = some u) ∧
    (∀ j, w.frozen? ⟨g, j, none⟩ = false) ∧ Rp.rep w (S i) cs x := by
  obtain ⟨css, h1, h2, h3, h4⟩ := h
  have hlt : i < xs.length := (List.getElem?_eq_some_iff.1 hi).1
  have hcs : css[i]? = some (css[i]'(by omega)) := List.getElem?_eq_getElem _
  have hr := h3 i _ x hcs hi
  have hlen : ∀ cs ∈ css, cs.length = Rp.sz α := by
    intro cs hcs
    obtain ⟨k, hk, rfl⟩ := List.mem_iff_getElem.1 hcs
    exact Rp.len (h3 k _ xs[k] (List.getElem?_eq_getElem hk) (List.getElem?_eq_getElem (by omega)))
  rcases h1.2 with ⟨_, h0⟩ | ⟨g, cap, cur, hv, hb, hg, r⟩
  · omega
  · refine ⟨g, cap, _, hv, Rp.len hr, fun j u hu => ?_, fun j => by simp [World.frozen?, hg], hr⟩
    subst hv
    have := h1.cells (g := g) rfl _ u (flat_get hlen hcs hu)
    simpa [Addr.add_lit] using this
/-- one cell of element i set -/
theorem OwnI.set_ (h : OwnI w B e v S xs) {g : Nat} (hv : v.ownBlock = some g) {i j : Nat} {x x' : α} {u : Value} {T' : Nat → Prop} (hi : xs[i]? = some x) (hj : j < Rp.sz α)
    (hrep : ∀ cs, Rp.rep w (S i) cs x → Rp.rep (w.setCell ⟨g, i * Rp.sz α + j, none⟩ u) T' (cs.set j u) x') (hT : ¬ T' g) :
    OwnI (w.setCell ⟨g, i * Rp.sz α + j, none⟩ u) B e v (fun k => if k = i then T' else S k) (xs.set i x') := by
  obtain ⟨css, h1, h2, h3, h4⟩ := h
  have hlt : i < xs.length := (List.getElem?_eq_some_iff.1 hi).1
  have hcs : css[i]? = some (css[i]'(by omega)) := List.getElem?_eq_getElem _
  have hlen : ∀ cs ∈ css, cs.length = Rp.sz α := by
    intro cs hcs
    obtain ⟨k, hk, rfl⟩ := List.mem_iff_getElem.1 hcs
    exact Rp.len (h3 k _ xs[k] (List.getElem?_eq_getElem hk) (List.getElem?_eq_getElem (by omega)))
  have hfl := flat_set hlen u hcs hj
  refine ⟨css.set i ((css[i]'(by omega)).set j u), ⟨?_, ?_⟩, by simp [h2], ?_, ?_⟩
  · rw [hfl, List.length_set, List.length_set]; exact h1.1
  · rcases h1.2 with ⟨rfl, h0⟩ | ⟨g', cap, cur, rfl, hb, hg, hn, hm, hc, ht⟩
    · simp [Value.ownBlock] at hv
    · obtain rfl : g' = g := by simpa [Value.ownBlock] using hv
      refine .inr ⟨g', cap, cur.setIfInBounds (i * Rp.sz α + j) u, by rw [List.length_set], hb, ?_, by rw [List.length_set]; exact hn, hm, by simpa using hc, ?_⟩
      · simp [World.setCell, Array.getElem?_modify, hg]
      · rw [hfl, List.length_set, ← ht]
        rw [Array.toList_setIfInBounds, List.take_set]
  · intro k cs y hk hy
    by_cases hki : k = i
    · subst hki
      dsimp only
      rw [if_pos rfl]
      rw [List.getElem?_set_self (by omega)] at hk hy
      obtain rfl := Option.some.inj hk
      obtain rfl := Option.some.inj hy
      exact hrep _ (h3 k _ x hcs hi)
    · dsimp only
      rw [if_neg hki]
      rw [List.getElem?_set_ne (Ne.symm hki)] at hk hy
      exact Rp.keep (Same.setCell _ _ _ (by exact h4 g hv k)) (h3 k cs y hk hy)
  · intro g' hg' k
    have : g' = g := by rw [hv] at hg'; exact (Option.some.inj hg').symm
    subst this
    by_cases hki : k = i
    · dsimp only; rw [if_pos hki]; exact hT
    · dsimp only; rw [if_neg hki]; exact h4 g' hv k
end
theorem List.set_getElem?_self {α : Type} {l : List α} {i : Nat} {x : α} (h : l[i]? = some x) : l.set i x = l := by
  apply List.ext_getElem?
  intro k
  by_cases hk : i = k
  · subst hk; rw [List.getElem?_set_self (List.getElem?_eq_some_iff.1 h).1, h]
  · rw [List.getElem?_set_ne hk]

/-- A slice literal: the new block reads as its elements. -/
theorem Sl.new {α : Type} [Rp α] {w : World} {S : Nat → Prop} {css : List (List Value)} {xs : List α} (e : TypeId) (hc : Cells w S css xs) (hS : ∀ b, S b → b < w.heap.size) (hm : xs.length ≤ maxLen) :
    Sl (w.alloc (.cells css.flatten.toArray e)) (fun b => S b ∨ b = w.heap.size) (some ⟨w.heap.size, 0, none⟩) xs.length xs.length xs :=
  ⟨rfl, Nat.le_refl _, hm, (fun h => by cases h), fun i x hx => by
    obtain ⟨cs, hi, hr⟩ := hc.ex hx
    refine ⟨_, 0, cs, rfl, .inr rfl, Rp.len hr, fun j u hu => ?_, Rp.mono (fun _ hb => .inl hb) (Rp.keep (Same.alloc w _ hS) hr)⟩
    rw [Nat.zero_add]
    exact cells_new w _ e _ u (hc.get hi hu)⟩
theorem Sl.newF {α : Type} [Rp α] [Flat α] (w : World) {css : List (List Value)} {xs : List α} (e : TypeId) (hc : Cells w (fun _ => False) css xs) (hm : xs.length ≤ maxLen) {b : Nat} (hb : w.heap.size = b) :
    Sl (w.alloc (.cells css.flatten.toArray e)) (fun x => x = b) (some ⟨b, 0, none⟩) xs.length xs.length xs := by
  subst hb
  exact (Sl.new e hc (fun _ h => h.elim) hm).mono fun _ hb => hb.elim False.elim id

theorem Sl.empty {α : Type} [Rp α] (w : World) (S : Nat → Prop) (A : Option Addr) : Sl w S A 0 0 ([] : List α) := ⟨rfl, Nat.le_refl _, by simp [maxLen], fun _ => rfl, fun i x hx => by simp at hx⟩

theorem Only.same {S T : Nat → Prop} {w w' : World} (h : Only S w w') (hT : ∀ b, T b → b < w.heap.size ∧ ¬ S b) : Same T w w' := fun b hb => h.block b (hT b hb).1 (hT b hb).2

/-- Block b holds cells, none of them frozen. -/
def Plain (w : World) (b : Nat) : Prop := ∃ cs e, w.heap[b]? = some (.cells cs e (0, 0))
theorem Plain.frozen {w : World} {b : Nat} (h : Plain w b) (i : Nat) : w.frozen? ⟨b, i, none⟩ = false := by
  obtain ⟨cs, e, h⟩ := h
  exact Blk.frozen (t := e) (cs := cs) h i
theorem Plain.same {w w' : World} {b : Nat} (h : Plain w b) (hs : w'.heap[b]? = w.heap[b]?) : Plain w' b := by
  obtain ⟨cs, e, h⟩ := h
  exact ⟨cs, e, hs.trans h⟩
theorem Plain.set_ {w : World} {b : Nat} (h : Plain w b) (c o : Nat) (u : Value) : Plain (w.setCell ⟨c, o, none⟩ u) b := by
  obtain ⟨cs, e, h⟩ := h
  by_cases hp : b = c
  · subst hp
    exact ⟨_, e, Blk.set_ (t := e) (cs := cs) h o u⟩
  · exact ⟨cs, e, (Below.heap_setCell w ⟨c, o, none⟩ u b hp).trans h⟩
theorem Own.plain {α : Type} [Rp α] {w : World} {B : Nat} {e : TypeId} {v : Value} {S : Nat → Prop} {xs : List α} (h : Own w B e v S xs) {b : Nat} (hb : v.ownBlock = some b) : Plain w b := by
  obtain ⟨css, h1, _⟩ := h
  rcases h1.2 with ⟨rfl, _⟩ | ⟨g, cap, cur, rfl, _, hg, _⟩
  · simp [Value.ownBlock] at hb
  · obtain rfl : g = b := by simpa [Value.ownBlock] using hb
    exact ⟨cur, e, hg⟩

section
variable {P : Program} {ops : Array Oper} {Q : Exit → Act → World → Prop} {md : Region.Mode} {S : World → Prop} {E : Nat → Bool}
/-- as wpAnyE_pure, the new frame written out -/
theorem wpAnyE_pureN {i : Nat} {oi : Oper} {v : Value} {fuel : Nat} {listed : Array Bool} {a a' : Act} {w : World} (hi : ops[i]? = some oi)
    (hs : Region.noSelect ops = true) (hf : Region.free md ops listed i = true) (hr : (Region.ready md ops listed).contains i = true)
    (hQ : ∀ c a w, Q (.panic c) (a.put oi.dst v) w → Q (.panic c) a w) (hw : Region.wanted oi (yielded ops a.tmps) = true) (hv : ∀ w, (execOp a.eval oi).run P w = .ok (.value v) w) (ha : a.put oi.dst v = a')
    (h : wpAnyE P md ops Q S E fuel (listed.setIfInBounds i true) a' w) : wpAnyE P md ops Q S E (fuel + 1) listed a w :=
  wpAnyE_pure hi hs hf hr hQ (.inl ⟨hw, fun w _ => hv w⟩) (ha ▸ h)
theorem wpAnyE_takeN {i : Nat} {oi : Oper} {v : Value} {fuel : Nat} {listed : Array Bool} {a a' : Act} {w : World} (hi : ops[i]? = some oi)
    (hs : Region.noSelect ops = true) (hf : Region.free md ops listed i = true) (hr : (Region.ready md ops listed).contains i = true) (hE : waitsB md ops E i = true)
    (hQ : ∀ c a w, Q (.panic c) (a.put oi.dst v) w → Q (.panic c) a w) (hw : Region.wanted oi (yielded ops a.tmps) = true) (hv : ∀ w, S w → (execOp a.eval oi).run P w = .ok (.value v) w) (hS : S w) (ha : a.put oi.dst v = a')
    (h : wpAnyE P md ops Q S E fuel (listed.setIfInBounds i true) a' w) : wpAnyE P md ops Q S E (fuel + 1) listed a w :=
  wpAnyE_take hi hs hf hr hE hQ (.inl ⟨hw, hv⟩) hS (ha ▸ h)
/-- a guarded operation that is not wanted -/
theorem wpAnyE_skipN {i : Nat} {oi : Oper} {fuel : Nat} {listed : Array Bool} {a a' : Act} {w : World} (hi : ops[i]? = some oi)
    (hs : Region.noSelect ops = true) (hf : Region.free md ops listed i = true) (hr : (Region.ready md ops listed).contains i = true)
    (hQ : ∀ c a w, Q (.panic c) (a.put oi.dst undef) w → Q (.panic c) a w) (hw : Region.wanted oi (yielded ops a.tmps) = false) (ha : a.put oi.dst undef = a')
    (h : wpAnyE P md ops Q S E fuel (listed.setIfInBounds i true) a' w) : wpAnyE P md ops Q S E (fuel + 1) listed a w :=
  wpAnyE_pure hi hs hf hr hQ (.inr ⟨hw, rfl⟩) (ha ▸ h)
end

end Go.Proofs.Ytkjfflabapeidaa
