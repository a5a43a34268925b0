/-
  From the reading of an argument as data to an abstract value; the close of a statement 'true, and every argument as it was'. No program is named here.
-/
import Derived.Test.YtkjfflabapeidaaSymL
import Derived.Test.YtkjfflabapeidaaRead
namespace Go.Proofs.Ytkjfflabapeidaa
open Go.RowKit Go.ChangeShapes Go.WideShapes Go.ChangeAt Go.Deep
set_option linter.unusedSimpArgs false
set_option linter.unusedVariables false

def VR0 (W : World) : AV → Value → Prop := VR (fun _ => none) (fun b => b < W.heap.size) W

/-- Whatever cells of type t are read as data: they are en a for some a of α, and ok a. -/
structure RdA (P : Program) (t : TypeId) (α : Type) (sz : Nat) (en : α → List AV) (ok : α → Prop) : Prop where
  cells : P.cellsOf t = sz
  shape : ∀ a, (en a).length = sz ∧ ∀ x ∈ en a, x.cell = true
  read : ∀ (H : Type) (enc : TypeId × Value → H) (W : World) (fuel : Nat) (cs : List Value) (x : DataW H × List MemPlace), DataW.trod enc P W 0 (fun _ => true) true fuel t cs = some x →
    ∃ a : α, ok a ∧ cs.length = sz ∧ ∀ (j : Nat) (x : AV) (u : Value), (en a)[j]? = some x → cs[j]? = some u → VR0 W x u

section
variable {P : Program} {t : TypeId}
theorem cells_of {sz by_ : Nat} {z : Value} (i2 : Tz P t sz by_ z) : P.cellsOf t = sz := by
  obtain ⟨i, h1, _, h2, _⟩ := Tz.parts P t
  simp [Program.cellsOf, h1, h2]
theorem one_at {W : World} {x : AV} {u : Value} (h : VR0 W x u) : ∀ (j : Nat) (y : AV) (v : Value), [x][j]? = some y → [u][j]? = some v → VR0 W y v := by
  intro j y v hy hv
  match j with
  | 0 =>
    simp at hy hv
    subst hy hv
    exact h
  | j + 1 => simp at hy
theorem rda_int {sz by_ : Nat} {z : Value} {k : IntKind} [i : Ty P t (.int k)] [i2 : Tz P t sz by_ z] (hsz : sz = 1) : RdA P t Int 1 (fun n => [.int k n]) (fun n => (Lit.int k n).wf = true) := by
  subst hsz
  refine ⟨cells_of i2, fun a => ⟨rfl, by simp [AV.cell]⟩, fun H enc W fuel cs x h => ?_⟩
  obtain ⟨n, rfl, _, hw⟩ := DataW.trod_int i.und h
  exact ⟨n, hw, rfl, one_at (.int k n)⟩
theorem rda_bool {sz by_ : Nat} {z : Value} [i : Ty P t .bool] [i2 : Tz P t sz by_ z] (hsz : sz = 1) : RdA P t Bool 1 (fun b => [.bool b]) (fun _ => True) := by
  subst hsz
  refine ⟨cells_of i2, fun a => ⟨rfl, by simp [AV.cell]⟩, fun H enc W fuel cs x h => ?_⟩
  obtain ⟨n, rfl, _⟩ := DataW.trod_bool i.und h
  exact ⟨n, trivial, rfl, one_at (.bool n)⟩
theorem rda_str {sz by_ : Nat} {z : Value} [i : Ty P t .string] [i2 : Tz P t sz by_ z] (hsz : sz = 1) : RdA P t ByteArray 1 (fun b => [.str b]) (fun b => b.size ≤ maxLen) := by
  subst hsz
  refine ⟨cells_of i2, fun a => ⟨rfl, by simp [AV.cell]⟩, fun H enc W fuel cs x h => ?_⟩
  obtain ⟨n, rfl, _, hm⟩ := DataW.trod_string i.und h
  exact ⟨n, hm, rfl, one_at (.str n)⟩
theorem rda_slice {α : Type} {e : TypeId} {sz szs by_ : Nat} {z : Value} {en : α → List AV} {ok : α → Prop} [i : Ty P t (.slice e)] [i2 : Tz P t szs by_ z] (hsz : szs = 1) (hpos : 0 < sz) (he : RdA P e α sz en ok) :
    RdA P t (List α) 1 (fun l => [.ro sz (l.map en) .any]) (fun l => l.length ≤ maxLen ∧ ∀ a ∈ l, ok a) := by
  subst hsz
  refine ⟨cells_of i2, fun a => ⟨rfl, by simp [AV.cell]⟩, fun H enc W fuel cs x h => ?_⟩
  rcases open_slice i.und h with ⟨rfl, _⟩ | ⟨a, len, cap, m, n, D, Pl, rfl, _, hl, hm, hmm, _, hi⟩
  · exact ⟨[], ⟨Nat.zero_le _, by simp⟩, rfl, one_at (.ro0 (Nat.zero_le _) (fun _ => rfl) (fun h => by cases h) (fun h => by cases h))⟩
  · simp only [if_true] at hmm
    subst hmm
    rcases Nat.eq_zero_or_pos len with rfl | hlen
    · exact ⟨[], ⟨Nat.zero_le _, by simp⟩, rfl, one_at (.ro0 hm (fun h => by cases h) (fun h => by cases h) (fun h => by cases h))⟩
    obtain ⟨b, off, spot⟩ := a
    have hspot : spot = none ∧ b < W.heap.size := by
      obtain ⟨us0, hc0, _⟩ := hi 0 (by omega)
      obtain ⟨_, hul0, hat0⟩ := World.cells?_some hc0
      rw [he.cells] at hul0 hat0
      have h00 := hat0 0 hpos
      rw [List.getElem?_eq_getElem (by omega)] at h00
      simp only [Nat.zero_mul] at h00
      have hs : spot = none := by simpa [Addr.add] using World.cell?_spot h00
      refine ⟨hs, ?_⟩
      have := World.block_lt_of_cell? _ _ h00
      rwa [block_of_add, block_of_add] at this
    obtain ⟨rfl, hlt⟩ := hspot
    have hex : ∀ i : Nat, ∃ y : Option (α × List Value), i < len → ∃ z us, y = some (z, us) ∧ ok z ∧ us.length = sz ∧ (∀ (j : Nat) (u : Value), us[j]? = some u → W.cell? ⟨b, off + i * sz + j, none⟩ = some u) ∧ ∀ (j : Nat) (x : AV) (u : Value), (en z)[j]? = some x → us[j]? = some u → VR0 W x u := by
      intro i
      by_cases hlt : i < len
      · obtain ⟨us, hc, htr⟩ := hi i (by omega)
        obtain ⟨z, hz, hzl, hzv⟩ := he.read H enc W n us _ htr
        obtain ⟨_, hul, hat⟩ := World.cells?_some hc
        rw [he.cells] at hul hat
        refine ⟨some (z, us), fun _ => ⟨z, us, rfl, hz, hzl, fun j u hu => ?_, hzv⟩⟩
        have hj : j < sz := by have := (List.getElem?_eq_some_iff.1 hu).1; omega
        have := hat j hj
        rw [hu, add_of_add, Addr.add_lit] at this
        rw [Nat.add_assoc]
        exact this
      · exact ⟨none, fun h => absurd h hlt⟩
    obtain ⟨f, hf⟩ := Classical.axiomOfChoice hex
    obtain ⟨d, d2, _⟩ := hf 0 (by omega)
    let g : Nat → α × List Value := fun i => (f i).getD (d, d2)
    have hg : ∀ i, i < len → ok (g i).1 ∧ (g i).2.length = sz ∧ (∀ (j : Nat) (u : Value), (g i).2[j]? = some u → W.cell? ⟨b, off + i * sz + j, none⟩ = some u) ∧ ∀ (j : Nat) (x : AV) (u : Value), (en (g i).1)[j]? = some x → (g i).2[j]? = some u → VR0 W x u := by
      intro i hlt
      obtain ⟨z, us, hz, h1, h2, h3, h4⟩ := hf i hlt
      have : g i = (z, us) := by show (f i).getD _ = _; rw [hz]; rfl
      rw [this]
      exact ⟨h1, h2, h3, h4⟩
    have hpick : ∀ (i : Nat) (e : List AV) (j : Nat) (a : AV), (((List.range len).map fun i => (g i).1).map en)[i]? = some e → e[j]? = some a → i < len ∧ (en (g i).1)[j]? = some a ∧ ∃ u, (g i).2[j]? = some u ∧ u = ((g i).2[j]?).getD Go.undef := by
      intro i e j a hie hja
      have hlt : i < len := by have := (List.getElem?_eq_some_iff.1 hie).1; simpa using this
      rw [List.getElem?_map, List.getElem?_map, List.getElem?_range hlt] at hie
      simp at hie
      subst hie
      refine ⟨hlt, hja, ?_⟩
      have hj : j < (g i).2.length := by
        rw [(hg i hlt).2.1, ← (he.shape (g i).1).1]
        exact (List.getElem?_eq_some_iff.1 hja).1
      exact ⟨(g i).2[j], List.getElem?_eq_getElem hj, by simp [List.getElem?_eq_getElem hj]⟩
    refine ⟨(List.range len).map (fun i => (g i).1), ⟨by simp; omega, ?_⟩, rfl, one_at ?_⟩
    · intro a ha
      simp only [List.mem_map, List.mem_range] at ha
      obtain ⟨i, hi, rfl⟩ := ha
      exact (hg i hi).1
    · have hlen' : (((List.range len).map fun i => (g i).1).map en).length = len := by simp
      have key := VR.ro (M := fun _ => none) (F := fun b => b < W.heap.size) (w := W) (es := ((List.range len).map fun i => (g i).1).map en) (k := .any) (b := b) (o := off) (sz := sz) (cap := m)
        (us := fun i j => ((g i).2[j]?).getD Go.undef) hlt ?_ ?_ ?_ (by rw [hlen']; exact hl) hm (fun h => by cases h) (fun h => by cases h)
      · rw [hlen'] at key
        exact key
      · intro x hx
        simp only [List.mem_map] at hx
        obtain ⟨a, _, rfl⟩ := hx
        exact he.shape a
      · intro i e j a hie hja
        obtain ⟨h1, h2, u, hu, hu'⟩ := hpick i e j a hie hja
        rw [← hu']
        exact (hg i h1).2.2.1 j u hu
      · intro i e j a hie hja
        obtain ⟨h1, h2, u, hu, hu'⟩ := hpick i e j a hie hja
        rw [← hu']
        exact (hg i h1).2.2.2 j a u h2 hu

/-- the fields from some offset on -/
structure RdF (P : Program) (fs : List Field) (off : Nat) (α : Type) (sz : Nat) (en : α → List AV) (ok : α → Prop) : Prop where
  shape : ∀ a, (en a).length = sz ∧ ∀ x ∈ en a, x.cell = true
  read : ∀ (H : Type) (enc : TypeId × Value → H) (W : World) (cs : List Value), cs.length = off + sz → (∀ f ∈ fs, ∃ m y, DataW.trod enc P W 0 (fun _ => true) true m f.type ((cs.drop f.offset).take (P.cellsOf f.type)) = some y) →
    ∃ a : α, ok a ∧ ∀ (j : Nat) (x : AV) (u : Value), (en a)[j]? = some x → cs[off + j]? = some u → VR0 W x u
theorem rdf_one {α : Type} {sz off : Nat} {en : α → List AV} {ok : α → Prop} {f : Field} (h : RdA P f.type α sz en ok) (ho : f.offset = off) : RdF P [f] off α sz en ok := by
  refine ⟨h.shape, fun H enc W cs hl hf => ?_⟩
  obtain ⟨m, y, hy⟩ := hf f (by simp)
  obtain ⟨a, h1, h2, h3⟩ := h.read H enc W m _ y hy
  refine ⟨a, h1, fun j x u hx hu => h3 j x u hx ?_⟩
  have hj := (List.getElem?_eq_some_iff.1 hx).1
  rw [(h.shape a).1] at hj
  rw [List.getElem?_take, h.cells, if_pos hj, List.getElem?_drop, ho, hu]
theorem rdf_cons {α β : Type} {sz sz' off : Nat} {en : α → List AV} {ok : α → Prop} {en' : β → List AV} {ok' : β → Prop} {f : Field} {fs : List Field} (h : RdA P f.type α sz en ok) (ho : f.offset = off)
    (k : RdF P fs (off + sz) β sz' en' ok') : RdF P (f :: fs) off (α × β) (sz + sz') (fun p => en p.1 ++ en' p.2) (fun p => ok p.1 ∧ ok' p.2) := by
  refine ⟨fun a => ⟨by simp [(h.shape a.1).1, (k.shape a.2).1], fun x hx => (List.mem_append.1 hx).elim ((h.shape a.1).2 x) ((k.shape a.2).2 x)⟩, fun H enc W cs hl hf => ?_⟩
  obtain ⟨m, y, hy⟩ := hf f (by simp)
  obtain ⟨a, h1, h2, h3⟩ := h.read H enc W m _ y hy
  obtain ⟨b, k1, k2⟩ := k.read H enc W cs (by omega) (fun f' hf' => hf f' (by simp [hf']))
  refine ⟨(a, b), ⟨h1, k1⟩, fun j x u hx hu => ?_⟩
  have hsz : (en a).length = sz := (h.shape a).1
  dsimp only at hx
  by_cases hj : j < sz
  · refine h3 j x u ?_ ?_
    · rwa [List.getElem?_append_left (by omega)] at hx
    · rw [List.getElem?_take, h.cells, if_pos hj, List.getElem?_drop, ho, hu]
  · refine k2 (j - sz) x u ?_ ?_
    · rw [List.getElem?_append_right (by omega), hsz] at hx
      exact hx
    · rw [show off + sz + (j - sz) = off + j by omega]
      exact hu
theorem rda_struct {α : Type} {fs : List Field} {sz by_ : Nat} {z : Value} {en : α → List AV} {ok : α → Prop} [i : Ty P t (.struct fs.toArray)] [i2 : Tz P t sz by_ z] (h : RdF P fs 0 α sz en ok) : RdA P t α sz en ok := by
  refine ⟨cells_of i2, h.shape, fun H enc W fuel cs x hx => ?_⟩
  obtain ⟨hl, hf⟩ := struct_cells i.und (cells_of i2) hx
  obtain ⟨a, h1, h2⟩ := h.read H enc W cs (by omega) (fun f hfm => by
    obtain ⟨j, hj⟩ := List.getElem?_of_mem hfm
    exact hf j f (by simpa using hj))
  exact ⟨a, h1, by omega, fun j x u hx hu => h2 j x u hx (by simpa using hu)⟩

/-! ### arguments -/
/-- an argument of one cell -/
theorem arg_one {α : Type} {en : α → List AV} {ok : α → Prop} (h : RdA P t α 1 en ok) {H : Type} {enc : TypeId × Value → H} {W : World} {v : Value} {d : DataW H} {p : List MemPlace} (hv : v.cells.toList = [v])
    (hd : DataW.Trod enc P W 0 (fun _ => true) true t v d p) : ∃ a, ok a ∧ VR0 W ((en a).headD .undef) v := by
  obtain ⟨fuel, hf⟩ := hd
  rw [hv] at hf
  obtain ⟨a, h1, h2, h3⟩ := h.read H enc W fuel _ _ hf
  refine ⟨a, h1, ?_⟩
  have hl := (h.shape a).1
  match he : en a, hl with
  | [x], _ => exact h3 0 x v (by rw [he]; rfl) rfl
/-- an argument that is a struct -/
theorem arg_agg {α : Type} {sz : Nat} {en : α → List AV} {ok : α → Prop} (h : RdA P t α sz en ok) {H : Type} {enc : TypeId × Value → H} {W : World} {cs : Array Value} {d : DataW H} {p : List MemPlace}
    (hd : DataW.Trod enc P W 0 (fun _ => true) true t (.agg cs) d p) : ∃ a, ok a ∧ VR0 W (.agg (en a)) (.agg cs) := by
  obtain ⟨fuel, hf⟩ := hd
  obtain ⟨a, h1, h2, h3⟩ := h.read H enc W fuel _ _ hf
  refine ⟨a, h1, .agg ?_ fun j x u hx hu => h3 j x u hx ?_⟩
  · rw [(h.shape a).1]
    simpa [Value.cells] using h2
  · simpa [Value.cells] using hu
end

/-- a call from a world where nothing is one's own -/
theorem law_run {P : Program} {f : FuncId} {args : List AV} (h : SCall P f args [] (fun x _ => x = .bool true)) {W : World} {vs : List Value} (hl : vs.length = args.length) (hv : ∀ (i : Nat) (x : AV) (v : Value), args[i]? = some x → vs[i]? = some v → VR0 W x v) :
    Calls P f vs.toArray W fun e w' => e = .returned (.bool true) ∧ Below W.heap.size W w' := by
  refine (h (fun _ => none) (fun b => b < W.heap.size) 0 W vs hl hv ⟨by simp, by simp, fun g ⟨p, hp, _⟩ => by simp at hp, fun _ h => h, fun _ _ => rfl⟩).mono ?_
  rintro e w' ⟨v, x, M', F', N', σ', rfl, he, hvx, _, rfl⟩
  cases hvx
  exact ⟨rfl, he.only.below (Nat.le_refl _) fun i _ ⟨p, hp, _⟩ => by simp at hp⟩
theorem vs_nil {W : World} : ∀ (i : Nat) (x : AV) (v : Value), ([] : List AV)[i]? = some x → ([] : List Value)[i]? = some v → VR0 W x v := fun i x v h => by simp at h
theorem vs_cons {W : World} {x : AV} {v : Value} {xs : List AV} {vs : List Value} (h : VR0 W x v) (k : ∀ (i : Nat) (x : AV) (v : Value), xs[i]? = some x → vs[i]? = some v → VR0 W x v) :
    ∀ (i : Nat) (x' : AV) (v' : Value), (x :: xs)[i]? = some x' → (v :: vs)[i]? = some v' → VR0 W x' v' := by
  intro i x' v' hx hv
  match i with
  | 0 => simp at hx hv; subst hx hv; exact h
  | i + 1 => exact k i x' v' (by simpa using hx) (by simpa using hv)

end Go.Proofs.Ytkjfflabapeidaa
