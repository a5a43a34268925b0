import Derived.Test.YtkjfflabapeidaaM1
import Derived.ChangeOld
import Derived.Test.YtkjfflabapeidaaM2
import Derived.ArgAppend
import Derived.Lib.AppendZerosOnto
import Derived.Laws.BytesString
import Derived.ScopeJumps
import Derived.Test.YtkjfflabapeidaaTy
/-
  From the reading of an argument as data to its representation; the close of a statement 'true, and every argument as it was'. No program is named here.
-/
namespace Go.Proofs.Ytkjfflabapeidaa
open Go.RowKit Go.ChangeShapes Go.WideShapes Go.ChangeAt Go.Deep
set_option linter.unusedSimpArgs false
set_option linter.unusedVariables false

/-- Whatever cells of type t are read: they represent some x of α. -/
def Rd (P : Program) (t : TypeId) (α : Type) [Rp α] : Prop :=
  ∀ (H : Type) (enc : TypeId × Value → H) (W : World) (fuel : Nat) (cs : List Value) (x : DataW H × List MemPlace), DataW.trod enc P W 0 (fun _ => true) true fuel t cs = some x → ∃ a : α, Rp.rep W (fun b => b < W.heap.size) cs a

theorem bd_of_wf {n : Int} (h : (Lit.int .i64 n).wf = true) : -9223372036854775808 ≤ n ∧ n ≤ 9223372036854775807 := by
  simp [Lit.wf, IntKind.min, IntKind.max, IntKind.signed, IntKind.bits] at h
  omega

theorem rd_int {P : Program} {t : TypeId} (ht : P.underlying t = some (.int .i64)) : Rd P t Int := by
  intro H enc W fuel cs x h
  obtain ⟨n, rfl, _, hw⟩ := DataW.trod_int ht h
  exact ⟨n, rfl, bd_of_wf hw⟩
theorem rd_bool {P : Program} {t : TypeId} (ht : P.underlying t = some .bool) : Rd P t Bool := by
  intro H enc W fuel cs x h
  obtain ⟨b, rfl, _⟩ := DataW.trod_bool ht h
  exact ⟨b, rfl⟩
theorem rd_string {P : Program} {t : TypeId} (ht : P.underlying t = some .string) : Rd P t ByteArray := by
  intro H enc W fuel cs x h
  obtain ⟨s, rfl, _, hm⟩ := DataW.trod_string ht h
  exact ⟨s, rfl, hm⟩
theorem u8_of_wf {n : Int} (h : (Lit.int .u8 n).wf = true) : ∃ u : UInt8, n = u.toNat := by
  have hb : 0 ≤ n ∧ n < 256 := by
    simp [Lit.wf, IntKind.min, IntKind.max, IntKind.signed, IntKind.bits] at h
    omega
  refine ⟨UInt8.ofNat n.toNat, ?_⟩
  rw [UInt8.toNat_ofNat_of_lt' (by show n.toNat < 256; omega)]
  omega
theorem rd_u8 {P : Program} {t : TypeId} (ht : P.underlying t = some (.int .u8)) : Rd P t UInt8 := by
  intro H enc W fuel cs x h
  obtain ⟨n, rfl, _, hw⟩ := DataW.trod_int ht h
  obtain ⟨u, rfl⟩ := u8_of_wf hw
  exact ⟨u, rfl⟩

theorem rd_slice {P : Program} {t e : TypeId} {α : Type} [Rp α] (ht : P.underlying t = some (.slice e)) (hs : P.cellsOf e = Rp.sz α) (hpos : 0 < Rp.sz α) (he : Rd P e α) : Rd P t (List α) := by
  intro H enc W fuel cs x h
  rcases open_slice ht h with ⟨rfl, _⟩ | ⟨a, len, cap, m, n, D, Pl, rfl, _, hl, hm, hmm, _, hi⟩
  · exact ⟨[], none, 0, rfl, Sl.nil_ _ _⟩
  · simp only [if_true] at hmm
    subst hmm
    have hex : ∀ i : Nat, ∃ y : Option α, i < len → ∃ z, y = some z ∧ ∃ b off us, a = ⟨b, off, none⟩ ∧ b < W.heap.size ∧ us.length = Rp.sz α ∧ (∀ j u, us[j]? = some u → W.cell? ⟨b, off + i * Rp.sz α + j, none⟩ = some u) ∧ Rp.rep W (fun b => b < W.heap.size) us z := by
      intro i
      by_cases hlt : i < len
      · obtain ⟨us, hc, htr⟩ := hi i (by omega)
        obtain ⟨z, hz⟩ := he H enc W n us _ htr
        obtain ⟨_, hul, hat⟩ := World.cells?_some hc
        rw [hs] at hul hat
        obtain ⟨b, off, spot⟩ := a
        have h0 := hat 0 hpos
        rw [List.getElem?_eq_getElem (by omega)] at h0
        have hspot : spot = none := by
          rcases Nat.eq_zero_or_pos (i * Rp.sz α) with hz0 | hz0
          · rw [hz0] at h0
            simpa [Addr.add] using World.cell?_spot h0
          · rcases Nat.eq_zero_or_pos 0 with _ | h
            · obtain ⟨us0, hc0, _⟩ := hi 0 (by omega)
              obtain ⟨_, hul0, hat0⟩ := World.cells?_some hc0
              rw [hs] at hul0 hat0
              have h00 := hat0 0 hpos
              rw [List.getElem?_eq_getElem (by omega)] at h00
              simpa [Addr.add] using World.cell?_spot h00
            · omega
        subst hspot
        refine ⟨some z, fun _ => ⟨z, rfl, b, off, us, rfl, ?_, hul, fun j u hu => ?_, hz⟩⟩
        · have := World.block_lt_of_cell? _ _ h0
          rwa [block_of_add, block_of_add] at this
        · have hj : j < Rp.sz α := by have := (List.getElem?_eq_some_iff.1 hu).1; omega
          have := hat j hj
          rw [hu, add_of_add, Addr.add_lit] at this
          rw [Nat.add_assoc]
          exact this
      · exact ⟨none, fun h => absurd h hlt⟩
    obtain ⟨f, hf⟩ := Classical.axiomOfChoice hex
    by_cases hlen : len = 0
    · subst hlen
      exact ⟨[], some a, m, rfl, ⟨rfl, hl, hm, (fun h => by cases h), fun i x hx => by simp at hx⟩⟩
    · obtain ⟨d, _⟩ := hf 0 (by omega)
      let g : Nat → α := fun i => (f i).getD d
      refine ⟨(List.range len).map g, some a, m, by simp, ⟨rfl, by simpa using hl, hm, (fun h => by cases h), fun i x hx => ?_⟩⟩
      have hilt : i < len := by have := (List.getElem?_eq_some_iff.1 hx).1; simpa using this
      rw [List.getElem?_map, List.getElem?_range hilt] at hx
      obtain ⟨z, hz, b, off, us, rfl, h1, h2, h3, h4⟩ := hf i hilt
      have hxz : x = z := by
        have := (Option.some.inj hx).symm
        rw [this]
        show (f i).getD d = z
        rw [hz]; rfl
      subst hxz
      exact ⟨b, off, us, rfl, h1, h2, h3, h4⟩

/-- A struct's cells, field by field. -/
theorem struct_cells {H : Type} {enc : TypeId × Value → H} {P : Program} {W : World} {fuel : Nat} {t : TypeId} {n : Nat} {fs : Array Field} {cs : List Value} {x : DataW H × List MemPlace} (hs : P.underlying t = some (.struct fs)) (hC : P.cellsOf t = n)
    (h : DataW.trod enc P W 0 (fun _ => true) true fuel t cs = some x) : cs.length = n ∧ ∀ (i : Nat) (f : Field), fs[i]? = some f → ∃ m y, DataW.trod enc P W 0 (fun _ => true) true m f.type ((cs.drop f.offset).take (P.cellsOf f.type)) = some y := by
  obtain ⟨xs, m, _, _, hl, hxl, hf⟩ := DataW.trod_struct hs h
  refine ⟨hl.trans hC, fun i f hi => ?_⟩
  have hlt : i < xs.length := by rw [hxl]; exact (Array.getElem?_eq_some_iff.1 hi).1
  exact ⟨m, _, (hf i f hi).trans (List.getElem?_eq_getElem hlt)⟩

/-- An argument that is a slice. -/
theorem rd_arg {P : Program} {t : TypeId} {α : Type} [Rp α] (hr : Rd P t (List α)) {H : Type} {enc : TypeId × Value → H} {W : World} {A : Option Addr} {len cap : Nat} {d : DataW H} {p : List MemPlace}
    (h : DataW.Trod enc P W 0 (fun _ => true) true t (.slice A len cap) d p) : ∃ xs : List α, Sl W (fun b => b < W.heap.size) A len cap xs := by
  obtain ⟨fuel, hf⟩ := h
  obtain ⟨xs, A', cap', he, hs⟩ := hr H enc W fuel _ _ hf
  simp [Value.cells] at he
  obtain ⟨rfl, rfl, rfl⟩ := he
  exact ⟨xs, hs⟩
/-- An argument that is a struct. -/
theorem rd_agg {P : Program} {t : TypeId} {α : Type} [Rp α] (hr : Rd P t α) {H : Type} {enc : TypeId × Value → H} {W : World} {cs : Array Value} {d : DataW H} {p : List MemPlace}
    (h : DataW.Trod enc P W 0 (fun _ => true) true t (.agg cs) d p) : ∃ x : α, Rp.rep W (fun b => b < W.heap.size) cs.toList x := by
  obtain ⟨fuel, hf⟩ := h
  obtain ⟨x, hx⟩ := hr H enc W fuel _ _ hf
  exact ⟨x, by simpa [Value.cells] using hx⟩
theorem read_of {P : Program} {f : Func} (h : (f.params.toList.all fun t => P.readableRec t && decide (t < P.types.size)) = true) : ∀ t ∈ f.params.toList, P.readableRec t = true ∧ t < P.types.size := by
  intro t ht
  have := List.all_eq_true.1 h t ht
  simpa using this

end Go.Proofs.Ytkjfflabapeidaa
/-
  From the reading of an argument as data to an abstract value; the close of a statement 'true, and every argument as it was'. No program is named here.
-/
namespace Go.Proofs.Ytkjfflabapeidaa
open Go.RowKit Go.ChangeShapes Go.WideShapes Go.ChangeAt Go.Deep
set_option linter.unusedSimpArgs false
set_option linter.unusedVariables false

def VR0 (W : World) : AV → Value → Prop := VR (fun _ => none) (fun b => b < W.heap.size) W

/-- Whatever cells of type t are read as data: they are en a for some a of α, and ok a. -/
structure RdA (P : Program) (t : TypeId) (α : Type) (sz : Nat) (en : α → List AV) (ok : α → Prop) : Prop where
  cells : P.cellsOf t = sz
  shape : ∀ a, (en a).length = sz ∧ ∀ x ∈ en a, x.cell = true
  read : ∀ (H : Type) (enc : TypeId × Value → H) (W : World) (fuel : Nat) (cs : List Value) (x : DataW H × List MemPlace), DataW.trod enc P W 0 (fun _ => true) true fuel t cs = some x →
    ∃ a : α, ok a ∧ cs.length = sz ∧ ∀ (j : Nat) (x : AV) (u : Value), (en a)[j]? = some x → cs[j]? = some u → VR0 W x u

section
variable {P : Program} {t : TypeId}
theorem cells_of {sz by_ : Nat} {z : Value} (i2 : Tz P t sz by_ z) : P.cellsOf t = sz := by
  obtain ⟨i, h1, _, h2, _⟩ := Tz.parts P t
  simp [Program.cellsOf, h1, h2]
theorem one_at {W : World} {x : AV} {u : Value} (h : VR0 W x u) : ∀ (j : Nat) (y : AV) (v : Value), [x][j]? = some y → [u][j]? = some v → VR0 W y v := by
  intro j y v hy hv
  match j with
  | 0 =>
    simp at hy hv
    subst hy hv
    exact h
  | j + 1 => simp at hy
theorem rda_int {sz by_ : Nat} {z : Value} {k : IntKind} [i : Ty P t (.int k)] [i2 : Tz P t sz by_ z] (hsz : sz = 1) : RdA P t Int 1 (fun n => [.int k n]) (fun n => (Lit.int k n).wf = true) := by
  subst hsz
  refine ⟨cells_of i2, fun a => ⟨rfl, by simp [AV.cell]⟩, fun H enc W fuel cs x h => ?_⟩
  obtain ⟨n, rfl, _, hw⟩ := DataW.trod_int i.und h
  exact ⟨n, hw, rfl, one_at (.int k n)⟩
theorem rda_bool {sz by_ : Nat} {z : Value} [i : Ty P t .bool] [i2 : Tz P t sz by_ z] (hsz : sz = 1) : RdA P t Bool 1 (fun b => [.bool b]) (fun _ => True) := by
  subst hsz
  refine ⟨cells_of i2, fun a => ⟨rfl, by simp [AV.cell]⟩, fun H enc W fuel cs x h => ?_⟩
  obtain ⟨n, rfl, _⟩ := DataW.trod_bool i.und h
  exact ⟨n, trivial, rfl, one_at (.bool n)⟩
theorem rda_str {sz by_ : Nat} {z : Value} [i : Ty P t .string] [i2 : Tz P t sz by_ z] (hsz : sz = 1) : RdA P t ByteArray 1 (fun b => [.str b]) (fun b => b.size ≤ maxLen) := by
  subst hsz
  refine ⟨cells_of i2, fun a => ⟨rfl, by simp [AV.cell]⟩, fun H enc W fuel cs x h => ?_⟩
  obtain ⟨n, rfl, _, hm⟩ := DataW.trod_string i.und h
  exact ⟨n, hm, rfl, one_at (.str n)⟩
theorem rda_slice {α : Type} {e : TypeId} {sz szs by_ : Nat} {z : Value} {en : α → List AV} {ok : α → Prop} [i : Ty P t (.slice e)] [i2 : Tz P t szs by_ z] (hsz : szs = 1) (hpos : 0 < sz) (he : RdA P e α sz en ok) :
    RdA P t (List α) 1 (fun l => [.ro sz (l.map en) .any]) (fun l => l.length ≤ maxLen ∧ ∀ a ∈ l, ok a) := by
  subst hsz
  refine ⟨cells_of i2, fun a => ⟨rfl, by simp [AV.cell]⟩, fun H enc W fuel cs x h => ?_⟩
  rcases open_slice i.und h with ⟨rfl, _⟩ | ⟨a, len, cap, m, n, D, Pl, rfl, _, hl, hm, hmm, _, hi⟩
  · exact ⟨[], ⟨Nat.zero_le _, by simp⟩, rfl, one_at (.ro0 (Nat.zero_le _) (fun _ => rfl) (fun h => by cases h) (fun h => by cases h))⟩
  · simp only [if_true] at hmm
    subst hmm
    rcases Nat.eq_zero_or_pos len with rfl | hlen
    · exact ⟨[], ⟨Nat.zero_le _, by simp⟩, rfl, one_at (.ro0 hm (fun h => by cases h) (fun h => by cases h) (fun h => by cases h))⟩
    obtain ⟨b, off, spot⟩ := a
    have hspot : spot = none ∧ b < W.heap.size := by
      obtain ⟨us0, hc0, _⟩ := hi 0 (by omega)
      obtain ⟨_, hul0, hat0⟩ := World.cells?_some hc0
      rw [he.cells] at hul0 hat0
      have h00 := hat0 0 hpos
      rw [List.getElem?_eq_getElem (by omega)] at h00
      simp only [Nat.zero_mul] at h00
      have hs : spot = none := by simpa [Addr.add] using World.cell?_spot h00
      refine ⟨hs, ?_⟩
      have := World.block_lt_of_cell? _ _ h00
      rwa [block_of_add, block_of_add] at this
    obtain ⟨rfl, hlt⟩ := hspot
    have hex : ∀ i : Nat, ∃ y : Option (α × List Value), i < len → ∃ z us, y = some (z, us) ∧ ok z ∧ us.length = sz ∧ (∀ (j : Nat) (u : Value), us[j]? = some u → W.cell? ⟨b, off + i * sz + j, none⟩ = some u) ∧ ∀ (j : Nat) (x : AV) (u : Value), (en z)[j]? = some x → us[j]? = some u → VR0 W x u := by
      intro i
      by_cases hlt : i < len
      · obtain ⟨us, hc, htr⟩ := hi i (by omega)
        obtain ⟨z, hz, hzl, hzv⟩ := he.read H enc W n us _ htr
        obtain ⟨_, hul, hat⟩ := World.cells?_some hc
        rw [he.cells] at hul hat
        refine ⟨some (z, us), fun _ => ⟨z, us, rfl, hz, hzl, fun j u hu => ?_, hzv⟩⟩
        have hj : j < sz := by have := (List.getElem?_eq_some_iff.1 hu).1; omega
        have := hat j hj
        rw [hu, add_of_add, Addr.add_lit] at this
        rw [Nat.add_assoc]
        exact this
      · exact ⟨none, fun h => absurd h hlt⟩
    obtain ⟨f, hf⟩ := Classical.axiomOfChoice hex
    obtain ⟨d, d2, _⟩ := hf 0 (by omega)
    let g : Nat → α × List Value := fun i => (f i).getD (d, d2)
    have hg : ∀ i, i < len → ok (g i).1 ∧ (g i).2.length = sz ∧ (∀ (j : Nat) (u : Value), (g i).2[j]? = some u → W.cell? ⟨b, off + i * sz + j, none⟩ = some u) ∧ ∀ (j : Nat) (x : AV) (u : Value), (en (g i).1)[j]? = some x → (g i).2[j]? = some u → VR0 W x u := by
      intro i hlt
      obtain ⟨z, us, hz, h1, h2, h3, h4⟩ := hf i hlt
      have : g i = (z, us) := by show (f i).getD _ = _; rw [hz]; rfl
      rw [this]
      exact ⟨h1, h2, h3, h4⟩
    have hpick : ∀ (i : Nat) (e : List AV) (j : Nat) (a : AV), (((List.range len).map fun i => (g i).1).map en)[i]? = some e → e[j]? = some a → i < len ∧ (en (g i).1)[j]? = some a ∧ ∃ u, (g i).2[j]? = some u ∧ u = ((g i).2[j]?).getD Go.undef := by
      intro i e j a hie hja
      have hlt : i < len := by have := (List.getElem?_eq_some_iff.1 hie).1; simpa using this
      rw [List.getElem?_map, List.getElem?_map, List.getElem?_range hlt] at hie
      simp at hie
      subst hie
      refine ⟨hlt, hja, ?_⟩
      have hj : j < (g i).2.length := by
        rw [(hg i hlt).2.1, ← (he.shape (g i).1).1]
        exact (List.getElem?_eq_some_iff.1 hja).1
      exact ⟨(g i).2[j], List.getElem?_eq_getElem hj, by simp [List.getElem?_eq_getElem hj]⟩
    refine ⟨(List.range len).map (fun i => (g i).1), ⟨by simp; omega, ?_⟩, rfl, one_at ?_⟩
    · intro a ha
      simp only [List.mem_map, List.mem_range] at ha
      obtain ⟨i, hi, rfl⟩ := ha
      exact (hg i hi).1
    · have hlen' : (((List.range len).map fun i => (g i).1).map en).length = len := by simp
      have key := VR.ro (M := fun _ => none) (F := fun b => b < W.heap.size) (w := W) (es := ((List.range len).map fun i => (g i).1).map en) (k := .any) (b := b) (o := off) (sz := sz) (cap := m)
        (us := fun i j => ((g i).2[j]?).getD Go.undef) hlt ?_ ?_ ?_ (by rw [hlen']; exact hl) hm (fun h => by cases h) (fun h => by cases h)
      · rw [hlen'] at key
        exact key
      · intro x hx
        simp only [List.mem_map] at hx
        obtain ⟨a, _, rfl⟩ := hx
        exact he.shape a
      · intro i e j a hie hja
        obtain ⟨h1, h2, u, hu, hu'⟩ := hpick i e j a hie hja
        rw [← hu']
        exact (hg i h1).2.2.1 j u hu
      · intro i e j a hie hja
        obtain ⟨h1, h2, u, hu, hu'⟩ := hpick i e j a hie hja
        rw [← hu']
        exact (hg i h1).2.2.2 j a u h2 hu

/-- the fields from some offset on -/
structure RdF (P : Program) (fs : List Field) (off : Nat) (α : Type) (sz : Nat) (en : α → List AV) (ok : α → Prop) : Prop where
  shape : ∀ a, (en a).length = sz ∧ ∀ x ∈ en a, x.cell = true
  read : ∀ (H : Type) (enc : TypeId × Value → H) (W : World) (cs : List Value), cs.length = off + sz → (∀ f ∈ fs, ∃ m y, DataW.trod enc P W 0 (fun _ => true) true m f.type ((cs.drop f.offset).take (P.cellsOf f.type)) = some y) →
    ∃ a : α, ok a ∧ ∀ (j : Nat) (x : AV) (u : Value), (en a)[j]? = some x → cs[off + j]? = some u → VR0 W x u
theorem rdf_one {α : Type} {sz off : Nat} {en : α → List AV} {ok : α → Prop} {f : Field} (h : RdA P f.type α sz en ok) (ho : f.offset = off) : RdF P [f] off α sz en ok := by
  refine ⟨h.shape, fun H enc W cs hl hf => ?_⟩
  obtain ⟨m, y, hy⟩ := hf f (by simp)
  obtain ⟨a, h1, h2, h3⟩ := h.read H enc W m _ y hy
  refine ⟨a, h1, fun j x u hx hu => h3 j x u hx ?_⟩
  have hj := (List.getElem?_eq_some_iff.1 hx).1
  rw [(h.shape a).1] at hj
  rw [List.getElem?_take, h.cells, if_pos hj, List.getElem?_drop, ho, hu]
theorem rdf_cons {α β : Type} {sz sz' off : Nat} {en : α → List AV} {ok : α → Prop} {en' : β → List AV} {ok' : β → Prop} {f : Field} {fs : List Field} (h : RdA P f.type α sz en ok) (ho : f.offset = off)
    (k : RdF P fs (off + sz) β sz' en' ok') : RdF P (f :: fs) off (α × β) (sz + sz') (fun p => en p.1 ++ en' p.2) (fun p => ok p.1 ∧ ok' p.2) := by
  refine ⟨fun a => ⟨by simp [(h.shape a.1).1, (k.shape a.2).1], fun x hx => (List.mem_append.1 hx).elim ((h.shape a.1).2 x) ((k.shape a.2).2 x)⟩, fun H enc W cs hl hf => ?_⟩
  obtain ⟨m, y, hy⟩ := hf f (by simp)
  obtain ⟨a, h1, h2, h3⟩ := h.read H enc W m _ y hy
  obtain ⟨b, k1, k2⟩ := k.read H enc W cs (by omega) (fun f' hf' => hf f' (by simp [hf']))
  refine ⟨(a, b), ⟨h1, k1⟩, fun j x u hx hu => ?_⟩
  have hsz : (en a).length = sz := (h.shape a).1
  dsimp only at hx
  by_cases hj : j < sz
  · refine h3 j x u ?_ ?_
    · rwa [List.getElem?_append_left (by omega)] at hx
    · rw [List.getElem?_take, h.cells, if_pos hj, List.getElem?_drop, ho, hu]
  · refine k2 (j - sz) x u ?_ ?_
    · rw [List.getElem?_append_right (by omega), hsz] at hx
      exact hx
    · rw [show off + sz + (j - sz) = off + j by omega]
      exact hu
theorem rda_struct {α : Type} {fs : List Field} {sz by_ : Nat} {z : Value} {en : α → List AV} {ok : α → Prop} [i : Ty P t (.struct fs.toArray)] [i2 : Tz P t sz by_ z] (h : RdF P fs 0 α sz en ok) : RdA P t α sz en ok := by
  refine ⟨cells_of i2, h.shape, fun H enc W fuel cs x hx => ?_⟩
  obtain ⟨hl, hf⟩ := struct_cells i.und (cells_of i2) hx
  obtain ⟨a, h1, h2⟩ := h.read H enc W cs (by omega) (fun f hfm => by
    obtain ⟨j, hj⟩ := List.getElem?_of_mem hfm
    exact hf j f (by simpa using hj))
  exact ⟨a, h1, by omega, fun j x u hx hu => h2 j x u hx (by simpa using hu)⟩

/-! ### arguments -/
/-- an argument of one cell -/
theorem arg_one {α : Type} {en : α → List AV} {ok : α → Prop} (h : RdA P t α 1 en ok) {H : Type} {enc : TypeId × Value → H} {W : World} {v : Value} {d : DataW H} {p : List MemPlace} (hv : v.cells.toList = [v])
    (hd : DataW.Trod enc P W 0 (fun _ => true) true t v d p) : ∃ a, ok a ∧ VR0 W ((en a).headD .undef) v := by
  obtain ⟨fuel, hf⟩ := hd
  rw [hv] at hf
  obtain ⟨a, h1, h2, h3⟩ := h.read H enc W fuel _ _ hf
  refine ⟨a, h1, ?_⟩
  have hl := (h.shape a).1
  match he : en a, hl with
  | [x], _ => exact h3 0 x v (by rw [he]; rfl) rfl
/-- an argument that is a struct -/
theorem arg_agg {α : Type} {sz : Nat} {en : α → List AV} {ok : α → Prop} (h : RdA P t α sz en ok) {H : Type} {enc : TypeId × Value → H} {W : World} {cs : Array Value} {d : DataW H} {p : List MemPlace}
    (hd : DataW.Trod enc P W 0 (fun _ => true) true t (.agg cs) d p) : ∃ a, ok a ∧ VR0 W (.agg (en a)) (.agg cs) := by
  obtain ⟨fuel, hf⟩ := hd
  obtain ⟨a, h1, h2, h3⟩ := h.read H enc W fuel _ _ hf
  refine ⟨a, h1, .agg ?_ fun j x u hx hu => h3 j x u hx ?_⟩
  · rw [(h.shape a).1]
    simpa [Value.cells] using h2
  · simpa [Value.cells] using hu
end

/-- a call from a world where nothing is one's own -/
theorem law_run {P : Program} {f : FuncId} {args : List AV} (h : SCall P f args [] (fun x _ => x = .bool true)) {W : World} {vs : List Value} (hl : vs.length = args.length) (hv : ∀ (i : Nat) (x : AV) (v : Value), args[i]? = some x → vs[i]? = some v → VR0 W x v) :
    Calls P f vs.toArray W fun e w' => e = .returned (.bool true) ∧ Below W.heap.size W w' := by
  refine (h (fun _ => none) (fun b => b < W.heap.size) 0 W vs hl hv ⟨by simp, by simp, fun g ⟨p, hp, _⟩ => by simp at hp, fun _ h => h, fun _ _ => rfl⟩).mono ?_
  rintro e w' ⟨v, x, M', F', N', σ', rfl, he, hvx, _, rfl⟩
  cases hvx
  exact ⟨rfl, he.only.below (Nat.le_refl _) fun i _ ⟨p, hp, _⟩ => by simp at hp⟩
theorem vs_nil {W : World} : ∀ (i : Nat) (x : AV) (v : Value), ([] : List AV)[i]? = some x → ([] : List Value)[i]? = some v → VR0 W x v := fun i x v h => by simp at h
theorem vs_cons {W : World} {x : AV} {v : Value} {xs : List AV} {vs : List Value} (h : VR0 W x v) (k : ∀ (i : Nat) (x : AV) (v : Value), xs[i]? = some x → vs[i]? = some v → VR0 W x v) :
    ∀ (i : Nat) (x' : AV) (v' : Value), (x :: xs)[i]? = some x' → (v :: vs)[i]? = some v' → VR0 W x' v' := by
  intro i x' v' hx hv
  match i with
  | 0 => simp at hx hv; subst hx hv; exact h
  | i + 1 => exact k i x' v' (by simpa using hx) (by simpa using hv)

end Go.Proofs.Ytkjfflabapeidaa
/-
  The symbolic layer: append onto a part of a slice that is only read, whose capacity is its length. No program is named here.
-/
namespace Go.Proofs.Ytkjfflabapeidaa
open Go.RowKit Go.ChangeShapes Go.WideShapes Go.ChangeAt Go.Deep
set_option linter.unusedSimpArgs false
set_option linter.unusedVariables false

/-- a block that is new is frozen -/
theorem SR.growF {M : Mp} {F : Nat → Prop} {N : Nat} {w w' : World} {σ : Sto} (h : SR M F N w σ) (hold : ∀ k, k < w.heap.size → w'.heap[k]? = w.heap[k]?) (hsz : w.heap.size ≤ w'.heap.size) {g : Nat} (hg : w.heap.size ≤ g) (hg' : g < w'.heap.size) :
    SR M (fun b => F b ∨ b = g) N w' σ where
  ent p hp := ER.mono (fun _ _ h => h) (fun _ h => .inl h) (fun b hb => hold b (h.flt b hb)) (fun g hg => hold g ((h.ent p hp).lt hg)) (h.ent p hp)
  inj := h.inj
  nof g' hB hF := by
    rcases hF with hF | rfl
    · exact h.nof g' hB hF
    · have := h.lt hB; omega
  flt b hb := by
    rcases hb with hb | rfl
    · have := h.flt b hb; omega
    · exact hg'
  fresh := h.fresh
theorem hop_append_full {P : Program} {n : Nat} {s : ASt} {x y : Operand} {t ty : TypeId} {d : Nat} {K : ASt → Prop} {e : TypeId} [Ty P t (.slice e)] {sz by_ : Nat} {zv : Value} [Tz P e sz by_ zv] (h0 : 0 < sz) (hz : zv.cells.size = sz) {es ys : List (List AV)} (hb : aev s x = some (.ro sz es .full)) (hy : Src s y sz ys)
    (hmax : es.length + ys.length ≤ maxLen) (hby : (es.length + ys.length) * by_ ≤ 140737488355328) (hd : d < n) (hK : K ⟨(d, .ro sz (es ++ ys) .any) :: s.fr, s.σ⟩) :
    Hop P n (.call { callee := .builtin .append, args := #[x, y], argTypes := #[t, t] }) ty (some d) s [] K := by
  intro M F N a w o ho hty hdst hr next Q hnext
  have hbase := hr.aev hb
  obtain ⟨i, hi, hz0, hs0, hb0⟩ := Tz.parts P e
  obtain ⟨A, c, news, he, hreads, hrows, hok, hm⟩ := hy.reads hr h0
  obtain ⟨B, c0, olds, hx, hreads0, hrows0, hok0, hm0⟩ := Src.reads hr h0 (.inl ⟨_, hb⟩ : Src s x sz es)
  have hc0 : c0 = es.length := by
    rw [hx] at hbase
    cases hbase with
    | ro hbb hs hc hrr hle hmm hf hn => exact hf rfl
    | ro0 hmm hA hf hn => simpa using hf rfl
  subst hc0
  by_cases hlen : ys = []
  · subst hlen
    have hrun : (execOp a.eval o).run P w = .ok (.value (.slice B es.length es.length)) w := by
      have hfirst : (Builtin.firstCells i.size 0 (.slice A 0 c)).run P w = .ok #[] w := by cases A <;> simp [Builtin.firstCells, loadCells, loadCellsFrom]
      simp only [execOp, ho, resolve, invoke, builtin, Sem.run_bind, Sem.run_pure, Result.andThen_ok, List.map_toArray, List.map_cons, List.map_nil, hx, he, List.length_nil]
      have hap : (Builtin.append_ #[t, t] o.type #[.slice B es.length es.length, .slice A 0 c]).run P w = .ok (.slice B es.length es.length) w := by
        cases B <;> simp [Builtin.append_, run_underlying (Ty.und (P := P) (t := t)), sizeOf, typeInfo, hi, Builtin.lenOf, hfirst, storeCells]
      rw [hap]
      rfl
    unfold Oper.wp
    rw [hrun, Oper.upon_value, hdst]
    rw [List.append_nil] at hK
    rw [hx] at hbase
    exact hnext M F N _ w ⟨(d, .ro sz es .any) :: s.fr, s.σ⟩ (hr.put hd (VLe.any M F w _ hbase)) (Ext.refl _ _ _ _ _) (Only.refl _ _) hK
  · have hpos : 0 < ys.length := by cases ys <;> first | exact absurd rfl hlen | simp
    obtain ⟨ad, rfl, hadb, hcell⟩ := hreads.2 hpos
    have hap : ∃ v' w', (Builtin.append_ #[t, t] o.type #[.slice B es.length es.length, .slice (some ad) ys.length c]).run P w = .ok v' w' ∧ w'.ownsRow w.heap.size e sz v' (es.length + ys.length) (olds ++ news) ∧ w.grownBy w' none := by
      cases B with
      | none =>
        have hn0 : es.length = 0 := by
          rcases Nat.eq_zero_or_pos es.length with h | h
          · exact h
          · obtain ⟨ad', h', _⟩ := hreads0.2 h
            cases h'
        have ho0 : olds = [] := List.eq_nil_of_length_eq_zero (by have := hreads0.1; rw [hn0] at this; simpa using this)
        subst ho0
        rw [hn0]
        obtain ⟨v', w', h1, h2, h3, _⟩ := run_append_any (P := P) w w.heap.size t o.type e i zv sz by_ (Ty.und (P := P) (t := t)) hi hz0 hs0 hb0 hz h0 (.slice none 0 0) 0 [] ⟨by simp, .inl ⟨rfl, rfl⟩⟩ w.heap.size (some ad) ys.length c news hreads (hrows.one h0 hok) (by omega) (by rw [hn0] at hby; exact hby) (Nat.le_refl _)
        exact ⟨v', w', h1, h2, h3⟩
      | some b =>
        have hcell0 : ∀ j u, olds[j]? = some u → w.cell? (b.add j) = some u := by
          intro j u hu
          rcases Nat.eq_zero_or_pos es.length with h | h
          · have ho0 : olds = [] := List.eq_nil_of_length_eq_zero (by have := hreads0.1; rw [h] at this; simpa using this)
            rw [ho0] at hu; simp at hu
          · obtain ⟨ad', h', _, hc⟩ := hreads0.2 h
            injection h' with h'
            subst h'
            exact hc j u hu
        exact run_append_arg_grows (P := P) w t o.type e i zv sz by_ (Ty.und (P := P) (t := t)) hi hz0 hs0 hb0 hz h0 b es.length es.length olds hreads0.1 hcell0 ad ys.length c news hreads.1 hcell (by omega) hmax hby
    obtain ⟨v', w', hap, hown, hgr⟩ := hap
    have hrun : (execOp a.eval o).run P w = .ok (.value v') w' := by
      simp only [execOp, ho, resolve, invoke, builtin, Sem.run_bind, Sem.run_pure, Result.andThen_ok, List.map_toArray, List.map_cons, List.map_nil, hx, he, hap]
    unfold Oper.wp
    rw [hrun, Oper.upon_value, hdst]
    rcases hown.2 with ⟨_, hz'⟩ | ⟨g, cap, cur, rfl, hbg, hg, hn, hm2, hs2, ht2⟩
    · omega
    · have hgl : g < w'.heap.size := (Array.getElem?_eq_some_iff.1 hg).1
      have hold : ∀ k, k < w.heap.size → w'.heap[k]? = w.heap[k]? := fun k hk => hgr.block k hk (by simp)
      have hSame : Same F w w' := fun b hb => hold b (hr.st.flt b hb)
      have hsr := hr.st.growF hold hgr.size hbg hgl
      have hcat : RowsAt M F w sz (es ++ ys) (olds ++ news) := hrows0.append hok0 hrows
      have hokC : RowsOk sz (es ++ ys) := fun x hx => (List.mem_append.1 hx).elim (hok0 x) (hok x)
      have hat : ∀ (i' : Nat) (e' : List AV) (j : Nat) (a' : AV), (es ++ ys)[i']? = some e' → e'[j]? = some a' → ∃ u, (olds ++ news)[i' * sz + j]? = some u ∧ w'.cell? ⟨g, 0 + i' * sz + j, none⟩ = some u := by
        intro i' e' j a' hi' hj
        have hil := (List.getElem?_eq_some_iff.1 hi').1
        have hjs : j < sz := by rw [← (hokC e' (List.mem_of_getElem? hi')).1]; exact (List.getElem?_eq_some_iff.1 hj).1
        have hlt : i' * sz + j < (olds ++ news).length := by rw [hown.1, ← List.length_append]; exact flat_idx hil hjs
        refine ⟨_, List.getElem?_eq_getElem hlt, ?_⟩
        rw [Nat.zero_add, Cl.cell (ty := e) hg, ← Array.getElem?_toList]
        have h1 : (cur.toList.take ((es.length + ys.length) * sz))[i' * sz + j]? = some (olds ++ news)[i' * sz + j] := by rw [ht2]; exact List.getElem?_eq_getElem hlt
        rw [List.getElem?_take] at h1
        split at h1
        · exact h1
        · cases h1
      have hv : VR M (fun b => F b ∨ b = g) w' (.ro sz (es ++ ys) .any) (.slice (some ⟨g, 0, none⟩) (es.length + ys.length) cap) := by
        have := VR.ro (M := M) (F := fun b => F b ∨ b = g) (w := w') (es := es ++ ys) (k := .any) (b := g) (o := 0) (sz := sz) (cap := cap) (us := fun i' j => ((olds ++ news)[i' * sz + j]?).getD Go.undef) (.inr rfl) hokC
          (fun i' e' j a' hi' hj => by obtain ⟨u, hu, hc⟩ := hat i' e' j a' hi' hj; rw [hc, hu]; rfl)
          (fun i' e' j a' hi' hj => by
            obtain ⟨u, hu, _⟩ := hat i' e' j a' hi' hj
            rw [hu]
            exact VR.mono (fun _ _ h => h) (fun _ h => .inl h) hSame (hcat.2 i' e' j a' u hi' hj hu))
          (by rw [List.length_append]; exact hn) hm2 (fun h => by cases h) (fun h => by cases h)
        rwa [List.length_append] at this
      have hext : Ext M F N w s.σ M (fun b => F b ∨ b = g) N w' s.σ := by
        refine ⟨fun _ _ h => h, fun _ h => .inl h, Nat.le_refl _, ⟨hgr.os, hgr.tape, hgr.output, hgr.size, fun k hk _ => hold k hk⟩, fun _ h _ => h, fun b hb => ?_, fun p hp _ => ⟨p, hp, rfl⟩⟩
        rcases hb with hb | rfl
        · exact .inl hb
        · exact .inr (.inl hbg)
      have hr2 : Rel M (fun b => F b ∨ b = g) N n s a w' := hr.step hext hsr rfl
      exact hnext M _ N _ w' ⟨(d, .ro sz (es ++ ys) .any) :: s.fr, s.σ⟩ (hr2.put hd hv) hext ⟨hgr.os, hgr.tape, hgr.output, hgr.size, fun k hk _ => hold k hk⟩ hK
theorem daf {P : Program} {n : Nat} {ops : Array Oper} {fr : Fr} {σ : Sto} {K : ASt → Prop} {ty t : TypeId} {pos : String} {af : Array Edge} {listed : Array Bool} {todo : List (Nat × Bool)} {held : List (Nat × List Nat)} {i d : Nat} {x y : Operand} {e : TypeId} {sz by_ : Nat} {zv : Value} {es ys : List (List AV)}
    (hi : ops[i]? = some ⟨some d, .call { callee := .builtin .append, args := #[x, y], argTypes := #[t, t] }, ty, pos, af, none⟩) (i1 : Ty P t (.slice e)) (i2 : Tz P e sz by_ zv) (h0 : (decide (0 < sz) && zv.cells.size == sz) = true) (hx : aev ⟨fr, σ⟩ x = some (.ro sz es .full)) (hy : Src ⟨fr, σ⟩ y sz ys)
    (hmax : es.length + ys.length ≤ maxLen) (hby : (es.length + ys.length) * by_ ≤ 140737488355328) (hd : Nat.ble (d + 1) n = true) (hK : RD P n ops (listed.setIfInBounds i true) todo held ⟨(d, .ro sz (es ++ ys) .any) :: fr, σ⟩ K) : RD P n ops listed ((i, false) :: todo) held ⟨fr, σ⟩ K := by
  simp only [Bool.and_eq_true, decide_eq_true_eq, beq_iff_eq] at h0
  exact rd_new hi (hop_append_full h0.1 h0.2 hx hy hmax hby (lt_ble hd) hK)
end Go.Proofs.Ytkjfflabapeidaa
/-
  The symbolic layer: function values and calls of them. No program is named here.
-/
namespace Go.Proofs.Ytkjfflabapeidaa
open Go.RowKit Go.ChangeShapes Go.WideShapes Go.ChangeAt Go.Deep
set_option linter.unusedSimpArgs false
set_option linter.unusedVariables false

theorem vr_at {M : Mp} {F : Nat → Prop} {w : World} {xs : List AV} {us : List Value} (hl : us.length = xs.length) (h : ∀ (i : Nat) (v : AV), xs[i]? = some v → ∃ u, us[i]? = some u ∧ VR M F w v u) : ∀ (j : Nat) (a : AV) (u : Value), xs[j]? = some a → us[j]? = some u → VR M F w a u := by
  intro j a u ha hu
  obtain ⟨u', hu', hv⟩ := h j a ha
  rw [hu] at hu'
  cases hu'
  exact hv
/-- a function value: its code, what it holds -/
theorem lop_func {P : Program} {ty : TypeId} {s : ASt} {c : Bool} {fn : Fn} {first captured : Array Operand} {xs cs : List AV} (h1 : AEvs s first.toList xs) (h2 : AEvs s captured.toList cs) : Lop P (.makeFunc fn first captured) ty s c (.fn fn xs cs) [] :=
  Lop.pure_ fun M F N n a w hr hc => by
    obtain ⟨l1, k1⟩ := h1.at_ hr
    obtain ⟨l2, k2⟩ := h2.at_ hr
    refine ⟨.func fn (first.map a.eval) (captured.map a.eval), .fn ?_ ?_ ?_ ?_, fun w' o ho _ => ?_⟩
    · rw [← l1]; simp
    · intro j a' u ha hu
      refine vr_at l1 k1 j a' u ha ?_
      rw [← hu, ← Array.getElem?_toList]; simp
    · rw [← l2]; simp
    · intro j a' u ha hu
      refine vr_at l2 k2 j a' u ha ?_
      rw [← hu, ← Array.getElem?_toList]; simp
    · simp only [execOp, ho, Instr.makeFunc, Sem.run_bind, Sem.run_pure, Result.andThen_ok]
theorem append_vr {M : Mp} {F : Nat → Prop} {w : World} {xs ys : List AV} {us vs : List Value} (hl : us.length = xs.length) (h : ∀ (j : Nat) (a : AV) (u : Value), xs[j]? = some a → us[j]? = some u → VR M F w a u)
    (k : ∀ (j : Nat) (a : AV) (u : Value), ys[j]? = some a → vs[j]? = some u → VR M F w a u) : ∀ (j : Nat) (a : AV) (u : Value), (xs ++ ys)[j]? = some a → (us ++ vs)[j]? = some u → VR M F w a u := by
  intro j a u ha hu
  by_cases hj : j < xs.length
  · rw [List.getElem?_append_left hj] at ha
    rw [List.getElem?_append_left (by omega)] at hu
    exact h j a u ha hu
  · rw [List.getElem?_append_right (by omega)] at ha
    rw [List.getElem?_append_right (by omega)] at hu
    exact k (j - xs.length) a u ha (by rw [← hl]; exact hu)
def fnArgs (a : Act) (x : Operand) (xs : List Operand) : List Value := match a.eval x with
  | .func _ us vs => us.toList ++ xs.map a.eval ++ vs.toList
  | _ => []
/-- a call of a function value -/
theorem hop_call_fn {P : Program} {n : Nat} {s : ASt} {ty : TypeId} {d : Nat} {x : Operand} {f : FuncId} {us vs : List AV} {xs : List Operand} {ats : Array TypeId} {args : List AV} {σ1 : Sto} {R : AV → Sto → Prop} {K : ASt → Prop} (hx : aev s x = some (.fn (.func f) us vs)) (hf : ∀ args w, (callFunc f args).run P w = .ok (.enter f args) w)
    (h : SCall P f (us ++ args ++ vs) σ1 R) (hd : d < n) (hargs : ArgsLe s xs args) (hsub : ∀ p ∈ σ1, p ∈ s.σ)
    (hK : ∀ x σ', R x σ' → (∀ p ∈ σ', (∃ q ∈ σ1, q.1 = p.1) ∨ Fresh p.1 s.σ) → K ⟨(d, x) :: s.fr, σ' ++ sdrop (σ1.map (·.1)) s.σ⟩) :
    Hop P n (.call { callee := .value x, args := xs.toArray, argTypes := ats }) ty (some d) s (σ1.map (·.1)) K := by
  refine Hop.of_call hd h hsub (fun a => fnArgs a x xs) (fun M F N a w o ho hr => ?_) hK
  have hv := hr.aev hx
  have hl := hargs.len
  have ha := hargs.vr hr
  obtain ⟨dst, op, ty', pos, after, guard⟩ := o
  dsimp only at ho
  subst ho
  generalize hu : a.eval x = u at hv
  cases hv with
  | @fn _ _ _ us' vs' h1 h2 h3 h4 =>
    have hfa : fnArgs a x xs = us'.toList ++ xs.map a.eval ++ vs'.toList := by unfold fnArgs; rw [hu]
    refine ⟨?_, ?_, ?_⟩
    · have : execOp a.eval { dst, op := .call { callee := .value x, args := xs.toArray, argTypes := ats }, type := ty', pos, after, guard } = (do
          let d ← Deferred.ofValue (a.eval x) (xs.toArray.map a.eval)
          invoke d.target d.args) := rfl
      rw [this, hu, hfa]
      simp only [Deferred.ofValue, Sem.run_bind, Sem.run_pure, Result.andThen_ok, invoke, hf]
      simp
    · rw [hfa]
      simp only [List.length_append, List.length_map, Array.length_toList]
      omega
    · rw [hfa]
      refine append_vr (by simp; omega) (append_vr (by simpa using h1) (fun j a' u' h5 h6 => h2 j a' u' h5 (by simpa using h6)) (fun j a' u' h5 h6 => ha j a' u' h5 h6)) (fun j a' u' h5 h6 => h4 j a' u' h5 (by simpa using h6))
theorem sdrop_all {σ : Sto} : sdrop (σ.map (·.1)) σ = [] := by
  unfold sdrop
  rw [List.filter_eq_nil_iff]
  intro p hp
  simp
  exact ⟨_, hp⟩
section
variable {P : Program} {n : Nat} {ops : Array Oper} {rest : List Oper} {fr : Fr} {σ : Sto} {K : ASt → Prop} {ty : TypeId} {pos : String} {af : Array Edge} {d : Nat}
/-- a call of a function value that is given the entries σ1 -/
theorem cf_ {x : Operand} {f : FuncId} {us vs : List AV} {xs : List Operand} {ats : Array TypeId} {args : List AV} {R : AV → Sto → Prop} (σ1 : Sto) (hx : aev ⟨fr, σ⟩ x = some (.fn (.func f) us vs)) (hf : ∀ args w, (callFunc f args).run P w = .ok (.enter f args) w) (h : SCall P f (us ++ args ++ vs) σ1 R) (hd : Nat.ble (d + 1) n = true)
    (hargs : ArgsLe ⟨fr, σ⟩ xs args) (hsub : ∀ p ∈ σ1, p ∈ σ) (hK : ∀ x σ', R x σ' → (∀ p ∈ σ', (∃ q ∈ σ1, q.1 = p.1) ∨ Fresh p.1 σ) → RS P n ops rest ⟨(d, x) :: fr, σ' ++ sdrop (σ1.map (·.1)) σ⟩ K) :
    RS P n ops (⟨some d, .call { callee := .value x, args := xs.toArray, argTypes := ats }, ty, pos, af, none⟩ :: rest) ⟨fr, σ⟩ K := rs_heavy (hop_call_fn hx hf h (lt_ble hd) hargs hsub hK)
end
end Go.Proofs.Ytkjfflabapeidaa
/-
  The symbolic layer: append of noughts (of one cell each) onto a row of the call's own. No program is named here.
-/
namespace Go.Proofs.Ytkjfflabapeidaa
open Go.RowKit Go.ChangeShapes Go.WideShapes Go.ChangeAt Go.Deep
set_option linter.unusedSimpArgs false
set_option linter.unusedVariables false

theorem zeroCells_one (z0 : Value) (k : Nat) : Builtin.zeroCells #[z0] k = (List.replicate k z0).toArray := by
  apply Array.ext
  · simp [Builtin.zeroCells]
  · intro i h1 h2
    have h3 : i % 1 = 0 := Nat.mod_one i
    simp [Builtin.zeroCells, h3]
theorem run_append_own_zeros {P : Program} (w : World) (base : Nat) (t tn ty e : TypeId) (i : TypeInfo) (z z0 : Value) (kq kn : IntKind) (ht : P.underlying t = some (.slice e)) (htn : P.underlying tn = some (.int kn)) (hi : P.info? e = some i) (hz : i.zero = some z) (hs : i.size = 1) (hzc : z.cells = #[z0]) (h1 : z0.oneCell' = true)
    (B : Option Addr) (n c : Nat) (xs : List Value) (hown : (n = 0 ∧ c = 0 ∧ xs = []) ∨ w.ownsRow base e 1 (.slice B n c) n xs) (k : Nat) (h0 : 0 < k) (h63 : n + k ≤ maxLen) (hbytes : (n + k) * i.bytes ≤ 140737488355328) (hbase : base ≤ w.heap.size) :
    ∃ v' w', (Builtin.append_ #[t, tn] ty #[.slice B n c, .int kq k]).run P w = .ok v' w' ∧ w'.ownsRow base e 1 v' (n + k) (xs ++ List.replicate k z0) ∧
      ((∃ g, B = some ⟨g, 0, none⟩ ∧ v' = .slice B (n + k) c ∧ ∃ cs, w' = w.setRow g cs) ∨ (∃ cs, v'.ownBlock = some w.heap.size ∧ w' = w.drew.alloc (.cells cs e))) := by
  have hkb : k * i.bytes ≤ 281474976710656 := by have := Nat.mul_le_mul_right i.bytes (show k ≤ n + k by omega); omega
  have hk : k ≠ 0 := by omega
  have hw : IntKind.i64.wrap (k : Int) = k := by rw [IntKind.wrap_i64]; simp only [maxLen] at h63; omega
  have h48i : ¬ (281474976710656 < (k : Int) * (i.bytes : Int)) := by rw [← Int.natCast_mul]; omega
  have hneg : ¬ ((k : Int) < 0) := by omega
  have hns : ¬ (k * i.size = 0) := Nat.mul_ne_zero hk (by omega)
  have hxl : xs.length = n := by rcases hown with ⟨rfl, _, rfl⟩ | h <;> first | rfl | (have := h.1; omega)
  have grow : ∀ old : (Builtin.firstCells i.size n (.slice B n c)).run P w.drew = .ok xs.toArray w.drew, c < n + k → ∃ v' w', (Builtin.append_ #[t, tn] ty #[.slice B n c, .int kq k]).run P w = .ok v' w' ∧ w'.ownsRow base e 1 v' (n + k) (xs ++ List.replicate k z0) ∧
      ((∃ g, B = some ⟨g, 0, none⟩ ∧ v' = .slice B (n + k) c ∧ ∃ cs, w' = w.setRow g cs) ∨ (∃ cs, v'.ownBlock = some w.heap.size ∧ w' = w.drew.alloc (.cells cs e))) := by
    intro hold hroom
    have hr := Lib.run_append_grow_zeros w t tn ty e i z kq kn ht htn hi hz B n c xs hold k h0 (by omega) hroom (by simp only [maxLen] at h63; omega) hkb (growslice_fits (by omega) hbytes)
    refine ⟨_, _, hr, ⟨by simp [hxl], .inr ⟨w.heap.size, _, _, rfl, hbase, heap_alloc_new w.drew _, grownCap_ge w (n + k) c e, grownCap_le_maxLen w (n + k) c e h63, ?_, ?_⟩⟩, .inr ⟨_, rfl, rfl⟩⟩
    · have := grownCap_ge w (n + k) c e
      simp only [hzc, zeroCells_one, Array.size_append, List.size_toArray, List.length_replicate, hxl]
      omega
    · simp only [hzc, zeroCells_one, Array.toList_append]
      rw [show (n + k) * 1 = (xs ++ List.replicate k z0).length by simp [hxl]]
      exact List.take_left
  rcases hown with ⟨rfl, rfl, rfl⟩ | hown
  · refine grow ?_ (by omega)
    cases B <;> simp [Builtin.firstCells, loadCells, loadCellsFrom]
  · rcases hown.2 with ⟨hv, rfl⟩ | ⟨g, cap, cur, hv, hbg, hg, hnc, hcm, hcs, htake⟩
    · cases hv
      have : xs = [] := List.eq_nil_of_length_eq_zero hxl
      subst this
      exact grow (by simp [Builtin.firstCells, loadCells, loadCellsFrom]) (by omega)
    · cases hv
      by_cases hroom : n + k ≤ c
      · have hfit : n * i.size + (List.replicate k z0).length ≤ cur.size := by rw [hs, hcs]; simp; omega
        have hst := run_storeCells_at P g (n * i.size) e (List.replicate k z0) 0 cur w hg (by simpa using hfit) (fun u hu => by rw [List.eq_of_mem_replicate hu]; exact h1)
        have hr : (Builtin.append_ #[t, tn] ty #[.slice (some ⟨g, 0, none⟩) n c, .int kq k]).run P w = .ok (.slice (some ⟨g, 0, none⟩) (n + k) c) (w.setRow g (cur.toList.take n ++ List.replicate k z0 ++ cur.toList.drop (n + k)).toArray) := by
          simp only [Nat.add_zero, hs, Nat.mul_one, List.length_replicate] at hst
          simp [Builtin.append_, run_underlying ht, run_underlying htn, sizeOf, typeInfo, zeroValue, hi, hz, asInt, asIntOf, hw, hneg, hk, h48i, hroom, Addr.add_lit, hst, hzc, zeroCells_one, hs]
        refine ⟨_, _, hr, ⟨by simp [hxl], .inr ⟨g, c, _, rfl, hbg, setRow_heap w g cur _ e _ hg, hroom, hcm, ?_, ?_⟩⟩, .inl ⟨g, rfl, rfl, _, rfl⟩⟩
        · simp; omega
        · rw [Nat.mul_one] at htake
          simp only [htake]
          rw [show (n + k) * 1 = (xs ++ List.replicate k z0).length by simp [hxl]]
          exact List.take_left
      · refine grow (run_firstCells_some (P := P) w.drew i.size n ⟨g, 0, none⟩ n c xs (by rw [hs, hxl]; omega) (fun j u hj => ?_)) (by omega)
        exact (hown.cells (g := g) rfl) j u hj

section
variable {P : Program} {n : Nat} {s : ASt} {K : ASt → Prop} {ty t tn : TypeId} {d : Nat} {x y : Operand} {pos : String} {af : Array Edge}
/-- append of k noughts onto a row of the call's own, all of it -/
theorem hop_append_zeros {e : TypeId} [Ty P t (.slice e)] {kn : IntKind} [Ty P tn (.int kn)] {by_ : Nat} {zv z0 : Value} [Tz P e 1 by_ zv] (hzc : zv.cells = #[z0]) (h1 : z0.oneCell' = true) (hcl : (ofConst z0).cell = true) {r len k : Nat} {kq : IntKind} {m : Int} {es : List (List AV)} (hb : aev s x = some (.own r 0 len)) (hg : sget s.σ r = some (.arr e 1 es)) (hlen : len = es.length) (hy : aev s y = some (.int kq m)) (hm : m = (k : Int)) (h0 : 0 < k)
    (hmax : len + k ≤ maxLen) (hby : (len + k) * by_ ≤ 140737488355328) (hd : d < n)
    (hK : ∀ r', Fresh r' (sdrop [r] s.σ) → K ⟨(d, .own r' 0 (len + k)) :: s.fr, (r', .arr e 1 (es ++ List.replicate k [ofConst z0])) :: sdrop [r] s.σ⟩) : Hop P n (.call { callee := .builtin .append, args := #[x, y], argTypes := #[t, tn] }) ty (some d) s [r] K := by
  subst hm
  intro M F N a w o ho hty hdst hr next Q hnext
  have hbase := hr.aev hb
  have hmem := sget_mem hg
  obtain ⟨h0', hrowsE, h3⟩ := hr.st.ent _ hmem
  obtain ⟨i, hi, hz0, hs0, hb0⟩ := Tz.parts P e
  have ey := (Ev.here hy : Ev s true y _).int hr rfl
  -- what the row holds
  have hown : ∃ B c xs, a.eval x = .slice B len c ∧ ((len = 0 ∧ c = 0 ∧ xs = []) ∨ w.ownsRow 0 e 1 (.slice B len c) len xs) ∧ RowsAt M F w 1 es xs ∧ (∀ g, B = some ⟨g, 0, none⟩ → 0 < c → blkOf M r = some g) := by
    generalize a.eval x = u at hbase ⊢
    cases hbase with
    | own0 =>
      rename_i A
      have he : es = [] := List.eq_nil_of_length_eq_zero hlen.symm
      subst he
      exact ⟨A, 0, [], rfl, .inl ⟨rfl, rfl, rfl⟩, ⟨rfl, fun i x j a u hi => by simp at hi⟩, fun g _ h => absurd h (Nat.lt_irrefl _)⟩
    | own hM hle hmm =>
      rcases h3 with ⟨hv', _⟩ | ⟨g, cc, vs, hM', hcl', hsz, hle', hmax', hvr⟩
      · rw [hM] at hv'; cases hv'
      · have hg' := hM'.symm.trans hM
        simp only [Option.some.injEq, Blk'.row.injEq] at hg'
        obtain ⟨q1, q2, q3⟩ := hg'
        subst q1
        subst q2
        have hfit : len * 1 ≤ vs.size := by rw [hsz]; exact Nat.mul_le_mul_right _ (by omega)
        refine ⟨some ⟨g, 0, none⟩, cc, vs.toList.take (len * 1), by simp, .inr ⟨by rw [List.length_take]; simp; omega, .inr ⟨g, cc, vs, by simp, Nat.zero_le _, hcl', by omega, hmm, hsz, rfl⟩⟩, ⟨by rw [List.length_take]; simp; omega, fun i' x' j b u hi' hj hu => ?_⟩, fun g2 hg2 _ => ?_⟩
        · have hil := (List.getElem?_eq_some_iff.1 hi').1
          have hjs : j < 1 := by rw [← (hrowsE x' (List.mem_of_getElem? hi')).1]; exact (List.getElem?_eq_some_iff.1 hj).1
          rw [List.getElem?_take_of_lt (flat_idx (by omega) hjs)] at hu
          exact hvr i' x' j b u hi' hj (by simpa using hu)
        · simp only [Option.some.injEq, Addr.mk.injEq] at hg2
          obtain ⟨rfl, _⟩ := hg2
          simp [blkOf, hM]
  obtain ⟨B, c, xs, hx, hown, hrT, hblk⟩ := hown
  subst hlen
  obtain ⟨v', w', hrun, ho', hcase⟩ := run_append_own_zeros (P := P) w 0 t tn o.type e i zv z0 kq kn (Ty.und (P := P) (t := t)) (Ty.und (P := P) (t := tn)) hi hz0 hs0 hzc h1 B es.length c xs hown k h0 hmax (by rw [hb0]; exact hby) (Nat.zero_le _)
  have hex : (execOp a.eval o).run P w = .ok (.value v') w' := by
    simp only [execOp, ho, resolve, invoke, builtin, Sem.run_bind, Sem.run_pure, Result.andThen_ok, List.map_toArray, List.map_cons, List.map_nil, hx, ey, hrun]
  unfold Oper.wp
  rw [hex, Oper.upon_value, hdst]
  have hokC : RowsOk 1 (es ++ List.replicate k [ofConst z0]) := fun x hx => (List.mem_append.1 hx).elim (hrowsE x) (fun h => by
    obtain rfl := List.eq_of_mem_replicate h
    exact ⟨rfl, fun a ha => by obtain rfl := List.mem_singleton.1 ha; exact hcl⟩)
  have hnew : RowsAt M F w 1 (List.replicate k [ofConst z0]) (List.replicate k z0) := ⟨by simp, fun i' x' j b u hi' hj hu => by
    rw [List.getElem?_replicate] at hi'
    split at hi'
    · obtain rfl := Option.some.inj hi'
      have hjs := (List.getElem?_eq_some_iff.1 hj).1
      simp at hjs
      subst hjs
      simp at hj
      subst hj
      rw [List.getElem?_replicate] at hu
      split at hu
      · obtain rfl := Option.some.inj hu
        exact ofConst_vr _
      · cases hu
    · cases hi'⟩
  have hcat : RowsAt M F w 1 (es ++ List.replicate k [ofConst z0]) (xs ++ List.replicate k z0) := hrT.append hrowsE hnew
  have hpos : 0 < es.length + k := by omega
  have honly : Only (fun q => blkOf M r = some q) w w' := by
    rcases hcase with ⟨g, hB, hv, cs, rfl⟩ | ⟨cs, _, rfl⟩
    · refine ⟨rfl, rfl, rfl, by simp, fun q hq hne => setRow_other w g q cs (fun e => hne ?_)⟩
      subst e
      subst hv
      have hcpos : 0 < c := by
        rcases ho'.2 with ⟨hv, _⟩ | ⟨g2, cap, cur, hv, _, _, hn2, _⟩
        · rw [hB] at hv; cases hv
        · rw [hB] at hv
          cases hv
          omega
      exact hblk _ hB hcpos
    · exact ⟨rfl, rfl, rfl, by simp, fun q hq _ => heap_alloc_old w.drew _ hq⟩
  have hSame : Same F w w' := fun g hgF => honly.block g (hr.st.flt g hgF) (fun e => hr.st.nof g ⟨_, hmem, e⟩ hgF)
  rcases ho'.2 with ⟨rfl, hz'⟩ | ⟨g2, cap, cur, rfl, _, hg2, hn2, hm2, hs2, ht2⟩
  · omega
  · have hE : ER (addM M N (.row g2 cap 1)) F w' N (.arr e 1 (es ++ List.replicate k [ofConst z0])) := by
      refine ⟨h0', hokC, .inr ⟨g2, cap, cur, addM_new _, hg2, hs2, by simpa using hn2, hm2, fun i' x' j b u hi' hj hu => ?_⟩⟩
      refine VR.mono (fun r b' h => addM_old hr.st.fresh _ h) (fun _ h => h) hSame (hcat.2 i' x' j b u hi' hj ?_)
      have hil := (List.getElem?_eq_some_iff.1 hi').1
      rw [List.length_append, List.length_replicate] at hil
      have hjs : j < 1 := by rw [← (hokC x' (List.mem_of_getElem? hi')).1]; exact (List.getElem?_eq_some_iff.1 hj).1
      rw [← ht2, List.getElem?_take_of_lt (flat_idx hil hjs)]
      simpa using hu
    obtain ⟨r1, e1, n1, o1⟩ := hr.move_ hmem (.row g2 cap 1) honly (fun g hg => by
      simp only [blkOf, addM_new, Option.some.injEq] at hg
      subst hg
      rcases hcase with ⟨g, hB, hv, _⟩ | ⟨cs, hv, _⟩
      · rw [hB] at hv
        cases hv
        exact .inl (hblk _ hB (by omega))
      · simp only [Value.ownBlock, Option.some.injEq] at hv
        exact .inr (by omega)) hE
    have hv := VR.own (M := addM M N (.row g2 cap 1)) (F := F) (w := w') (t := N) (off := 0) (len := es.length + k) (addM_new _) (by omega) hm2
    simp only [Nat.zero_mul, Nat.sub_zero] at hv
    exact hnext _ F (N + 1) _ _ ⟨(d, .own N 0 (es.length + k)) :: s.fr, _⟩ (r1.put hd hv) e1 o1 (hK N n1)
end
section
variable {P : Program} {n : Nat} {ops : Array Oper} {rest : List Oper} {fr : Fr} {σ : Sto} {K : ASt → Prop} {ty t tn : TypeId} {pos : String} {af : Array Edge} {x y : Operand} {d : Nat}
theorem apz {e : TypeId} [Ty P t (.slice e)] {kn : IntKind} [Ty P tn (.int kn)] {by_ : Nat} {zv z0 : Value} [Tz P e 1 by_ zv] {r len len' k : Nat} {kq : IntKind} {m : Int} {es es' : List (List AV)} (hzc : zv.cells = #[z0]) (h1 : z0.oneCell' = true) (hcl : (ofConst z0).cell = true) (hb : aev ⟨fr, σ⟩ x = some (.own r 0 len)) (hg : sget σ r = some (.arr e 1 es)) (hlen : len = es.length) (hy : aev ⟨fr, σ⟩ y = some (.int kq m)) (hm : m = (k : Int)) (h0 : 0 < k)
    (he : es ++ List.replicate k [ofConst z0] = es') (hl' : len' = len + k) (hmax : len' ≤ maxLen) (hby : len' * by_ ≤ 140737488355328) (hd : Nat.ble (d + 1) n = true)
    (hK : ∀ r', Fresh r' (sdrop [r] σ) → ∃ σ', SSet σ r (.arr e 1 es) r' (.arr e 1 es') σ' ∧ RS P n ops rest ⟨(d, .own r' 0 len') :: fr, σ'⟩ K) : RS P n ops (⟨some d, .call { callee := .builtin .append, args := #[x, y], argTypes := #[t, tn] }, ty, pos, af, none⟩ :: rest) ⟨fr, σ⟩ K := by
  subst he hl'
  refine rs_heavy (hop_append_zeros hzc h1 hcl hb hg hlen hy hm h0 hmax hby (lt_ble hd) fun r' hf => ?_)
  obtain ⟨σ', hs, hK⟩ := hK r' hf
  exact rs_sub (fun p hp => hs.sub p hp) hK
end
theorem rs_virt_box {P : Program} {n : Nat} {ops : Array Oper} {rest : List Oper} {s : ASt} {K : ASt → Prop} (r off : Nat) (e : TypeId) (sz : Nat) (h0 : 0 < sz) {bt : TypeId} {cs : List AV} {z : Nat} {k : Rk} (hg : sget s.σ r = some (.box bt cs)) (hx : cs[off]? = some (.ro z [] k)) (hk : k ≠ .any)
    (h : ∀ q, Fresh q s.σ → ∃ σ', SSet s.σ r (.box bt cs) r (.box bt (cs.set off (.own q 0 0))) σ' ∧ RS P n ops rest ⟨s.fr, (q, .arr e sz []) :: σ'⟩ K) : RS P n ops rest s K := by
  intro M F N a w hr
  have hE : ER (addM M N .virt) F w N (.arr e sz []) := ⟨h0, fun x hx => by simp at hx, .inl ⟨addM_new _, rfl⟩⟩
  obtain ⟨r1, e1, n1⟩ := hr.new_ (w' := w) .virt (.arr e sz []) (fun _ _ => rfl) ⟨rfl, rfl, rfl⟩ (Nat.le_refl _) (fun g hg => by simp [blkOf, addM_new] at hg) hE
  obtain ⟨σ', hs, hK⟩ := h N n1
  have hmem : ∀ p ∈ (N, Ent.arr e sz []) :: σ', ∃ x, (p.1, x) ∈ (N, Ent.arr e sz []) :: s.σ := by
    intro p hp
    rcases List.mem_cons.1 hp with rfl | hp
    · exact ⟨_, List.mem_cons_self⟩
    · rcases List.mem_cons.1 (hs.sub p hp) with rfl | hp
      · exact ⟨_, List.mem_cons_of_mem _ (sget_mem hg)⟩
      · exact ⟨_, List.mem_cons_of_mem _ (mem_sdrop hp).1⟩
  have hr2 : Rel (addM M N .virt) F (N + 1) n ⟨s.fr, (N, .arr e sz []) :: σ'⟩ a w := by
    refine ⟨r1.size, r1.defers, r1.fr, r1.st.retold fun p hp => ⟨hmem p hp, ?_⟩⟩
    rcases List.mem_cons.1 hp with rfl | hp
    · exact hE
    · rcases List.mem_cons.1 (hs.sub p hp) with rfl | hp
      · obtain ⟨g, vs, h1, h2, h3, h4⟩ := r1.st.ent _ (List.mem_cons_of_mem _ (sget_mem hg))
        refine ⟨g, vs, by simpa using h1, h2, by simpa using h3, fun j b u hj hu => ?_⟩
        by_cases hjo : off = j
        · subst hjo
          have hlt : off < cs.length := (List.getElem?_eq_some_iff.1 hx).1
          rw [List.getElem?_set_self hlt] at hj
          obtain rfl := Option.some.inj hj
          have hv := h4 off _ u hx hu
          cases hv with
          | @ro _ _ b o _ cap us hb hs hc hrr hle hm hf hn =>
            cases k with
            | nil => exact absurd rfl hn
            | full => have := hf rfl; simp at this; subst this; exact .own0
            | any => exact absurd rfl hk
          | ro0 hm hA hf hn =>
            cases k with
            | nil => obtain rfl := hn rfl; obtain rfl := hA rfl; exact .own0
            | full => obtain rfl := hf rfl; exact .own0
            | any => exact absurd rfl hk
        · rw [List.getElem?_set_ne hjo] at hj
          exact h4 j b u hj hu
      · exact r1.st.ent p (List.mem_cons_of_mem _ (mem_sdrop hp).1)
  exact wpList_mono (PostN.ext (e1.trans (Ext.retold hmem))) (hK _ F _ a w hr2)
theorem fresh_rest {e : Nat} {σ1 σ : Sto} (h : (∃ q ∈ σ1, q.1 = e) ∨ Fresh e σ) : Fresh e (sdrop (σ1.map (·.1)) σ) := by
  intro p hp
  obtain ⟨h1, h2⟩ := mem_sdrop hp
  rcases h with ⟨q, hq, rfl⟩ | h
  · exact fun e => h2 (e ▸ List.mem_map.2 ⟨q, hq, rfl⟩)
  · exact h p h1
/-- a row that a variable's cell tells of gets a new name -/
theorem sw_ren {P : Program} {n : Nat} {ks : List Nat} {s : ASt} {c : Code} {Q : Exit → ASt → Prop} (r off d : Nat) {bt e : TypeId} {cs : List AV} {sz o len : Nat} {es : List (List AV)} (hg : sget s.σ r = some (.box bt cs)) (hx : cs[off]? = some (.own d o len)) (hd : sget s.σ d = some (.arr e sz es))
    (h : ∀ q, Fresh q s.σ → ∃ σ1, SSet s.σ r (.box bt cs) r (.box bt (cs.set off (.own q o len))) σ1 ∧ ∃ σ2, SSet σ1 d (.arr e sz es) q (.arr e sz es) σ2 ∧ SW P n ks c ⟨s.fr, σ2⟩ Q) : SW P n ks c s Q := by
  intro M F N a w hr
  have hmd := sget_mem hd
  have hmr := sget_mem hg
  obtain ⟨b, hb⟩ : ∃ b, M d = some b := by
    cases hM : M d with
    | none => exact absurd hM (hr.st.ent _ hmd).some
    | some b => exact ⟨b, rfl⟩
  have hblk : ∀ g, blkOf (addM M N b) N = some g → blkOf M d = some g := fun g hg => by
    simp only [blkOf, addM_new] at hg
    simp only [blkOf, hb]
    exact hg
  have hE0 := hr.st.ent _ hmd
  have hmm : ∀ q b', M q = some b' → addM M N b q = some b' := fun q b' hq => addM_old hr.st.fresh b hq
  have hE : ER (addM M N b) F w N (.arr e sz es) := by
    obtain ⟨k0, k1, k2⟩ := hE0
    refine ⟨k0, k1, ?_⟩
    rcases k2 with ⟨k2, k3⟩ | ⟨g, cc, vs, k2, k3, k4, k5, k6, k7⟩
    · simp only at k2
      exact .inl ⟨by rw [addM_new, ← k2, hb], k3⟩
    · simp only at k2
      exact .inr ⟨g, cc, vs, by rw [addM_new, ← k2, hb], k3, k4, k5, k6, fun i x j a u hi hj hu => (k7 i x j a u hi hj hu).mono hmm (fun _ h => h) (fun _ _ => rfl)⟩
  obtain ⟨r1, e1, n1, -⟩ := hr.move_ hmd b (Only.refl _ w) (fun g hg => .inl (hblk g hg)) hE
  have hnN : Fresh N s.σ := fun p hp => by have := hr.st.name hp; omega
  obtain ⟨σ1, hs1, σ2, hs2, hK⟩ := h N hnN
  have hmem : ∀ p ∈ σ2, p = (N, Ent.arr e sz es) ∨ p = (r, .box bt (cs.set off (.own N o len))) ∨ (p ∈ s.σ ∧ p.1 ≠ d) := by
    intro p hp
    rcases List.mem_cons.1 (hs2.sub p hp) with rfl | hp
    · exact .inl rfl
    · obtain ⟨hp1, hp2⟩ := mem_sdrop hp
      rcases List.mem_cons.1 (hs1.sub p hp1) with rfl | hp3
      · exact .inr (.inl rfl)
      · exact .inr (.inr ⟨(mem_sdrop hp3).1, by simpa using hp2⟩)
  have hrd : r ≠ d := by
    rintro rfl
    rw [hg] at hd
    cases hd
  have hin : ∀ p ∈ σ2, ∃ x, (p.1, x) ∈ (N, Ent.arr e sz es) :: sdrop [d] s.σ := by
    intro p hp
    rcases hmem p hp with rfl | rfl | ⟨hp1, hp2⟩
    · exact ⟨_, List.mem_cons_self⟩
    · refine ⟨.box bt cs, List.mem_cons_of_mem _ ?_⟩
      simp only [sdrop, List.mem_filter]; exact ⟨hmr, by simpa using hrd⟩
    · refine ⟨p.2, List.mem_cons_of_mem _ ?_⟩
      simp only [sdrop, List.mem_filter]; exact ⟨hp1, by simpa using hp2⟩
  have hr2 : Rel (addM M N b) F (N + 1) n ⟨s.fr, σ2⟩ a w := by
    refine ⟨r1.size, r1.defers, r1.fr, r1.st.retold fun p hp => ⟨hin p hp, ?_⟩⟩
    rcases hmem p hp with rfl | rfl | ⟨hp1, hp2⟩
    · exact hE
    · obtain ⟨g, vs, h1, h2, h3, h4⟩ := hr.st.ent _ hmr
      refine ⟨g, vs, by simpa using hmm _ _ h1, h2, by simpa using h3, fun j x u hj hu => ?_⟩
      by_cases hjo : off = j
      · subst hjo
        have hlt : off < cs.length := (List.getElem?_eq_some_iff.1 hx).1
        rw [List.getElem?_set_self hlt] at hj
        obtain rfl := Option.some.inj hj
        have hv := h4 off _ u hx hu
        cases hv with
        | own hM hle hm => exact .own (by rw [addM_new, ← hM, hb]) hle hm
        | own0 => exact .own0
      · rw [List.getElem?_set_ne hjo] at hj
        exact (h4 j x u hj hu).mono hmm (fun _ h => h) (fun _ _ => rfl)
    · exact ER.mono hmm (fun _ h => h) (fun _ _ => rfl) (fun _ _ => rfl) (hr.st.ent p hp1)
  refine wp_mono (hK _ F _ a w hr2) ?_
  rintro e' a' w' ⟨M', F', N', s2, h1, h2, h3⟩
  exact ⟨M', F', N', s2, h1, (e1.trans (Ext.retold hin)).trans h2, h3⟩
/-- a call that makes nothing, whose guard is itself guarded -/
theorem puw {P : Program} {n : Nat} {ops : Array Oper} {rest : List Oper} {fr : Fr} {σ : Sto} {K : ASt → Prop} {ty : TypeId} {pos : String} {af : Array Edge} {f : FuncId} {d j dj : Nat} {want b c0 : Bool} {xs : List Operand} {ats : Array TypeId} {args : List AV} {v : AV} (ts : List Nat) (hj : (ops[j]?).bind (·.dst) = some dj) (hb : fget fr dj = some (.when c0 (.bool b))) (hf : ∀ args w, (callFunc f args).run P w = .ok (.enter f args) w)
    (h : (c0 && (b == want)) = true → SCall P f args [] (fun x σ' => x = v ∧ σ' = [])) (hd : Nat.ble (d + 1) n = true) (hargs : ArgsIf ⟨fr, σ⟩ (c0 && (b == want)) ts xs args) (hno : NoF v) (hK : RS P n ops rest ⟨(d, .when (c0 && (b == want)) v) :: fr, σ⟩ K) :
    RS P n ops (⟨some d, .call { callee := .value (.func f), args := xs.toArray, argTypes := ats }, ty, pos, af, some (j, want)⟩ :: rest) ⟨fr, σ⟩ K := by
  intro M F N a w hr
  refine wpList_step fun K' hK' => ?_
  cases hc : c0 with
  | false =>
    have hy : yielded ops a.tmps j = none := by
      have h0 := hr.fr dj _ hb
      cases h0 with
      | when _ h0 =>
        have h0 := h0 hc
        unfold yielded
        rw [hj]
        simp only [Option.bind_some]
        rcases hx : a.tmps[dj]? with _ | u
        · rfl
        · rw [Array.getD_eq_getD_getElem?, hx] at h0
          simp only [Option.getD_some] at h0
          subst h0
          rfl
    rw [if_neg (by simp [Region.wanted, hy])]
    exact hK' _ _ (hK M F N _ w (hr.put (lt_ble hd) (.when (fun h => by simp [hc] at h) (fun _ => rfl))))
  | true =>
    have hw := wanted_when (o := ⟨some d, .call { callee := .value (.func f), args := xs.toArray, argTypes := ats }, ty, pos, af, some (j, want)⟩) hr rfl hj hb hc
    rw [hw]
    by_cases hbw : (b == want) = true
    · rw [if_pos hbw]
      refine lent_step ts hf h (by simp [hc, hbw]) hargs hno hr rfl fun M' N' w' u hr' he _ hv => ?_
      exact hK' _ _ (wpList_mono (PostN.ext he) (hK M' F N' _ w' (hr'.put (lt_ble hd) (.when (fun _ => hv) (fun h => by rw [hc, hbw] at h; cases h)))))
    · simp only [Bool.not_eq_true] at hbw
      rw [if_neg (by rw [hbw]; simp)]
      exact hK' _ _ (hK M F N _ w (hr.put (lt_ble hd) (.when (fun h => by simp [hbw] at h) (fun _ => rfl))))
/-! ### loud steps of a drawn region whose guards are literals -/
theorem rd_heavy_yes {P : Program} {n : Nat} {ops : Array Oper} {listed : Array Bool} {todo : List (Nat × Bool)} {held : List (Nat × List Nat)} {s : ASt} {K : ASt → Prop} {op : Op} {ty : TypeId} {pos : String} {af : Array Edge} {i gj dj : Nat} {want : Bool} {dst : Option Nat} {fp : List Nat} (hi : ops[i]? = some ⟨dst, op, ty, pos, af, some (gj, want)⟩) (hj : (ops[gj]?).bind (·.dst) = some dj) (hb : fget s.fr dj = some (.bool want)) (h : Hop P n op ty dst s fp fun s' => RD P n ops (listed.setIfInBounds i true) todo held s' K)
    (hfp : fp = [] ∨ ((∀ r ∈ fp, r ∈ s.σ.map (·.1)) ∧ ∀ r ∈ heldBy ops held i, r ∈ s.σ.map (·.1) ∧ r ∉ fp)) : RD P n ops listed ((i, false) :: todo) held s K := by
  intro hsel hc M F N a w hr
  obtain ⟨hc1, hc3⟩ := chkB_cons hi hc
  simp only [Bool.false_eq_true, if_false, beq_iff_eq] at hc1
  refine ⟨fun h0 => by rw [hc1] at h0; simp at h0, fun j hj' => ?_⟩
  rw [hc1] at hj'
  obtain rfl : j = i := by simpa using hj'
  unfold wpOp
  simp only [hi]
  rw [wanted_of (o := ⟨dst, op, ty, pos, af, some (gj, want)⟩) hr rfl hj hb, if_pos (by cases want <;> rfl)]
  refine .inl (h M F N a w _ rfl rfl rfl hr _ _ fun M' F' N' a' w' s' hr' he ho hk => ⟨fun g hg hlt => ?_, ?_⟩)
  · rcases hg with hg | ⟨r, hrh, hg⟩
    · exact he.only.block g hlt (fun hB => hr.st.nof g hB hg)
    · rcases hfp with rfl | ⟨hf1, hf2⟩
      · exact ho.block g hlt (by simp)
      · obtain ⟨h1, h2⟩ := hf2 r hrh
        obtain ⟨p, hp, rfl⟩ := List.mem_map.1 h1
        refine ho.block g hlt ?_
        rintro ⟨q, hq, hqg⟩
        obtain ⟨p2, hp2, rfl⟩ := List.mem_map.1 (hf1 q hq)
        exact h2 (by rw [hr.st.inj p hp p2 hp2 g hg hqg]; exact hq)
  · refine wpAnyC_mono (PostN.ext he) ?_ _ _ _ _ (hk hsel hc3 M' F' N' a' w' hr')
    rintro j g (hg | ⟨r, hr, hg⟩)
    · exact .inl (he.ff g hg)
    · refine .inr ⟨r, hr, ?_⟩
      unfold blkOf at hg ⊢
      cases hm : M r with
      | none => rw [hm] at hg; cases hg
      | some b => rw [hm] at hg; rw [he.mm _ _ hm]; exact hg
theorem rd_heavy_no {P : Program} {n : Nat} {ops : Array Oper} {listed : Array Bool} {todo : List (Nat × Bool)} {held : List (Nat × List Nat)} {s : ASt} {K : ASt → Prop} {op : Op} {ty : TypeId} {pos : String} {af : Array Edge} {i d gj dj : Nat} {want b : Bool} (hi : ops[i]? = some ⟨some d, op, ty, pos, af, some (gj, want)⟩) (hj : (ops[gj]?).bind (·.dst) = some dj) (hb : fget s.fr dj = some (.bool b)) (hne : (b == want) = false) (hd : Nat.ble (d + 1) n = true)
    (hK : RD P n ops (listed.setIfInBounds i true) todo held (s.put d (.when false (.bool false))) K) : RD P n ops listed ((i, false) :: todo) held s K := by
  intro hsel hc M F N a w hr
  obtain ⟨hc1, hc3⟩ := chkB_cons hi hc
  simp only [Bool.false_eq_true, if_false, beq_iff_eq] at hc1
  refine ⟨fun h0 => by rw [hc1] at h0; simp at h0, fun k hk => ?_⟩
  rw [hc1] at hk
  obtain rfl : k = i := by simpa using hk
  unfold wpOp
  simp only [hi]
  rw [wanted_of (o := ⟨some d, op, ty, pos, af, some (gj, want)⟩) hr rfl hj hb, if_neg (by rw [hne]; simp)]
  have := hK hsel hc3 M F N _ w (hr.put (lt_ble hd) (.when (x := .bool false) (c := false) (fun h => by cases h) (fun _ => rfl)))
  refine ⟨by simp, wpAnyC_mono (PostN.ext (Ext.refl _ _ _ _ _)) (fun _ _ h => h) _ _ _ _ this⟩
theorem dcwy {P : Program} {n : Nat} {ops : Array Oper} {fr : Fr} {σ : Sto} {K : ASt → Prop} {ty : TypeId} {pos : String} {af : Array Edge} {listed : Array Bool} {todo : List (Nat × Bool)} {held : List (Nat × List Nat)} {i d gj dj : Nat} {want : Bool} {f : FuncId} {xs : List Operand} {ats : Array TypeId} {args : List AV} {R : AV → Sto → Prop} (σ1 : Sto) (hi : ops[i]? = some ⟨some d, .call { callee := .value (.func f), args := xs.toArray, argTypes := ats }, ty, pos, af, some (gj, want)⟩) (hj : (ops[gj]?).bind (·.dst) = some dj) (hb : fget fr dj = some (.bool want)) (hf : ∀ args w, (callFunc f args).run P w = .ok (.enter f args) w) (h : SCall P f args σ1 R) (hd : Nat.ble (d + 1) n = true)
    (hargs : ArgsLe ⟨fr, σ⟩ xs args) (hsub : ∀ p ∈ σ1, p ∈ σ) (hb2 : HB ops i (σ.map (·.1)) (σ1.map (·.1)) held) (hK : ∀ x σ', R x σ' → (∀ p ∈ σ', (∃ q ∈ σ1, q.1 = p.1) ∨ Fresh p.1 σ) → RD P n ops (listed.setIfInBounds i true) todo held ⟨(d, x) :: fr, σ' ++ sdrop (σ1.map (·.1)) σ⟩ K) :
    RD P n ops listed ((i, false) :: todo) held ⟨fr, σ⟩ K := rd_heavy_yes hi hj hb (hop_call hf h (lt_ble hd) hargs hsub hK) (.inr ⟨fun r hr => by obtain ⟨p, hp, rfl⟩ := List.mem_map.1 hr; exact List.mem_map.2 ⟨p, hsub p hp, rfl⟩, hb2.held⟩)
end Go.Proofs.Ytkjfflabapeidaa
/-
  The symbolic layer: bytes as a string; a slice against nil. No program is named here.
-/
namespace Go.Proofs.Ytkjfflabapeidaa
open Go.RowKit Go.ChangeShapes Go.WideShapes Go.ChangeAt Go.Deep
set_option linter.unusedSimpArgs false
set_option linter.unusedVariables false

def encU (n : Nat) : List AV := [.int .u8 n]
def strU (bs : List Nat) : ByteArray := ⟨(bs.map UInt8.ofNat).toArray⟩
theorem strU_toList (bs : List Nat) : (strU bs).toList = bs.map UInt8.ofNat := by
  rw [Go.ByteArray.toList_eq]
  simp [strU]
theorem rows_u (bs : List Nat) : RowsOk 1 (bs.map encU) := by
  intro x hx
  obtain ⟨n, _, rfl⟩ := List.mem_map.1 hx
  exact ⟨rfl, fun a ha => by obtain rfl := List.mem_singleton.1 ha; rfl⟩
theorem foldl_push (ns : List Nat) : ∀ acc : ByteArray, (ns.map Int.ofNat).foldl (fun r n => r.push (UInt8.ofNat n.toNat)) acc = ⟨acc.data ++ (ns.map UInt8.ofNat).toArray⟩ := by
  induction ns with
  | nil => intro acc; simp
  | cons n ns ih =>
    intro acc
    rw [List.map_cons, List.foldl_cons, ih]
    simp [ByteArray.push]
theorem strU_eq (ns : List Nat) : (ns.map Int.ofNat).foldl (fun r n => r.push (UInt8.ofNat n.toNat)) ByteArray.empty = strU ns := by
  rw [foldl_push]
  simp [strU, ByteArray.empty, ByteArray.emptyWithCapacity]
  rfl
theorem u8_inj {a b : Nat} (ha : a < 256) (hb : b < 256) (h : UInt8.ofNat a = UInt8.ofNat b) : a = b := by
  have := congrArg UInt8.toNat h
  simp at this
  omega
theorem strU_inj : ∀ {l m : List Nat}, (∀ x ∈ l, x < 256) → (∀ x ∈ m, x < 256) → ((strU l).toList == (strU m).toList) = decide (l = m) := by
  intro l m hl hm
  rw [strU_toList, strU_toList]
  by_cases h : l = m
  · subst h; simp
  · rw [decide_eq_false h, beq_eq_false_iff_ne]
    intro e
    apply h
    clear h
    induction l generalizing m with
    | nil => cases m <;> first | rfl | simp at e
    | cons a l ih =>
      cases m with
      | nil => simp at e
      | cons b m =>
        simp only [List.map_cons, List.cons.injEq] at e
        rw [u8_inj (hl a (by simp)) (hm b (by simp)) e.1, ih (fun x hx => hl x (by simp [hx])) (fun x hx => hm x (by simp [hx])) e.2]
section
variable {P : Program} {ty : TypeId} {s : ASt} {c : Bool} {t t' e : TypeId} {x y : Operand}
theorem run_bytes_str {w : World} [Ty P t (.slice e)] [Ty P e (.int .u8)] [Ty P t' .string] {ρ : Operand → Value} {o : Oper} (ho : o.op = .convert t t' x) {A : Option Addr} {cap : Nat} {bs : List Nat} (hx : ρ x = .slice A bs.length cap) (hn : A = none → bs = [])
    (hc : ∀ p, A = some p → ∀ (j : Nat) (n : Nat), bs[j]? = some n → w.cell? (p.add j) = some (.int .u8 n)) : (execOp ρ o).run P w = .ok (.value (.string (strU bs))) w := by
  have h1 : (Conv.bytesToString (.slice A bs.length cap)).run P w = .ok (.string (strU bs)) w := by
    cases A with
    | none =>
      obtain rfl := hn rfl
      simp [Conv.bytesToString, strU, ByteArray.empty, ByteArray.emptyWithCapacity]
      rfl
    | some p =>
      have hl := run_loadCells_list (P := P) (w := w) p ((bs.map Int.ofNat).map (Value.int .u8)) (fun j v hj => by
        rw [List.getElem?_map, List.getElem?_map, Option.map_map] at hj
        obtain ⟨n, hn, rfl⟩ := Option.map_eq_some_iff.1 hj
        exact hc p rfl j n hn)
      rw [List.length_map, List.length_map] at hl
      rw [run_bytesToString w p bs.length cap (bs.map Int.ofNat) hl, strU_eq]
  simp only [execOp, ho, hx, Sem.run_bind, run_convert_bytes_string w t t' e A bs.length cap (Ty.und (P := P) (t := t)) (Ty.und (P := P) (t := e)) (Ty.und (P := P) (t := t')), h1, Result.andThen_ok, Sem.run_pure]
theorem lop_bytes_ro [Ty P t (.slice e)] [Ty P e (.int .u8)] [Ty P t' .string] {bs : List Nat} {k : Rk} (h : Ev s c x (.ro 1 (bs.map encU) k)) : Lop P (.convert t t' x) ty s c (.str (strU bs)) [] := by
  refine ⟨fun r hr => by simp at hr, fun M F N n a w hr hc => ⟨_, .str _, fun w' o ho _ hsame => ?_⟩⟩
  have e1 := h.vr hr hc
  generalize hu : a.eval x = u at e1
  generalize hes : bs.map encU = es at e1
  cases e1 with
  | @ro _ _ b o' _ cap us hb hs hcc hrr hle hm hf hn =>
    subst hes
    refine run_bytes_str (e := e) ho (by rw [hu, List.length_map]) (fun h => by cases h) (fun p hp j n hj => ?_)
    cases hp
    have h1 := hcc j (encU n) 0 (.int .u8 n) (by rw [List.getElem?_map, hj]; rfl) rfl
    have h2 := hrr j (encU n) 0 (.int .u8 n) (by rw [List.getElem?_map, hj]; rfl) rfl
    rw [Addr.add_lit, World.cell?_of_block (w := w) (w' := w') (hsame b (.inl hb))]
    rw [Nat.mul_one, Nat.add_zero] at h1
    rw [h1]
    generalize us j 0 = q at h2
    cases h2
    rfl
  | @ro0 _ _ A cap hm hA hf hn =>
    have : bs = [] := by simpa using hes
    subst this
    exact run_bytes_str (e := e) ho (A := A) (cap := cap) hu (fun _ => rfl) (fun p _ j n hj => by simp at hj)
theorem lop_bytes_own [Ty P t (.slice e)] [Ty P e (.int .u8)] [Ty P t' .string] {bs bs' : List Nat} {r off len : Nat} {et : TypeId} (h : Ev s c x (.own r off len)) (hg : sget s.σ r = some (.arr et 1 (bs.map encU))) (hle : off + len ≤ bs.length) (hbs : (bs.drop off).take len = bs') : Lop P (.convert t t' x) ty s c (.str (strU bs')) [r] := by
  subst hbs
  refine ⟨fun q hq => ⟨_, sget_mem hg, (List.mem_singleton.1 hq).symm⟩, fun M F N n a w hr hc => ⟨_, .str _, fun w' o ho _ hsame => ?_⟩⟩
  have e1 := h.vr hr hc
  have hl : ((bs.drop off).take len).length = len := by simp; omega
  generalize hu : a.eval x = u at e1
  obtain ⟨h0, hrows, h3⟩ := hr.st.ent _ (sget_mem hg)
  cases e1 with
  | own hM hle' hm =>
    rcases h3 with ⟨hv', _⟩ | ⟨g, cc, vs, hM', hcl, hsz, hlc, hmax, hvr⟩
    · rw [hM] at hv'; cases hv'
    · have hg' := hM'.symm.trans hM
      simp only [Option.some.injEq, Blk'.row.injEq] at hg'
      obtain ⟨q1, q2, q3⟩ := hg'
      subst q1
      subst q2
      subst q3
      refine run_bytes_str (e := e) ho (by rw [hu, hl]) (fun h => by cases h) (fun p hp j n hj => ?_)
      cases hp
      rw [Addr.add_lit, World.cell?_of_block (w := w) (w' := w') (hsame g (.inr ⟨r, by simp, by simp [blkOf, hM]⟩)), hcl.cell]
      have hj2 : bs[off + j]? = some n := by
        rw [List.getElem?_take] at hj
        split at hj
        · rwa [List.getElem?_drop] at hj
        · cases hj
      have hjl := (List.getElem?_eq_some_iff.1 hj2).1
      rw [List.length_map] at hlc
      have hlt : off * 1 + j < vs.size := by omega
      have h1 := hvr (off + j) (encU n) 0 (.int .u8 n) vs[off * 1 + j] (by rw [List.getElem?_map, hj2]; rfl) rfl (by rw [show (off + j) * 1 + 0 = off * 1 + j by omega]; exact Array.getElem?_eq_getElem hlt)
      rw [Array.getElem?_eq_getElem hlt]
      generalize vs[off * 1 + j] = q at h1
      cases h1
      rfl
  | own0 =>
    refine run_bytes_str (e := e) ho (by rw [hu, hl]) (fun _ => by simp) (fun p _ j n hj => by simp at hj)
/-- nil is nil -/
theorem lop_nil_neq {z : Nat} [Ty P t (.slice e)] (h : Ev s c x (.ro z [] .nil)) (hy : y = .const (.slice none 0 0)) : Lop P (.binOp .neq t x y t') ty s c (.bool false) [] := by
  subst hy
  refine Lop.pure_ fun M F N n a w hr hc => ⟨_, .bool _, fun w' o ho _ => ?_⟩
  have e1 := h.vr hr hc
  generalize hu : a.eval x = u at e1
  have hx : u = .slice none 0 0 := by
    cases e1 with
    | ro _ _ _ _ _ _ _ hn => exact absurd rfl hn
    | ro0 hm hA hf hn => obtain rfl := hn rfl; obtain rfl := hA rfl; rfl
  subst hx
  refine run_binOp ho ?_ ?_
  · rw [hu]; simp [eqGuard]
  · rw [hu, show a.eval (.const (.slice none 0 0)) = .slice none 0 0 from rfl, run_neq_slice_nil_any (P := P) w' t _ none 0 0 0 0 (Ty.und (P := P) (t := t))]; rfl
theorem lop_nil_eql {z : Nat} [Ty P t (.slice e)] (h : Ev s c x (.ro z [] .nil)) (hy : y = .const (.slice none 0 0)) : Lop P (.binOp .eql t x y t') ty s c (.bool true) [] := by
  subst hy
  refine Lop.pure_ fun M F N n a w hr hc => ⟨_, .bool _, fun w' o ho _ => ?_⟩
  have e1 := h.vr hr hc
  generalize hu : a.eval x = u at e1
  have hx : u = .slice none 0 0 := by
    cases e1 with
    | ro _ _ _ _ _ _ _ hn => exact absurd rfl hn
    | ro0 hm hA hf hn => obtain rfl := hn rfl; obtain rfl := hA rfl; rfl
  subst hx
  refine run_binOp ho ?_ ?_
  · rw [hu]; simp [eqGuard]
  · rw [hu, show a.eval (.const (.slice none 0 0)) = .slice none 0 0 from rfl, Lib.run_eql_slice_nil (P := P) w' t _ none 0 0 0 0 (Ty.und (P := P) (t := t))]; rfl
end
end Go.Proofs.Ytkjfflabapeidaa
/-
  The symbolic layer: two loud operations in either order; arrays: a cell at any place, parts of them as slices. No program is named here.
-/
namespace Go.Proofs.Ytkjfflabapeidaa
open Go.RowKit Go.ChangeShapes Go.WideShapes Go.ChangeAt Go.Deep
set_option linter.unusedSimpArgs false
set_option linter.unusedVariables false

/-- two operations that make new things only, in either order -/
theorem rd_fork {P : Program} {n : Nat} {ops : Array Oper} {listed : Array Bool} {rest : List (Nat × Bool)} {held : List (Nat × List Nat)} {s : ASt} {K : ASt → Prop} {z : Nat} {zb : Bool} (i j : Nat) (t1 t2 : List (Nat × Bool)) {dst dst' : Option Nat} {op op' : Op} {ty ty' : TypeId} {pos pos' : String} {af af' : Array Edge}
    (hr : (Region.ready .any ops listed == [i, j] && (t1.length == rest.length) && (t2.length == rest.length) && chkB ops (listed.setIfInBounds i true) t1 && chkB ops (listed.setIfInBounds j true) t2) = true)
    (hi : ops[i]? = some ⟨dst, op, ty, pos, af, none⟩) (hj : ops[j]? = some ⟨dst', op', ty', pos', af', none⟩)
    (h1 : Hop P n op ty dst s [] fun s' => RD P n ops (listed.setIfInBounds i true) t1 held s' K) (h2 : Hop P n op' ty' dst' s [] fun s' => RD P n ops (listed.setIfInBounds j true) t2 held s' K) : RD P n ops listed ((z, zb) :: rest) held s K := by
  intro hsel _ M F N a w hr0
  simp only [Bool.and_eq_true, beq_iff_eq] at hr
  obtain ⟨⟨⟨⟨hrd, hl1⟩, hl2⟩, hc1⟩, hc2⟩ := hr
  have main : ∀ {k : Nat} {t : List (Nat × Bool)} {dst : Option Nat} {op : Op} {ty : TypeId} {pos : String} {af : Array Edge}, t.length = rest.length → chkB ops (listed.setIfInBounds k true) t = true → ops[k]? = some ⟨dst, op, ty, pos, af, none⟩ →
      Hop P n op ty dst s [] (fun s' => RD P n ops (listed.setIfInBounds k true) t held s' K) → wpOp P ops (PostN n M F N w s.σ K) k (fun a' w' => (∀ g, Hd ops M F held k g → g < w.heap.size → w'.heap[g]? = w.heap[g]?) ∧ wpAnyC P .any ops (PostN n M F N w s.σ K) (Hd ops M F held) rest.length (listed.setIfInBounds k true) a' w') a w := by
    intro k t dst op ty pos af hl hc hk h
    unfold wpOp
    simp only [hk]
    rw [if_pos (by simp [Region.wanted])]
    refine .inl (h M F N a w _ rfl rfl rfl hr0 _ _ fun M' F' N' a' w' s' hr' he ho hk' => ⟨fun g hg hlt => ho.block g hlt (by simp), ?_⟩)
    rw [← hl]
    refine wpAnyC_mono (PostN.ext he) ?_ _ _ _ _ (hk' hsel hc M' F' N' a' w' hr')
    rintro j' g (hg | ⟨r, hrr, hg⟩)
    · exact .inl (he.ff g hg)
    · refine .inr ⟨r, hrr, ?_⟩
      unfold blkOf at hg ⊢
      cases hm : M r with
      | none => rw [hm] at hg; cases hg
      | some b => rw [hm] at hg; rw [he.mm _ _ hm]; exact hg
  refine ⟨fun h0 => by rw [hrd] at h0; simp at h0, fun k hk => ?_⟩
  rw [hrd] at hk
  rcases List.mem_cons.1 hk with rfl | hk
  · exact main hl1 hc1 hi h1
  · obtain rfl := List.mem_singleton.1 hk
    exact main hl2 hc2 hj h2

theorem rd_mono {P : Program} {n : Nat} {ops : Array Oper} {listed : Array Bool} {todo : List (Nat × Bool)} {held : List (Nat × List Nat)} {s : ASt} {K K' : ASt → Prop} (hK : ∀ s, K s → K' s) (h : RD P n ops listed todo held s K) : RD P n ops listed todo held s K' := by
  intro hsel hc M F N a w hr
  refine wpAnyC_mono (fun e a' w' h' => ?_) (fun _ _ h => h) _ _ _ _ (h hsel hc M F N a w hr)
  cases e <;> first | exact h'.elim | (obtain ⟨M', F', N', s', k1, k2, k3⟩ := h'; exact ⟨M', F', N', s', k1, k2, hK _ k3⟩)
theorem dly {P : Program} {n : Nat} {ops : Array Oper} {fr : Fr} {σ : Sto} {K : ASt → Prop} {op : Op} {ty : TypeId} {pos : String} {af : Array Edge} {listed : Array Bool} {todo : List (Nat × Bool)} {held : List (Nat × List Nat)} {i d j dj : Nat} {want : Bool} {v : AV} {rs : List Nat} (hi : ops[i]? = some ⟨some d, op, ty, pos, af, some (j, want)⟩) (hj : (ops[j]?).bind (·.dst) = some dj) (hb : fget fr dj = some (.bool want)) (h : Lop P op ty ⟨fr, σ⟩ true v rs) (hd : Nat.ble (d + 1) n = true)
    (hK : RD P n ops (listed.setIfInBounds i true) todo ((i, rs) :: held) ⟨(d, v) :: fr, σ⟩ K) : RD P n ops listed ((i, true) :: todo) held ⟨fr, σ⟩ K := rd_guard_yes hi hj hb h (lt_ble hd) hK
/-- a slot that holds a test's answer: two cases, the answer a literal in each -/
theorem sw_bool {P : Program} {n : Nat} {ks : List Nat} {fr : Fr} {σ : Sto} {c : Code} {Q : Exit → ASt → Prop} {b : Bool} (i : Nat) (hx : fget fr i = some (.bool b)) (ht : b = true → SW P n ks c ⟨(i, .bool true) :: fr, σ⟩ Q) (hf : b = false → SW P n ks c ⟨(i, .bool false) :: fr, σ⟩ Q) : SW P n ks c ⟨fr, σ⟩ Q := by
  have key : ∀ b', b = b' → SGo ⟨fr, σ⟩ ⟨(i, .bool b') :: fr, σ⟩ := fun b' hb => SGo.of_le (fun j x hj => by
    subst hb
    simp only [fget] at hj ⊢
    split at hj
    · next e => subst e; obtain rfl := Option.some.inj hj; exact ⟨_, hx, VLe.refl _⟩
    · exact ⟨x, hj, VLe.refl _⟩) (fun _ h => h)
  cases hb : b with
  | true => exact sw_go (key true hb) (ht hb)
  | false => exact sw_go (key false hb) (hf hb)
/-- a frame without slot t -/
inductive FDel (t : Nat) : Fr → Fr → Prop
  | nil : FDel t [] []
  | hit {x : AV} {l l' : Fr} (h : FDel t l l') : FDel t ((t, x) :: l) l'
  | miss {i : Nat} {x : AV} {l l' : Fr} (hne : (i == t) = false) (h : FDel t l l') : FDel t ((i, x) :: l) ((i, x) :: l')
theorem FDel.get {t : Nat} {l l' : Fr} (h : FDel t l l') : ∀ i x, fget l' i = some x → i ≠ t ∧ fget l i = some x := by
  induction h with
  | nil => intro i x h; simp [fget] at h
  | hit _ ih =>
    intro i x h
    obtain ⟨h1, h2⟩ := ih i x h
    exact ⟨h1, by simp only [fget]; rw [if_neg h1]; exact h2⟩
  | @miss j y l l' hne _ ih =>
    intro i x h
    simp only [fget] at h ⊢
    split at h
    · next e => subst e; exact ⟨by simpa using hne, by rw [if_pos rfl]; exact h⟩
    · next e => obtain ⟨h1, h2⟩ := ih i x h; exact ⟨h1, by rw [if_neg e]; exact h2⟩
/-- 'a or b' as a switch lays it: the second test where the first does not hold -/
theorem sw_orr {P : Program} {n : Nat} {ks : List Nat} {fr fr0 : Fr} {σ : Sto} {t : Nat} {b c : Bool} {y rest : Code} {Q Q' : Exit → ASt → Prop} (hx : fget fr t = some (.bool b)) (hd : FDel t fr fr0) (h2 : b = false → SW P n ks y ⟨fr, σ⟩ (AThen (fun s2 => SGo s2 ⟨(t, .bool c) :: fr0, σ⟩) Q')) (h : SW P n ks rest ⟨(t, .bool (b || c)) :: fr0, σ⟩ Q) :
    SW P n ks (.cond (.tmp t) .skip y) ⟨fr, σ⟩ (AThen (fun s' => SW P n ks rest s' Q) Q') := by
  have key : ∀ (fr' : Fr) (x : Bool), fget fr' t = some (.bool x) → x = (b || c) → (∀ i z, fget fr0 i = some z → fget fr' i = some z) → SGo ⟨fr', σ⟩ ⟨(t, .bool (b || c)) :: fr0, σ⟩ := fun fr' x hxx he ho => SGo.of_le (fun j z hj => by
    simp only [fget] at hj ⊢
    split at hj
    · next e => subst e; obtain rfl := Option.some.inj hj; exact ⟨_, hxx, by rw [he]; exact VLe.refl _⟩
    · next e => exact ⟨z, ho j z hj, VLe.refl _⟩) (fun _ h => h)
  refine sw_cond (b := b) hx (fun hb => ?_) (fun hb => ?_)
  · exact sw_skip (sw_go (key fr b hx (by rw [hb]; rfl) (fun i z hz => (hd.get i z hz).2)) h)
  · refine sw_mono (h2 hb) fun e s2 hs => ?_
    cases e <;> first | exact hs | skip
    refine sw_go (SGo.trans hs (key _ c (by simp [fget]) (by rw [hb]; rfl) (fun i z hz => by
      have := (hd.get i z hz).1
      simp only [fget]
      rw [if_neg this]; exact hz))) h
/-- the same, inside such a test -/
theorem sw_orq {P : Program} {n : Nat} {ks : List Nat} {fr fr0 : Fr} {σ : Sto} {t : Nat} {b c : Bool} {y : Code} {s0 : ASt} {Q' : Exit → ASt → Prop} (hx : fget fr t = some (.bool b)) (hd : FDel t fr fr0) (h2 : b = false → SW P n ks y ⟨fr, σ⟩ (AThen (fun s2 => SGo s2 ⟨(t, .bool c) :: fr0, σ⟩) Q')) (h : SGo ⟨(t, .bool (b || c)) :: fr0, σ⟩ s0) :
    SW P n ks (.cond (.tmp t) .skip y) ⟨fr, σ⟩ (AThen (fun s2 => SGo s2 s0) Q') := by
  refine sw_cond (b := b) hx (fun hb => ?_) (fun hb => ?_)
  · refine sw_skip (SGo.trans (s' := ⟨(t, .bool (b || c)) :: fr0, σ⟩) (SGo.of_le (fun j z hj => ?_) (fun _ h => h)) h)
    simp only [fget] at hj
    split at hj
    · next e => subst e; obtain rfl := Option.some.inj hj; exact ⟨_, hx, by rw [hb]; exact VLe.refl _⟩
    · next e => exact ⟨z, (hd.get j z hj).2, VLe.refl _⟩
  · refine sw_mono (h2 hb) fun e s2 hs => ?_
    cases e <;> first | exact hs | skip
    refine SGo.trans hs (SGo.trans (s' := ⟨(t, .bool (b || c)) :: fr0, σ⟩) (SGo.of_le (fun j z hj => ?_) (fun _ h => h)) h)
    simp only [fget] at hj ⊢
    split at hj
    · next e => subst e; obtain rfl := Option.some.inj hj; exact ⟨_, by rw [if_pos rfl], by rw [hb]; exact VLe.refl _⟩
    · next e => exact ⟨z, by rw [if_neg e]; exact hj, VLe.refl _⟩
/-- two ways meet, where the rest is laid by already -/
theorem sja {P : Program} {n : Nat} {ks : List Nat} {s : ASt} {Q Q' : Exit → ASt → Prop} {β : Type} {x y : Code} (st : β → ASt) (ok : β → Prop) (hx : SW P n ks x s (AThen (fun s2 => ∃ b, ok b ∧ SGo s2 (st b)) Q')) (hy : ∀ b, ok b → SW P n ks y (st b) Q) : SW P n ks x s (AThen (fun s' => SW P n ks y s' Q) Q') :=
  sw_mono hx fun e s2 h => by cases e <;> first | exact h | (obtain ⟨b, h1, h2⟩ := h; exact sw_go h2 (hy b h1))
/-- a drawn region whose ways meet in the state s0 -/
theorem sw_region_drawn_to {P : Program} {n : Nat} {ks : List Nat} {s : ASt} {Q : Exit → ASt → Prop} {id : Nat} {ops : Array Oper} {y : Code} {Q2 : Exit → ASt → Prop} (s0 : ASt) (order : List (Nat × Bool)) (hm : P.follows .mixedOrders = true) (hsel : Region.noSelect ops = true)
    (hchk : (chkB ops (Array.replicate ops.size false) order && order.length == ops.size) = true) (h : RD P n ops (Array.replicate ops.size false) order [] s (KeepK ks fun s' => SGo s' s0)) (h2 : SW P n ks y s0 Q2) : SW P n ks (.region id ops true) s (AThen (fun s' => SW P n ks y s' Q2) Q) :=
  sw_region_drawn order hm hsel hchk (rd_mono (fun _ h => sw_go h h2) h)
section
variable {P : Program} {n : Nat} {ops : Array Oper} {rest : List Oper} {fr : Fr} {σ σ' : Sto} {K : ASt → Prop} {ty t : TypeId} {pos : String} {af : Array Edge} {x y : Operand}
/-- a store of one cell into a variable, at any place -/
theorem stv {by_ : Nat} {z : Value} [Tz P t 1 by_ z] {r off : Nat} {bt : TypeId} {cs cs' : List AV} {v : AV} (h : aev ⟨fr, σ⟩ x = some (.ptr r off)) (hv : aev ⟨fr, σ⟩ y = some v) (hc : v.cell = true) (hvc : v.cells = [v]) (hs : SSet σ r (.box bt cs) r (.box bt cs') σ') (hcs : cs' = cs.set off v) (hoff : off < cs.length)
    (hK : RS P n ops rest ⟨fr, σ'⟩ K) : RS P n ops (⟨none, .store t x y, ty, pos, af, none⟩ :: rest) ⟨fr, σ⟩ K := by
  subst hcs
  refine rs_heavy (hop_store_ptr h hs.get hv (by rw [hvc]; simp [hc]) (by rw [hvc]; rfl) (by omega) ?_)
  refine rs_sub (fun p hp => ?_) hK
  have e : cs.take off ++ v.cells ++ cs.drop (off + 1) = cs.set off v := by
    rw [hvc, List.set_eq_take_append_cons_drop, if_pos hoff]
    simp
  rw [e]
  exact hs.sub p hp
/-- a store of all cells of a variable -/
theorem stw {sz by_ : Nat} {z : Value} [Tz P t sz by_ z] {r : Nat} {bt : TypeId} {cs cs' : List AV} {v : AV} (h : aev ⟨fr, σ⟩ x = some (.ptr r 0)) (hv : aev ⟨fr, σ⟩ y = some v) (hc : v.cells.all AV.cell = true) (hl : v.cells.length = sz) (hs : SSet σ r (.box bt cs) r (.box bt cs') σ') (hcs : cs' = v.cells) (hlen : cs.length = sz)
    (hK : RS P n ops rest ⟨fr, σ'⟩ K) : RS P n ops (⟨none, .store t x y, ty, pos, af, none⟩ :: rest) ⟨fr, σ⟩ K := by
  subst hcs
  refine rs_heavy (hop_store_ptr h hs.get hv hc hl (by omega) ?_)
  refine rs_sub (fun p hp => ?_) hK
  rw [List.take_zero, List.nil_append, Nat.zero_add, List.drop_of_length_le (by omega), List.append_nil]
  exact hs.sub p hp
end
section
variable {P : Program} {ty : TypeId} {s : ASt} {c : Bool} {t t' e : TypeId} {x y : Operand}
/-- an array's zero value -/
theorem lop_build0 {e : TypeId} {k : Nat} [Ty P t (.array k e)] {sz by_ sz' by' : Nat} {z z' : Value} [Tz P t sz by_ z] [Tz P e sz' by' z'] {out : List AV} (hz : z.cells.toList.map ofCell = out) : Lop P (.build t #[]) ty s c (.agg out) [] := by
  subst hz
  refine Lop.pure_ fun M F N n a w hr hc => ⟨.agg z.cells, .agg (by simp) (fun j a u hj hu => ?_), fun w' o ho _ => ?_⟩
  · rw [List.getElem?_map, Array.getElem?_toList, hu] at hj
    obtain rfl := Option.some.inj hj
    exact ofCell_vr u
  · obtain ⟨i, hi, hz0, hs0, _⟩ := Tz.parts P t
    obtain ⟨i', hi', hz0', hs0', _⟩ := Tz.parts P e
    simp [execOp, ho, Instr.build, zeroValue, typeInfo, hi, hz0, run_underlying (Ty.und (P := P) (t := t)), sizeOf, hi', Instr.fill]
/-- a part of an array's variable as a slice -/
theorem lop_slice_arr {e : TypeId} {k : Nat} [Ty P t (.array k e)] {by_ : Nat} {z : Value} [Tz P e 1 by_ z] {r : Nat} {bt : TypeId} {cs : List AV} {lo hi : Operand} {kl kh : IntKind} {ml mh : Int} {l h : Nat} (hx : Ev s c x (.ptr r 0)) (hg : sget s.σ r = some (.box bt cs)) (hk : cs.length = k) (hkm : k ≤ maxLen) (hl : Ev s c lo (.int kl ml)) (hh : Ev s c hi (.int kh mh)) (hml : c = true → ml = (l : Int)) (hmh : c = true → mh = (h : Int)) (h1 : c = true → l ≤ h ∧ h ≤ k) :
    Lop P (.slice t x (some lo) (some hi) none) ty s c (.own r l (h - l)) [] :=
  Lop.pure_ fun M F N n a w hr hc => by
    have e1 := hx.vr hr hc
    obtain ⟨h1', h2⟩ := h1 hc
    have el := hl.int hr hc
    have eh := hh.int hr hc
    rw [hml hc] at el
    rw [hmh hc] at eh
    generalize hu : a.eval x = u at e1
    obtain ⟨g, vs, hM, hcl, hsz, _⟩ := hr.st.ent _ (sget_mem hg)
    simp only at hM
    cases e1 with
    | ptr hM2 =>
      rw [hM] at hM2
      cases hM2
      have hau : P.underlying t = some (.array k e) := Ty.und
      have hal : P.arrayLen t = k := by simp [Program.arrayLen, hau]
      have hel : P.elem t = e := by simp [Program.elem, hau]
      obtain ⟨j, hi', hz, hs, _⟩ := Tz.parts P e
      have hrun : ∀ w', (Instr.sliceAt t (.pointer (some ⟨g, 0, none⟩)) (some (.int kl l)) (some (.int kh h)) none).run P w' = .ok (slicedAt ⟨g, 0, none⟩ l h k 1) w' := fun w' => by
        rw [run_sliceAt_array_lh w' t ⟨g, 0, none⟩ (by rw [hal, hel]; exact hau) kl kh l h (by omega) (by omega) (by rw [hal]; omega)]
        simp [hal, hel, sizeOf, typeInfo, hi', hs]
      refine ⟨slicedAt ⟨g, 0, none⟩ l h k 1, ?_, fun w' o' ho _ => by simp [execOp, ho, hu, el, eh, hrun]⟩
      unfold slicedAt
      by_cases hkl : k = l
      · rw [if_pos hkl, show h - l = 0 by omega, show k - l = 0 by omega]
        exact .own0
      · rw [if_neg hkl]
        have := VR.own (M := M) (F := F) (w := w) (t := r) (off := l) (len := h - l) hM (by omega) (by omega)
        rw [hk] at this
        simpa [Addr.add_lit] using this
theorem lop_bytes_box [Ty P t (.slice e)] [Ty P e (.int .u8)] [Ty P t' .string] {bs bs' : List Nat} {r off len : Nat} {bt : TypeId} (h : Ev s c x (.own r off len)) (hg : sget s.σ r = some (.box bt (bs.map fun n : Nat => AV.int .u8 n))) (hle : off + len ≤ bs.length) (hbs : (bs.drop off).take len = bs') : Lop P (.convert t t' x) ty s c (.str (strU bs')) [r] := by
  subst hbs
  refine ⟨fun q hq => ⟨_, sget_mem hg, (List.mem_singleton.1 hq).symm⟩, fun M F N n a w hr hc => ⟨_, .str _, fun w' o ho _ hsame => ?_⟩⟩
  have e1 := h.vr hr hc
  have hl : ((bs.drop off).take len).length = len := by simp; omega
  generalize hu : a.eval x = u at e1
  obtain ⟨g, vs, hM, hcl, hsz, hvr⟩ := hr.st.ent _ (sget_mem hg)
  simp only [List.length_map] at hM hsz
  cases e1 with
  | own hM2 hle' hm =>
    rw [hM] at hM2
    cases hM2
    refine run_bytes_str (e := e) ho (by rw [hu, hl]) (fun h => by cases h) (fun p hp j n hj => ?_)
    cases hp
    rw [Addr.add_lit, World.cell?_of_block (w := w) (w' := w') (hsame g (.inr ⟨r, by simp, by simp [blkOf, hM]⟩)), hcl.cell]
    have hj2 : bs[off + j]? = some n := by
      rw [List.getElem?_take] at hj
      split at hj
      · rwa [List.getElem?_drop] at hj
      · cases hj
    have hjl := (List.getElem?_eq_some_iff.1 hj2).1
    have hlt : off * 1 + j < vs.size := by omega
    have h1 := hvr (off + j) (.int .u8 n) vs[off * 1 + j] (by rw [List.getElem?_map, hj2]; rfl) (by rw [show off + j = off * 1 + j by omega]; exact Array.getElem?_eq_getElem hlt)
    rw [Array.getElem?_eq_getElem hlt]
    generalize vs[off * 1 + j] = q at h1
    cases h1
    rfl
  | own0 =>
    refine run_bytes_str (e := e) ho (by rw [hu, hl]) (fun _ => by simp) (fun p _ j n hj => by simp at hj)
end
end Go.Proofs.Ytkjfflabapeidaa
/-
  Labels and jumps back to them.
-/
namespace Go.Proofs.Ytkjfflabapeidaa
open Go.RowKit Go.ChangeShapes Go.WideShapes Go.ChangeAt Go.Deep
set_option linter.unusedSimpArgs false
set_option linter.unusedVariables false

theorem least_of {p : Nat → Prop} : ∀ (n m : Nat), m ≤ n → p m → ∃ k, p k ∧ ∀ j, p j → k ≤ j
  | 0, m, hm, h => ⟨0, by rwa [show m = 0 by omega] at h, fun j _ => Nat.zero_le _⟩
  | n + 1, m, hm, h => by
    by_cases hc : ∃ j, j ≤ n ∧ p j
    · obtain ⟨j, h1, h2⟩ := hc; exact least_of n j h1 h2
    · refine ⟨m, h, fun j hj => ?_⟩
      by_cases hjm : m ≤ j
      · exact hjm
      · exact absurd ⟨j, by omega, hj⟩ hc
theorem wp_scope_ghost {P : Program} {a : Act} {w : World} {Q : Exit → Act → World → Prop} {c rest : Code} (l : Nat) (J : Nat → Act → World → Prop) (hf : findLabel c l = some rest)
    (first : c.wp P (Exit.jump l (fun a w => ∃ m, J m a w) Q) a w)
    (pass : ∀ m a w, J m a w → rest.wp P (Exit.jump l (fun a' w' => ∃ m', m' < m ∧ J m' a' w') Q) a w) : (Code.scope c).wp P Q a w := by
  have hm : ∀ a w, ∃ k, ∀ m, J m a w → J k a w ∧ k ≤ m := by
    intro a w
    by_cases h : ∃ m, J m a w
    · obtain ⟨m, h⟩ := h
      obtain ⟨k, h1, h2⟩ := least_of (p := fun m => J m a w) m m (Nat.le_refl _) h
      exact ⟨k, fun j hj => ⟨h1, h2 j hj⟩⟩
    · exact ⟨0, fun m hj => absurd ⟨m, hj⟩ h⟩
  refine wp_scope_jumps l (fun a w => ∃ m, J m a w) (fun a w => (hm a w).choose) hf first ?_
  rintro a w ⟨m, h⟩
  obtain ⟨h1, -⟩ := (hm a w).choose_spec m h
  refine wp_mono (pass _ a w h1) ?_
  intro e a' w' hq
  cases e <;> first | exact hq | skip
  obtain ⟨h2, m', h3, h4⟩ := hq
  exact ⟨h2, ⟨m', h4⟩, Nat.lt_of_le_of_lt ((hm a' w').choose_spec m' h4).2 h3⟩
/-- by a goto to l: J; else as Q -/
def AJump (l : Nat) (J : ASt → Prop) (Q : Exit → ASt → Prop) : Exit → ASt → Prop
  | .goto l', s => l' = l ∧ J s
  | e, s => Q e s
section
variable {P : Program} {n : Nat} {ks : List Nat} {s : ASt} {Q : Exit → ASt → Prop}
theorem scj {β : Type} {c body : Code} (l : Nat) (hf : findLabel c l = some (.seq .skip body)) (st : β → ASt) (ok : β → Prop) (ms : β → Nat)
    (pass : ∀ b, ok b → SW P n ks body (st b) (AJump l (fun s2 => ∃ b', ok b' ∧ ms b' < ms b ∧ SGo s2 (st b')) Q))
    (first : (∀ b s', ok b → SGo s' (st b) → SW P n ks (.seq (.label l) body) s' (AJump l (fun s2 => ∃ b', ok b' ∧ SGo s2 (st b')) Q)) → SW P n ks c s (AJump l (fun s2 => ∃ b', ok b' ∧ SGo s2 (st b')) Q)) : SW P n ks (.scope c) s Q := by
  have hfirst := first fun b s' hb hgo => sw_go hgo (sw_seq (sw_label (sw_mono (pass b hb) fun e s2 h => by
    cases e <;> first | exact h | skip
    obtain ⟨h1, b', h2, -, h3⟩ := h
    exact ⟨h1, b', h2, h3⟩)))
  intro M F N a w hr
  refine wp_scope_ghost l (fun m a' w' => ∃ M' F' N' b, ok b ∧ ms b = m ∧ Rel M' F' N' n (st b) a' w' ∧ Ext M F N w s.σ M' F' N' w' (st b).σ) hf ?_ ?_
  · refine wp_mono (hfirst M F N a w hr) ?_
    rintro e a' w' ⟨M', F', N', s', h1, h2, h3⟩
    cases e <;> first | exact ⟨M', F', N', s', h1, h2, h3⟩ | skip
    obtain ⟨h3, b, h4, h5⟩ := h3
    obtain ⟨M2, F2, N2, r2, e2⟩ := h5 M' F' N' n a' w' h1
    exact ⟨h3, _, M2, F2, N2, b, h4, rfl, r2, h2.trans e2⟩
  · rintro m a' w' ⟨M1, F1, N1, b, hb, rfl, r1, e1⟩
    refine wp_seq (wp_skip ?_)
    refine wp_mono (pass b hb M1 F1 N1 a' w' r1) ?_
    rintro e a2 w2 ⟨M', F', N', s', h1, h2, h3⟩
    cases e <;> first | exact ⟨M', F', N', s', h1, e1.trans h2, h3⟩ | skip
    obtain ⟨h3, b', h4, h6, h5⟩ := h3
    obtain ⟨M2, F2, N2, r2, e2⟩ := h5 M' F' N' n a2 w2 h1
    exact ⟨h3, _, h6, M2, F2, N2, b', h4, rfl, r2, e1.trans (h2.trans e2)⟩
theorem cg {l : Nat} (h : Q (.goto l) s) : SW P n ks (.goto l) s Q := sw_goto h
end
theorem ag {K : ASt → Prop} {Q : Exit → ASt → Prop} {s : ASt} {i : Nat} (h : Q (.goto i) s) : AThen K Q (.goto i) s := h
theorem bg {i j : Nat} {Q : Exit → ASt → Prop} {s : ASt} (h : Q (.goto j) s) : ABlock i Q (.goto j) s := h
theorem jg {J : ASt → Prop} {Q : Exit → ASt → Prop} {s : ASt} {l : Nat} (h : J s) : AJump l J Q (.goto l) s := ⟨rfl, h⟩
theorem jn {J : ASt → Prop} {Q : Exit → ASt → Prop} {s : ASt} {l : Nat} (h : Q .normal s) : AJump l J Q .normal s := h
theorem jr {J : ASt → Prop} {Q : Exit → ASt → Prop} {s : ASt} {l : Nat} (h : Q .ret s) : AJump l J Q .ret s := h
theorem je {J : ASt → Prop} {Q : Exit → ASt → Prop} {s : ASt} {l i : Nat} (h : Q (.exit i) s) : AJump l J Q (.exit i) s := h
/-- a call whose first argument is nil, told as if that were an own row that holds nothing -/
theorem scall_nil {P : Program} {f : FuncId} {e : TypeId} {sz z : Nat} {args : List AV} {σ : Sto} {R : AV → Sto → Prop} (h0 : 0 < sz) (h : ∀ q, Fresh q σ → SCall P f (.own q 0 0 :: args) ((q, .arr e sz []) :: σ) R) : SCall P f (.ro z [] .nil :: args) σ R := by
  intro M F N w vs hl hv hs
  have hr : Rel M F N 0 ⟨[], σ⟩ ⟨#[], []⟩ w := ⟨rfl, rfl, fun i x hi => by simp [fget] at hi, hs⟩
  have hE : ER (addM M N .virt) F w N (.arr e sz []) := ⟨h0, fun x hx => by simp at hx, .inl ⟨addM_new _, rfl⟩⟩
  obtain ⟨r1, e1, n1⟩ := hr.new_ (w' := w) .virt (.arr e sz []) (fun _ _ => rfl) ⟨rfl, rfl, rfl⟩ (Nat.le_refl _) (fun g hg => by simp [blkOf, addM_new] at hg) hE
  refine (h N n1 (addM M N .virt) F (N + 1) w vs (by simpa using hl) ?_ r1.st).mono ?_
  · intro i x v hx hvv
    cases i with
    | zero =>
      obtain rfl : AV.own N 0 0 = x := by simpa using hx
      have hv0 := hv 0 _ v rfl hvv
      cases hv0 with
      | @ro _ _ b o _ cap us hb hs hc hrr hle hm hf hn => exact absurd rfl hn
      | ro0 hm hA hf hn =>
        obtain rfl := hn rfl
        obtain rfl := hA rfl
        exact .own0
    | succ i => exact VR.mono e1.mm e1.ff (fun _ _ => rfl) (hv (i + 1) x v (by simpa using hx) hvv)
  · rintro e' w' ⟨v, x, M', F', N', σ', k1, k2, k3, k4, k5⟩
    exact ⟨v, x, M', F', N', σ', k1, e1.trans k2, k3, k4, k5⟩
section
variable {P : Program} {ty : TypeId} {s : ASt} {c : Bool} {t : TypeId} {x y : Operand}
/-- an element of an array's value, of one cell -/
theorem lop_index {e k : Nat} {d : TypeDesc} [Ty P t (.array k e)] [Ty P e d] (hd : aggD d = false) {by_ : Nat} {z : Value} [Tz P e 1 by_ z] {ki : IntKind} {m : Int} {cs : List AV} {v : AV} (h : Ev s c x (.agg cs)) (hi : Ev s c y (.int ki m)) (hb : c = true → 0 ≤ m ∧ m < k) (hv : c = true → cs[m.toNat]? = some v) : Lop P (.index t x y) ty s c v [] :=
  Lop.pure_ fun M F N n a w hr hc => by
    have e1 := h.vr hr hc
    have hv := hv hc
    have hb := hb hc
    obtain ⟨j, hi', hz, hs, _⟩ := Tz.parts P e
    generalize hu : a.eval x = u at e1
    cases e1 with
    | @agg _ vs hl hh =>
      have hlt : m.toNat < vs.size := by rw [hl]; exact (List.getElem?_eq_some_iff.1 hv).1
      refine ⟨vs[m.toNat], hh _ v _ hv (Array.getElem?_eq_getElem hlt), fun w' o ho _ => ?_⟩
      have := run_part_one (P := P) (t := e) hd (w := w') (Array.getElem?_eq_getElem hlt)
      simp [execOp, ho, hu, hi.int hr hc, Instr.index, asIntOf, run_underlying (Ty.und (P := P) (t := t)), hb, sizeOf, typeInfo, hi', hs, this]
/-- an array's value of three numbers -/
theorem lop_arr3 {e : Nat} [Ty P t (.array 3 e)] {by_ by' : Nat} {z z' : Value} [Tz P t 3 by_ z] [Tz P e 1 by' z'] {k : IntKind} {m0 m1 m2 : Int} (h3 : ∃ a0 a1 a2, z = .agg #[a0, a1, a2]) : Lop P (.build t #[(0, .const (.int k m0)), (1, .const (.int k m1)), (2, .const (.int k m2))]) ty s c (.agg [.int k m0, .int k m1, .int k m2]) [] := by
  obtain ⟨a0, a1, a2, h3⟩ := h3
  refine Lop.pure_ fun M F N n a w hr hc => ⟨.agg #[.int k m0, .int k m1, .int k m2], .agg rfl (fun j b u hj hu => ?_), fun w' o ho _ => ?_⟩
  · rcases j with _ | _ | _ | j
    · simp at hj hu; subst hj hu; exact .int _ _
    · simp at hj hu; subst hj hu; exact .int _ _
    · simp at hj hu; subst hj hu; exact .int _ _
    · simp at hj
  · obtain ⟨i, hi, hz0, hs0, _⟩ := Tz.parts P t
    obtain ⟨i', hi', hz0', hs0', _⟩ := Tz.parts P e
    simp [execOp, ho, Instr.build, zeroValue, typeInfo, hi, hz0, run_underlying (Ty.und (P := P) (t := t)), sizeOf, hi', hs0', Instr.fill, h3, Act.eval, Value.cells]
end
end Go.Proofs.Ytkjfflabapeidaa
/-
  The symbolic layer: what a walk does again and again, told once: each lemma's last hypothesis is shown by the steps that stand beside it, so that a walk names the lemma alone. No program is named here.
-/
namespace Go.Proofs.Ytkjfflabapeidaa
open Go.RowKit Go.ChangeShapes Go.WideShapes Go.ChangeAt Go.Deep
set_option linter.unusedSimpArgs false
set_option linter.unusedVariables false

structure Hold (Q : Prop) : Prop where
  h : Q

/-! ### goals that close -/
theorem nqT {P : Prop} (h : P := by (first | assumption | (apply Nq.en; assumption) | omega | (simp only [Nq] at *; omega))) : P := h
theorem sgT {P : Prop} (h : P := by (repeat (first | exact sget_here | (apply sget_next; (first | assumption | (apply Nq.en; assumption) | omega | (simp only [Nq] at *; omega)))))) : P := h
theorem resT {P : Prop} (h : P := by (repeat (first | exact ResL.nil | (apply ResL.tmp; rfl) | (apply ResL.cell; rfl; infer_instance; rfl; (repeat (first | exact sget_here | (apply sget_next; (first | assumption | (apply Nq.en; assumption) | omega | (simp only [Nq] at *; omega))))); rfl) | (apply ResL.cells; rfl; infer_instance; infer_instance; rfl; (repeat (first | exact sget_here | (apply sget_next; (first | assumption | (apply Nq.en; assumption) | omega | (simp only [Nq] at *; omega))))); exact Nat.le_of_ble_eq_true rfl)))) : P := h
theorem stleT {P : Prop} (h : P := by (first | exact no_mem | exact (fun _ h => h) | (apply StLe.mem; (repeat (first | exact StLe.nil | (apply StLe.cons; (repeat (first | exact List.mem_cons_self | apply List.mem_cons_of_mem)); first | rfl | focus (congr 1; done) | focus (simp; done) | (simp; rfl))))))) : P := h
theorem argsleT {P : Prop} (h : P := by (repeat (first | exact ArgsLe.nil | (apply ArgsLe.cons; rfl; first | exact VLe.refl _ | exact VLe.when rfl | exact VLe.any | exact VLe.empty | exact VLe.of_eq (by simp))))) : P := h
theorem bortT {P : Prop} (h : P := by (
     first
      | exact Bor.refl _
      | exact Bor.le VLe.any
      | exact Bor.le VLe.empty
      | (apply bown; (repeat (
        first
         | exact List.mem_cons_self
         | apply List.mem_cons_of_mem)); (repeat (
        first
         | exact sget_here
         | (apply sget_next; (
          first
           | assumption
           | (apply Nq.en; assumption)
           | omega
           | (simp only [Nq] at *; omega))))); (
       first
        | focus (simp; done)
        | omega
        | focus (simp; omega)); (
       first
        | rfl
        | focus (simp; done)
        | focus (exact List.take_of_length_le (by
         first
          | (simp; done)
          | (simp; omega)))))
      | focus (apply bbox; (repeat (
        first
         | exact List.mem_cons_self
         | apply List.mem_cons_of_mem)); (repeat (
        first
         | exact sget_here
         | (apply sget_next; (
          first
           | assumption
           | (apply Nq.en; assumption)
           | omega
           | (simp only [Nq] at *; omega))))); rfl; rfl; (repeat (
        first
         | exact BorL.nil
         | (apply BorL.cons; (
          first
           | exact Bor.refl _
           | exact Bor.le VLe.any
           | exact Bor.le VLe.empty
           | (apply bown; (repeat (
             first
              | exact List.mem_cons_self
              | apply List.mem_cons_of_mem)); (repeat (
             first
              | exact sget_here
              | (apply sget_next; (
               first
                | assumption
                | (apply Nq.en; assumption)
                | omega
                | (simp only [Nq] at *; omega))))); (
            first
             | focus (simp; done)
             | omega); (
            first
             | rfl
             | focus (simp; done)
             | focus (exact List.take_of_length_le (by
              first
               | (simp; done)
               | (simp; omega)))))
           | focus (apply Bor.le; apply VLe.of_eq; simp; done))))); done)
      | focus (apply bagg; (repeat (
        first
         | exact BorL.nil
         | (apply BorL.cons; (
          first
           | exact Bor.refl _
           | exact Bor.le VLe.any
           | exact Bor.le VLe.empty
           | (apply bown; (repeat (
             first
              | exact List.mem_cons_self
              | apply List.mem_cons_of_mem)); (repeat (
             first
              | exact sget_here
              | (apply sget_next; (
               first
                | assumption
                | (apply Nq.en; assumption)
                | omega
                | (simp only [Nq] at *; omega))))); (
            first
             | focus (simp; done)
             | omega); (
            first
             | rfl
             | focus (simp; done)
             | focus (exact List.take_of_length_le (by
              first
               | (simp; done)
               | (simp; omega)))))
           | focus (apply Bor.le; apply VLe.of_eq; simp; done))))); done)
      | focus (apply Bor.le; apply VLe.of_eq; simp; done))) : P := h
theorem pargsT {P : Prop} (h : P := by (repeat (first | exact ArgsIf.nil | (apply ArgsIf.cons; (first | exact W rfl id | exact W rfl (fun _ => rfl) | exact E rfl); exact bortT)))) : P := h
theorem bargsT {P : Prop} (h : P := by (repeat (first | exact ArgsBor.nil | (apply ArgsBor.cons; rfl; exact bortT)))) : P := h
theorem argsT {P : Prop} (h : P := by (repeat (first | exact ArgsIf.nil | refine ArgsIf.cons (by first | exact Ev.when rfl (by first | exact id | simp) | exact Ev.here rfl) (by first | exact Bor.refl _ | exact Bor.le VLe.any | exact Bor.le VLe.empty | exact Bor.own (by simp) (by repeat (first | exact sget_here | refine sget_next (by (first | assumption | (apply Nq.en; assumption) | omega | (simp only [Nq] at *; omega))) ?_)) (by simp) | exact Bor.le (VLe.of_eq (by simp))) ?_))) : P := h
theorem nofT {P : Prop} (h : P := by (repeat (first | exact NoF.int | exact NoF.bool | exact NoF.nilp | exact NoF.nil | exact NoF.own | exact NoF.ptr | exact NoF.str | exact nofl_nil | apply NoF.tup | apply NoF.agg | apply nofl_cons))) : P := h
theorem hbtT {P : Prop} (h : P := by (repeat (first | exact HB.nil | apply HB.none | (apply HB.ok; focus (simp only [List.mem_cons, List.not_mem_nil, or_false, List.map_cons, List.map_nil, forall_eq_or_imp, forall_eq, true_or, or_true, true_and, and_true, not_false_eq_true, not_or]; (repeat' (first | apply And.intro | (first | assumption | (apply Nq.en; assumption) | omega | (simp only [Nq] at *; omega)))); done)) | (apply HB.waits; kernel_rfl)))) : P := h
theorem atT {P : Prop} (h : P := by (first | rfl | exact get_map (by assumption) | assumption)) : P := h
theorem putT_ {P : Prop} (h : P := by (repeat (first | exact Put.done | apply Put.put | apply Put.skip))) : P := h
theorem sputT {P : Prop} (h : P := by (repeat (first | (apply SPut.here; (repeat (first | exact Put.done | apply Put.put | apply Put.skip)); (repeat (first | exact Fresh.nil | (apply Fresh.cons; (first | assumption | (apply Nq.en; assumption) | omega | (simp only [Nq] at *; omega)))))) | (apply SPut.next; (first | assumption | (apply Nq.en; assumption) | omega | (simp only [Nq] at *; omega)))))) : P := h
theorem ssetT {P : Prop} (h : P := by (repeat (first | (apply SSet.here; (repeat (first | exact Fresh.nil | (apply Fresh.cons; (first | assumption | (apply Nq.en; assumption) | omega | (simp only [Nq] at *; omega)))))) | (apply SSet.next; (first | assumption | (apply Nq.en; assumption) | omega | (simp only [Nq] at *; omega)))))) : P := h
theorem sdelT {P : Prop} (h : P := by (repeat (first | (apply SDel.here; (repeat (first | exact Fresh.nil | (apply Fresh.cons; (first | assumption | (apply Nq.en; assumption) | omega | (simp only [Nq] at *; omega)))))) | (apply SDel.next; (first | assumption | (apply Nq.en; assumption) | omega | (simp only [Nq] at *; omega)))))) : P := h
theorem frsT {P : Prop} (h : P := by (repeat (first | exact Fresh.nil | (apply Fresh.cons; (first | assumption | (apply Nq.en; assumption) | omega | (simp only [Nq] at *; omega)))))) : P := h
theorem aevtT {P : Prop} (h : P := by (repeat (first | exact AEvs.nil | (apply AEvs.cons; rfl)))) : P := h
theorem zcT {P : Prop} (h : P := by (first | (simp only [Value.cells, AV.cells, List.map_cons, List.map_nil, ofConst, ofCell]; rfl) | rfl)) : P := h
theorem nflT {P : Prop} (h : P := by (first | (simp (disch := (first | (simp only [List.mem_cons, List.not_mem_nil, true_or, or_true, or_false]; done) | (focus (simp only [List.mem_cons, List.not_mem_nil, or_false, not_or]; (repeat' (first | apply And.intro | (first | assumption | (apply Nq.en; assumption) | omega | (simp only [Nq] at *; omega)))); done)) | omega)) only [↓put_σ, ↓mk_σ, AV.cells, sset, sdrop_none, sdrop_nil, sdrop_in, sdrop_out, List.nil_append, List.cons_append, List.append_nil, List.map_nil, List.map_cons, List.take_succ_cons, List.take_zero, List.drop_succ_cons, List.drop_zero, take_len', take_map_len, Nat.zero_add, Nat.add_zero, ofCell, ofConst]; rfl) | rfl)) : P := h
theorem sgoT {P : Prop} (h : P := by (refine sgo_st ?_ ?_ <;> (repeat (first | exact FrLe.nil | (apply FrLe.cons; rfl; first | exact VLe.refl _ | exact VLe.any | exact VLe.empty | exact VLe.of_eq (by simp) | exact VLe.of_eq (by congr 1; omega)) | exact StLe.nil | exact StLe.refl _ | (apply StLe.cons; (repeat (first | exact List.mem_cons_self | apply List.mem_cons_of_mem)); first | rfl | focus (congr 1; done) | focus (simp; done) | (simp; rfl)))))) : P := h
theorem keepT {P : Prop} (h : P := by (repeat (first | (apply KeepIs.take; rfl) | (apply KeepIs.skip; rfl) | exact KeepIs.nil))) : P := h
theorem fdelT {P : Prop} (h : P := by (repeat (first | exact FDel.nil | apply FDel.hit | apply FDel.miss rfl))) : P := h

/-! ### goals that turn into one other -/
theorem ctlT {P Q : Prop} (k : Q) (h : Hold Q → P := by intro k; (repeat (first | refine cs ?_ | refine cb ?_ | refine ck ?_ | refine cx ?_ | refine cr ?_ | refine an ?_ | refine ae ?_ | refine ar ?_ | refine bn ?_ | refine bh ?_ | refine be rfl ?_ | refine br ?_ | refine ct rfl ?_ | refine cf rfl ?_)); exact k.h) : P := h ⟨k⟩
theorem ctgT {P Q : Prop} (k : Q) (h : Hold Q → P := by intro k; (repeat (first | refine cs ?_ | refine cb ?_ | refine ck ?_ | refine cx ?_ | refine cr ?_ | refine an ?_ | refine ae ?_ | refine ar ?_ | refine bn ?_ | refine bh ?_ | refine be rfl ?_ | refine br ?_ | refine ct rfl ?_ | refine cf rfl ?_ | refine cg ?_ | refine ag ?_ | refine bg ?_ | refine jg ?_ | refine jn ?_ | refine jr ?_ | refine je ?_)); exact k.h) : P := h ⟨k⟩
theorem rgT {P Q : Prop} (k : Q) (h : Hold Q → P := by intro k; (first | refine sw_seq_region ?_ | refine sw_region ?_); exact k.h) : P := h ⟨k⟩
theorem leT {P Q : Prop} (k : Q) (h : Hold Q → P := by intro k; (apply le; exact keepT); exact k.h) : P := h ⟨k⟩
theorem deT {P Q : Prop} (k : Q) (h : Hold Q → P := by intro k; (apply de; exact keepT); exact k.h) : P := h ⟨k⟩
structure Tag (o : List (Nat × Bool)) : Prop where
  h : True
theorem sw_seq_tag {o : List (Nat × Bool)} (_ : Tag o) {P : Program} {n : Nat} {ks : List Nat} {s : ASt} {Q : Exit → ASt → Prop} {id : Nat} {ops : Array Oper} {y : Code} (hm : P.follows .mixedOrders = true) (hsel : Region.noSelect ops = true)
    (hchk : (chkB ops (Array.replicate ops.size false) o && o.length == ops.size) = true) (h : RD P n ops (Array.replicate ops.size false) o [] s (KeepK ks fun s' => SW P n ks y s' Q)) : SW P n ks (.seq (.region id ops true) y) s Q := sw_seq_drawn o hm hsel hchk h
theorem sw_region_tag {o : List (Nat × Bool)} (_ : Tag o) {P : Program} {n : Nat} {ks : List Nat} {s : ASt} {Q : Exit → ASt → Prop} {id : Nat} {ops : Array Oper} (hm : P.follows .mixedOrders = true) (hsel : Region.noSelect ops = true)
    (hchk : (chkB ops (Array.replicate ops.size false) o && o.length == ops.size) = true) (h : RD P n ops (Array.replicate ops.size false) o [] s (KeepK ks (Q .normal))) : SW P n ks (.region id ops true) s Q := sw_region_drawn o hm hsel hchk h
theorem rgD {P Q : Prop} (o : List (Nat × Bool)) (k : Q) (h : Hold Q → Tag o → P := by intro k t; (first | refine sw_seq_tag t mixed (by kernel_rfl) (by kernel_rfl) ?_ | refine sw_region_tag t mixed (by kernel_rfl) (by kernel_rfl) ?_); exact k.h) : P := h ⟨k⟩ ⟨trivial⟩
/-- a new name, told apart from all that are there -/
theorem freshT {S R T G : Nat → Prop} (k : ∀ r, R r → T r) (h : Hold (∀ r, R r → T r) → ∀ r, S r → G r := by intro k r h; refine k.h r ?_; (first | (simp only [fresh_cons, fresh_nil, and_true] at h; exact h) | exact trivial)) : ∀ r, S r → G r := h ⟨k⟩
theorem apnT {S R T G : Nat → Prop} (k : ∀ r, R r → T r) (h : Hold (∀ r, R r → T r) → ∀ r, S r → G r := by intro k r h; simp (disch := (first | (simp only [List.mem_cons, List.not_mem_nil, true_or, or_true, or_false]; done) | (focus (simp only [List.mem_cons, List.not_mem_nil, or_false, not_or]; (repeat' (first | apply And.intro | (first | assumption | (apply Nq.en; assumption) | omega | (simp only [Nq] at *; omega)))); done)) | omega)) only [fresh_cons, fresh_nil, and_true, sdrop_none, sdrop_nil, sdrop_in, sdrop_out] at h; have h2 := h; (repeat (rcases h2 with ⟨_, h2⟩)); apply Exists.intro; apply And.intro; exact ssetT; exact k.h r h) : ∀ r, S r → G r := h ⟨k⟩

/-! ### what is known, told otherwise -/
theorem cnewT {H R : Prop} (a : H) (h : H → R := by intro h; replace h := (h _ List.mem_cons_self).resolve_left (by simp only [List.mem_cons, List.not_mem_nil, or_false, exists_eq_or_imp, exists_eq_left, not_or, false_and, exists_false, not_false_eq_true]; (repeat' (first | apply And.intro | exact nqT)); done); simp only [fresh_cons, fresh_nil, and_true] at h; exact h) : R := h a
theorem cnew2T {H R : Prop} (a : H) (h : H → R := by intro h; replace h := (h _ (List.mem_cons_of_mem _ List.mem_cons_self)).resolve_left (by simp only [List.mem_cons, List.not_mem_nil, or_false, exists_eq_or_imp, exists_eq_left, not_or, false_and, exists_false, not_false_eq_true]; (repeat' (first | apply And.intro | exact nqT)); done); simp only [fresh_cons, fresh_nil, and_true] at h; exact h) : R := h a
theorem lnewT {H R : Prop} (a : H) (h : H → R := by intro h; simp only [List.mem_cons, List.mem_singleton, List.not_mem_nil, or_false, forall_eq_or_imp, forall_eq, fresh_cons, fresh_nil, and_true, and_assoc] at h; exact h) : R := h a
theorem rest1T {H R : Prop} (a : H) (h : H → R := by intro h; have h := fresh_rest (h _ List.mem_cons_self); simp (disch := (first | (simp only [List.mem_cons, List.not_mem_nil, true_or, or_true, or_false]; done) | (focus (simp only [List.mem_cons, List.not_mem_nil, or_false, not_or]; (repeat' (first | apply And.intro | (first | assumption | (apply Nq.en; assumption) | omega | (simp only [Nq] at *; omega)))); done)) | omega)) only [List.map_cons, List.map_nil, sdrop_none, sdrop_nil, sdrop_in, sdrop_out, fresh_cons, fresh_nil, and_true] at h; exact h) : R := h a
theorem rest2T {H R : Prop} (a : H) (h : H → R := by intro h; have h := fresh_rest (h _ (List.mem_cons_of_mem _ List.mem_cons_self)); simp (disch := (first | (simp only [List.mem_cons, List.not_mem_nil, true_or, or_true, or_false]; done) | (focus (simp only [List.mem_cons, List.not_mem_nil, or_false, not_or]; (repeat' (first | apply And.intro | (first | assumption | (apply Nq.en; assumption) | omega | (simp only [Nq] at *; omega)))); done)) | omega)) only [List.map_cons, List.map_nil, sdrop_none, sdrop_nil, sdrop_in, sdrop_out, fresh_cons, fresh_nil, and_true] at h; exact h) : R := h a
theorem rest3T {H R : Prop} (a : H) (h : H → R := by intro h; have h := fresh_rest (h _ (List.mem_cons_of_mem _ (List.mem_cons_of_mem _ List.mem_cons_self))); simp (disch := (first | (simp only [List.mem_cons, List.not_mem_nil, true_or, or_true, or_false]; done) | (focus (simp only [List.mem_cons, List.not_mem_nil, or_false, not_or]; (repeat' (first | apply And.intro | (first | assumption | (apply Nq.en; assumption) | omega | (simp only [Nq] at *; omega)))); done)) | omega)) only [List.map_cons, List.map_nil, sdrop_none, sdrop_nil, sdrop_in, sdrop_out, fresh_cons, fresh_nil, and_true] at h; exact h) : R := h a
theorem rest4T {H R : Prop} (a : H) (h : H → R := by intro h; have h := fresh_rest (h _ (List.mem_cons_of_mem _ (List.mem_cons_of_mem _ (List.mem_cons_of_mem _ List.mem_cons_self)))); simp (disch := (first | (simp only [List.mem_cons, List.not_mem_nil, true_or, or_true, or_false]; done) | (focus (simp only [List.mem_cons, List.not_mem_nil, or_false, not_or]; (repeat' (first | apply And.intro | (first | assumption | (apply Nq.en; assumption) | omega | (simp only [Nq] at *; omega)))); done)) | omega)) only [List.map_cons, List.map_nil, sdrop_none, sdrop_nil, sdrop_in, sdrop_out, fresh_cons, fresh_nil, and_true] at h; exact h) : R := h a
theorem blT {H R : Prop} (a : H) (h : H → R := by intro h; (try simp only [ifand, ifor] at h); simp only [Bool.and_eq_true, Bool.or_eq_true, Bool.and_eq_false_iff, Bool.or_eq_false_iff, decide_eq_true_eq, decide_eq_false_iff_not, Bool.not_eq_true', Bool.not_eq_false', bne_iff_ne, beq_iff_eq, ne_eq, Bool.not_eq_eq_eq_not, Bool.not_true, Bool.not_false, bne_eq_false_iff_eq, beq_eq_false_iff_ne] at h; exact h) : R := h a
end Go.Proofs.Ytkjfflabapeidaa
/-
  The symbolic layer: a walk's steps, each told once. No program is named here.
-/
namespace Go.Proofs.Ytkjfflabapeidaa
open Go.RowKit Go.ChangeShapes Go.WideShapes Go.ChangeAt Go.Deep
set_option linter.unusedSimpArgs false
set_option linter.unusedVariables false

theorem z0 {P Q : Prop} (k : Q) (h : Hold Q → P := by intro k; (first | refine lo (lop_conv_in (E rfl) (wrap_u8_of (by omega) (by omega))) rfl ?_ | refine lo (lop_conv (E rfl)) rfl ?_); exact k.h) : P := h ⟨k⟩
theorem z1 {P Q : Prop} (k : Q) (h : Hold Q → P := by intro k; (apply bs; (exact aevtT); rfl; rfl; rfl; rfl; (exact zcT); rfl); exact k.h) : P := h ⟨k⟩
theorem z2 {P Q : Prop} (k : Q) (h : Hold Q → P := by intro k; (refine lo (lop_shr (E rfl) (E rfl) (fun _ => by first | decide | omega)) rfl ?_); exact k.h) : P := h ⟨k⟩
theorem z3 {P Q : Prop} (k : Q) (h : Hold Q → P := by intro k; (refine lo (lop_andNot (E rfl) (E rfl)) rfl ?_); exact k.h) : P := h ⟨k⟩
theorem z4 {P Q : Prop} (k : Q) (h : Hold Q → P := by intro k; (first | refine ln rfl rfl rfl rfl ?_ | refine lg rfl rfl (lop_move (E rfl)) rfl ?_); exact k.h) : P := h ⟨k⟩
theorem z5 {P Q : Prop} (k : Q) (h : Hold Q → P := by intro k; (first | refine ln rfl rfl rfl rfl ?_ | refine lg rfl rfl (lop_and (W rfl id) (E rfl)) rfl ?_); exact k.h) : P := h ⟨k⟩
theorem z6 {P Q : Prop} (k : Q) (h : Hold Q → P := by intro k; (first | refine ln rfl rfl rfl rfl ?_ | refine lg rfl rfl (lop_eql (W rfl id) (E rfl)) rfl ?_); exact k.h) : P := h ⟨k⟩
theorem z7 {P Q : Prop} (k : Q) (h : Hold Q → P := by intro k; (first | refine lo (lop_pick_t (E rfl) (W rfl (by simp))) rfl ?_ | refine lo (lop_pick_f (E rfl) (E rfl)) rfl ?_ | refine lo (lop_pick (E rfl) (W rfl (by simp)) (E rfl)) rfl ?_); exact k.h) : P := h ⟨k⟩
theorem z8 {P Q : Prop} (k : Q) (h : Hold Q → P := by intro k; (first | refine ln rfl rfl rfl rfl ?_ | refine lg rfl rfl (lop_move (W rfl id)) rfl ?_); exact k.h) : P := h ⟨k⟩
theorem z9 {P Q : Prop} (k : Q) (h : Hold Q → P := by intro k; (first | refine ln rfl rfl rfl rfl ?_ | refine lg rfl rfl (lop_move (E rfl)) rfl ?_ | refine lw rfl rfl (lop_move (E rfl)) rfl ?_ | refine lw rfl rfl (lop_no (v := .bool false)) rfl ?_); exact k.h) : P := h ⟨k⟩
theorem z10 {P Q : Prop} (k : Q) (h : Hold Q → P := by intro k; (first | refine ln rfl rfl rfl rfl ?_ | refine lg rfl rfl (lop_and (W rfl (by first | exact id | simp)) (E rfl)) rfl ?_ | refine lw rfl rfl (lop_and (W rfl (by first | exact id | simp)) (E rfl)) rfl ?_ | refine lw rfl rfl (lop_no (v := .bool false)) rfl ?_); exact k.h) : P := h ⟨k⟩
theorem z11 {P Q : Prop} (k : Q) (h : Hold Q → P := by intro k; (first | refine ln rfl rfl rfl rfl ?_ | refine lg rfl rfl (lop_neq (W rfl (by first | exact id | simp)) (E rfl)) rfl ?_ | refine lw rfl rfl (lop_neq (W rfl (by first | exact id | simp)) (E rfl)) rfl ?_ | refine lw rfl rfl (lop_no (v := .bool false)) rfl ?_); exact k.h) : P := h ⟨k⟩
theorem z12 {P Q : Prop} (k : Q) (h : Hold Q → P := by intro k; (first | refine ln rfl rfl rfl rfl ?_ | refine lg rfl rfl (lop_pick_t (W rfl id) (W rfl (by simp))) rfl ?_ | refine lg rfl rfl (lop_pick_f (W rfl id) (E rfl)) rfl ?_ | refine lg rfl rfl (lop_pick (W rfl id) (W rfl (by simp)) (E rfl)) rfl ?_); exact k.h) : P := h ⟨k⟩
theorem z13 {P Q : Prop} (k : Q) (h : Hold Q → P := by intro k; (first | refine lo (lop_pick_t (E rfl) (E rfl)) rfl ?_ | refine lo (lop_pick_f (E rfl) (W rfl (by simp))) rfl ?_ | refine lo (lop_pick (E rfl) (E rfl) (W rfl (by simp))) rfl ?_); exact k.h) : P := h ⟨k⟩
theorem z14 {P Q : Prop} (k : Q) (h : Hold Q → P := by intro k; (first | refine lo (lop_len_map (E rfl)) rfl ?_ | refine lo (lop_len_ro (E rfl)) rfl ?_ | refine lo (lop_len_own (E rfl)) rfl ?_); exact k.h) : P := h ⟨k⟩
theorem z15 {P Q : Prop} (k : Q) (h : Hold Q → P := by intro k; (first | refine lo (lop_index_ro (E rfl) (E rfl) (fun hc => by (simp only [List.length_map]; omega))) rfl ?_ | refine lo (lop_index_own0 (E rfl) sgT (E rfl) (fun hc => by omega)) rfl ?_ | refine lo (lop_index_own (E rfl) sgT (E rfl) (fun hc => by omega)) rfl ?_); exact k.h) : P := h ⟨k⟩
theorem z16 {P Q : Prop} (k : Q) (h : Hold Q → P := by intro k; (first | refine lo (lop_load_el (E rfl) rfl (fun hc => by first | rfl | exact get_map (by assumption) | assumption | exact get_map (at_bang (by omega))) (fun _ => rfl)) rfl ?_ | refine lo (lop_load_ow (E rfl) rfl sgT (fun hc => by first | rfl | exact get_map (by assumption) | assumption | exact get_map (at_bang (by omega))) (fun _ => rfl)) rfl ?_); exact k.h) : P := h ⟨k⟩
theorem z17 {P Q : Prop} (k : Q) (h : Hold Q → P := by intro k; (first | refine lo (lop_add64 (E rfl) (E rfl) (by omega) (by omega)) rfl ?_ | refine lo (lop_add (E rfl) (E rfl)) rfl ?_); exact k.h) : P := h ⟨k⟩
theorem z18 {P Q : Prop} (k : Q) (h : Hold Q → P := by intro k; (first | refine ln rfl rfl rfl rfl ?_ | refine lg rfl rfl (lop_gtr (W rfl id) (E rfl)) rfl ?_); exact k.h) : P := h ⟨k⟩
theorem z19 {P Q : Prop} (k : Q) (h : Hold Q → P := by intro k; (first | refine lo (lop_sub64 (E rfl) (E rfl) (by omega) (by omega)) rfl ?_ | refine lo (lop_sub (E rfl) (E rfl)) rfl ?_); exact k.h) : P := h ⟨k⟩
theorem z20 {P Q : Prop} (k : Q) (h : Hold Q → P := by intro k; (refine lo (lop_quo (E rfl) (E rfl) (fun _ => by first | decide | omega)) rfl ?_); exact k.h) : P := h ⟨k⟩
theorem z21 {P Q : Prop} (k : Q) (h : Hold Q → P := by intro k; (first | refine ln rfl rfl rfl rfl ?_ | refine lg rfl rfl (lop_lss (W rfl id) (W rfl id)) rfl ?_); exact k.h) : P := h ⟨k⟩
theorem z22 {P Q : Prop} (k : Q) (h : Hold Q → P := by intro k; (refine lo (lop_rem (E rfl) (E rfl) (fun _ => by first | decide | omega)) rfl ?_); exact k.h) : P := h ⟨k⟩
theorem z23 {P Q : Prop} (k : Q) (h : Hold Q → P := by intro k; (refine lo (lop_shl (E rfl) (E rfl) (fun _ => by first | decide | omega)) rfl ?_); exact k.h) : P := h ⟨k⟩
theorem z24 {P Q : Prop} (k : Q) (h : Hold Q → P := by intro k; (first | refine lo (lop_conv_in (E rfl) (wrap_u64_of (by omega) (by omega))) rfl ?_ | refine lo (lop_conv (E rfl)) rfl ?_); exact k.h) : P := h ⟨k⟩
theorem z25 {P Q : Prop} (k : Q) (h : Hold Q → P := by intro k; (first | refine dlo rfl (lop_slice_ro (E rfl) OB.none (OB.some (E rfl) (fun _ => by first | rfl | exact (Int.toNat_of_nonneg (by omega)).symm)) (fun _ => by first | (simp only [List.length_map]; omega) | omega)) rfl ?_ | refine dlo rfl (lop_slice_own (E rfl) sgT OB.none (OB.some (E rfl) (fun _ => by first | rfl | exact (Int.toNat_of_nonneg (by omega)).symm)) (fun _ => by first | (simp only [List.length_map]; omega) | omega)) rfl ?_); exact k.h) : P := h ⟨k⟩
theorem z26 {P Q : Prop} (k : Q) (h : Hold Q → P := by intro k; (first | refine dln rfl rfl rfl rfl rfl ?_ | refine dlg rfl rfl rfl (lop_move (E rfl)) rfl ?_); exact k.h) : P := h ⟨k⟩
theorem z27 {P Q : Prop} (k : Q) (h : Hold Q → P := by intro k; (first | refine dln rfl rfl rfl rfl rfl ?_ | refine dlg rfl rfl rfl (lop_lss (W rfl id) (E rfl)) rfl ?_); exact k.h) : P := h ⟨k⟩
theorem z28 {P Q : Prop} (k : Q) (h : Hold Q → P := by intro k; (first | refine dln rfl rfl rfl rfl rfl ?_ | refine dlg rfl rfl rfl (lop_move (W rfl id)) rfl ?_); exact k.h) : P := h ⟨k⟩
theorem z29 {P Q : Prop} (k : Q) (h : Hold Q → P := by intro k; (first | refine dln rfl rfl rfl rfl rfl ?_ | refine dlg rfl rfl rfl (lop_move (E rfl)) rfl ?_ | refine dlw rfl rfl rfl (lop_move (E rfl)) rfl ?_ | refine dlw rfl rfl rfl (lop_no (v := .bool false)) rfl ?_); exact k.h) : P := h ⟨k⟩
theorem z30 {P Q : Prop} (k : Q) (h : Hold Q → P := by intro k; (first | refine dln rfl rfl rfl rfl rfl ?_ | refine dlg rfl rfl rfl (lop_shr (W rfl (by first | exact id | simp)) (W rfl (by first | exact id | simp)) (fun _ => by first | decide | omega)) rfl ?_ | refine dlw rfl rfl rfl (lop_shr (W rfl (by first | exact id | simp)) (W rfl (by first | exact id | simp)) (fun _ => by first | decide | omega)) rfl ?_ | refine dlw rfl rfl rfl (lop_no (v := .bool false)) rfl ?_); exact k.h) : P := h ⟨k⟩
theorem z31 {P Q : Prop} (k : Q) (h : Hold Q → P := by intro k; (first | refine dln rfl rfl rfl rfl rfl ?_ | refine dlg rfl rfl rfl (lop_neq (W rfl (by first | exact id | simp)) (E rfl)) rfl ?_ | refine dlw rfl rfl rfl (lop_neq (W rfl (by first | exact id | simp)) (E rfl)) rfl ?_ | refine dlw rfl rfl rfl (lop_no (v := .bool false)) rfl ?_); exact k.h) : P := h ⟨k⟩
theorem z32 {P Q : Prop} (k : Q) (h : Hold Q → P := by intro k; (first | refine dln rfl rfl rfl rfl rfl ?_ | refine dlg rfl rfl rfl (lop_pick_t (W rfl id) (W rfl (by simp))) rfl ?_ | refine dlg rfl rfl rfl (lop_pick_f (W rfl id) (E rfl)) rfl ?_ | refine dlg rfl rfl rfl (lop_pick (W rfl id) (W rfl (by simp)) (E rfl)) rfl ?_); exact k.h) : P := h ⟨k⟩
theorem z33 {P Q : Prop} (k : Q) (h : Hold Q → P := by intro k; (first | refine dlo rfl (lop_pick_t (E rfl) (E rfl)) rfl ?_ | refine dlo rfl (lop_pick_f (E rfl) (W rfl (by simp))) rfl ?_ | refine dlo rfl (lop_pick (E rfl) (E rfl) (W rfl (by simp))) rfl ?_); exact k.h) : P := h ⟨k⟩
theorem z34 {P Q : Prop} (k : Q) (h : Hold Q → P := by intro k; (first | refine ln rfl rfl rfl rfl ?_ | refine lg rfl rfl (lop_geq (W rfl id) (E rfl)) rfl ?_); exact k.h) : P := h ⟨k⟩
theorem z35 {P Q : Prop} (k : Q) (h : Hold Q → P := by intro k; (first | refine dln rfl rfl rfl rfl rfl ?_ | refine dlg rfl rfl rfl (lop_conv_in (W rfl (by first | exact id | simp)) (wrap_u64_of (by omega) (by omega))) rfl ?_ | refine dlg rfl rfl rfl (lop_conv (W rfl (by first | exact id | simp))) rfl ?_ | refine dlw rfl rfl rfl (lop_conv_in (W rfl (by first | exact id | simp)) (wrap_u64_of (by omega) (by omega))) rfl ?_ | refine dlw rfl rfl rfl (lop_conv (W rfl (by first | exact id | simp))) rfl ?_ | refine dlw rfl rfl rfl (lop_no (v := .bool false)) rfl ?_); exact k.h) : P := h ⟨k⟩
theorem z36 {P Q : Prop} (k : Q) (h : Hold Q → P := by intro k; (first | refine dln rfl rfl rfl rfl rfl ?_ | refine dlg rfl rfl rfl (lop_shl (E rfl) (W rfl (by first | exact id | simp)) (fun _ => by first | decide | omega)) rfl ?_ | refine dlw rfl rfl rfl (lop_shl (E rfl) (W rfl (by first | exact id | simp)) (fun _ => by first | decide | omega)) rfl ?_ | refine dlw rfl rfl rfl (lop_no (v := .bool false)) rfl ?_); exact k.h) : P := h ⟨k⟩
theorem z37 {P Q : Prop} (k : Q) (h : Hold Q → P := by intro k; (first | refine dln rfl rfl rfl rfl rfl ?_ | refine dlg rfl rfl rfl (lop_geq (W rfl (by first | exact id | simp)) (W rfl (by first | exact id | simp))) rfl ?_ | refine dlw rfl rfl rfl (lop_geq (W rfl (by first | exact id | simp)) (W rfl (by first | exact id | simp))) rfl ?_ | refine dlw rfl rfl rfl (lop_no (v := .bool false)) rfl ?_); exact k.h) : P := h ⟨k⟩
theorem z38 {P Q : Prop} (k : Q) (h : Hold Q → P := by intro k; (refine dly rfl rfl rfl (lop_move (E rfl)) rfl ?_); exact k.h) : P := h ⟨k⟩
theorem z39 {P Q : Prop} (k : Q) (h : Hold Q → P := by intro k; (first | refine dly rfl rfl rfl (lop_slice_ro (by first | exact E rfl | exact W rfl id) OB.none (OB.some (by first | exact E rfl | exact W rfl id) (fun _ => by first | rfl | exact (Int.toNat_of_nonneg (by omega)).symm)) (fun _ => by first | (simp only [List.length_map]; omega) | omega)) rfl ?_ | refine dly rfl rfl rfl (lop_slice_own (by first | exact E rfl | exact W rfl id) sgT OB.none (OB.some (by first | exact E rfl | exact W rfl id) (fun _ => by first | rfl | exact (Int.toNat_of_nonneg (by omega)).symm)) (fun _ => by first | (simp only [List.length_map]; omega) | omega)) rfl ?_); exact k.h) : P := h ⟨k⟩
theorem z40 {P Q : Prop} (k : Q) (h : Hold Q → P := by intro k; (refine dly rfl rfl rfl (lop_sneq (by first | exact E rfl | exact W rfl id) (by first | exact E rfl | exact W rfl id)) rfl ?_); exact k.h) : P := h ⟨k⟩
theorem z41 {P Q : Prop} (k : Q) (h : Hold Q → P := by intro k; (first | refine dlo rfl (lop_pick_t (E rfl) (E rfl)) rfl ?_ | refine dlo rfl (lop_pick_f (E rfl) (by first | exact E rfl | exact W rfl (by simp))) rfl ?_ | refine dlo rfl (lop_pick (E rfl) (E rfl) (by first | exact E rfl | exact W rfl (by simp))) rfl ?_); exact k.h) : P := h ⟨k⟩
theorem z42 {P Q : Prop} (k : Q) (h : Hold Q → P := by intro k; (first | refine dln rfl rfl rfl rfl rfl ?_ | refine dlg rfl rfl rfl (lop_slice_ro (W rfl id) OB.none (OB.some (W rfl id) (fun _ => by first | rfl | exact (Int.toNat_of_nonneg (by omega)).symm)) (fun _ => by first | (simp only [List.length_map]; omega) | omega)) rfl ?_ | refine dlg rfl rfl rfl (lop_slice_own (W rfl id) sgT OB.none (OB.some (W rfl id) (fun _ => by first | rfl | exact (Int.toNat_of_nonneg (by omega)).symm)) (fun _ => by first | (simp only [List.length_map]; omega) | omega)) rfl ?_); exact k.h) : P := h ⟨k⟩
theorem z43 {P Q : Prop} (k : Q) (h : Hold Q → P := by intro k; (first | refine dln rfl rfl rfl rfl rfl ?_ | refine dlg rfl rfl rfl (lop_sneq (W rfl id) (W rfl id)) rfl ?_); exact k.h) : P := h ⟨k⟩
theorem z44 {P Q : Prop} (k : Q) (h : Hold Q → P := by intro k; (first | refine lo (lop_conv_in (E rfl) (wrap_i64_of (by omega) (by omega))) rfl ?_ | refine lo (lop_conv (E rfl)) rfl ?_); exact k.h) : P := h ⟨k⟩
theorem z45 {P Q : Prop} (k : Q) (h : Hold Q → P := by intro k; (first | refine dln rfl rfl rfl rfl rfl ?_ | refine dlg rfl rfl rfl (lop_neq (W rfl id) (E rfl)) rfl ?_); exact k.h) : P := h ⟨k⟩
theorem z46 {P Q : Prop} (k : Q) (h : Hold Q → P := by intro k; (refine dlo rfl (lop_lss (E rfl) (E rfl)) rfl ?_); exact k.h) : P := h ⟨k⟩
theorem z47 {P Q : Prop} (k : Q) (h : Hold Q → P := by intro k; (first | refine dln rfl rfl rfl rfl rfl ?_ | refine dlg rfl rfl rfl (lop_sub64 (W rfl id) (E rfl) (by omega) (by omega)) rfl ?_ | refine dlg rfl rfl rfl (lop_sub64c (W rfl id) (E rfl) (fun hc => by simp at hc <;> first | omega | (have hov := hov hc; omega))) rfl ?_ | refine dlg rfl rfl rfl (lop_sub (W rfl id) (E rfl)) rfl ?_); exact k.h) : P := h ⟨k⟩
theorem z48 {P Q : Prop} (k : Q) (h : Hold Q → P := by intro k; (first | refine dln rfl rfl rfl rfl rfl ?_ | refine dlg rfl rfl rfl (lop_conv_in (W rfl id) (wrap_u64_of (by omega) (by omega))) rfl ?_ | refine dlg rfl rfl rfl (lop_conv (W rfl id)) rfl ?_); exact k.h) : P := h ⟨k⟩
theorem z49 {P Q : Prop} (k : Q) (h : Hold Q → P := by intro k; (first | refine dln rfl rfl rfl rfl rfl ?_ | refine dlg rfl rfl rfl (lop_shl (E rfl) (W rfl id) (fun _ => by first | decide | omega)) rfl ?_); exact k.h) : P := h ⟨k⟩
theorem z50 {P Q : Prop} (k : Q) (h : Hold Q → P := by intro k; (first | refine dln rfl rfl rfl rfl rfl ?_ | refine dlg rfl rfl rfl (lop_lss (W rfl id) (W rfl id)) rfl ?_); exact k.h) : P := h ⟨k⟩
theorem z51 {P Q : Prop} (k : Q) (h : Hold Q → P := by intro k; (first | refine dln rfl rfl rfl rfl rfl ?_ | refine dlg rfl rfl rfl (lop_sub64 (W rfl (by first | exact id | simp)) (E rfl) (by omega) (by omega)) rfl ?_ | refine dlg rfl rfl rfl (lop_sub64c (W rfl (by first | exact id | simp)) (E rfl) (fun hc => by simp at hc <;> first | omega | (have hov := hov hc; omega))) rfl ?_ | refine dlg rfl rfl rfl (lop_sub (W rfl (by first | exact id | simp)) (E rfl)) rfl ?_ | refine dlw rfl rfl rfl (lop_sub64 (W rfl (by first | exact id | simp)) (E rfl) (by omega) (by omega)) rfl ?_ | refine dlw rfl rfl rfl (lop_sub64c (W rfl (by first | exact id | simp)) (E rfl) (fun hc => by simp at hc <;> first | omega | (have hov := hov hc; omega))) rfl ?_ | refine dlw rfl rfl rfl (lop_sub (W rfl (by first | exact id | simp)) (E rfl)) rfl ?_ | refine dlw rfl rfl rfl (lop_no (v := .bool false)) rfl ?_); exact k.h) : P := h ⟨k⟩
theorem z52 {P Q : Prop} (k : Q) (h : Hold Q → P := by intro k; (first | refine dln rfl rfl rfl rfl rfl ?_ | refine dlg rfl rfl rfl (lop_pick_t (W rfl id) (E rfl)) rfl ?_ | refine dlg rfl rfl rfl (lop_pick_f (W rfl id) (W rfl (by simp))) rfl ?_ | refine dlg rfl rfl rfl (lop_pick (W rfl id) (E rfl) (W rfl (by simp))) rfl ?_); exact k.h) : P := h ⟨k⟩
theorem z53 {P Q : Prop} (k : Q) (h : Hold Q → P := by intro k; (first | refine dlo rfl (lop_pick_t (E rfl) (W rfl (by simp))) rfl ?_ | refine dlo rfl (lop_pick_f (E rfl) (E rfl)) rfl ?_ | refine dlo rfl (lop_pick (E rfl) (W rfl (by simp)) (E rfl)) rfl ?_); exact k.h) : P := h ⟨k⟩
theorem z54 {P Q : Prop} (k : Q) (h : Hold Q → P := by intro k; (first | refine ln rfl rfl rfl rfl ?_ | refine lg rfl rfl (lop_leq (W rfl id) (W rfl id)) rfl ?_); exact k.h) : P := h ⟨k⟩
theorem z55 {P Q : Prop} (k : Q) (h : Hold Q → P := by intro k; (first | refine ln rfl rfl rfl rfl ?_ | refine lg rfl rfl (lop_leq (W rfl id) (E rfl)) rfl ?_); exact k.h) : P := h ⟨k⟩
theorem z56 {P Q : Prop} (k : Q) (h : Hold Q → P := by intro k; (first | refine dlo rfl (lop_index_ro (E rfl) (E rfl) (fun hc => by (simp only [List.length_map]; omega))) rfl ?_ | refine dlo rfl (lop_index_own0 (E rfl) sgT (E rfl) (fun hc => by omega)) rfl ?_ | refine dlo rfl (lop_index_own (E rfl) sgT (E rfl) (fun hc => by omega)) rfl ?_); exact k.h) : P := h ⟨k⟩
theorem z57 {P Q : Prop} (k : Q) (h : Hold Q → P := by intro k; (first | refine dlo rfl (lop_load_el (E rfl) rfl (fun hc => by first | rfl | exact get_map (by assumption) | assumption | exact get_map (at_bang (by omega))) (fun _ => rfl)) rfl ?_ | refine dlo rfl (lop_load_ow (E rfl) rfl sgT (fun hc => by first | rfl | exact get_map (by assumption) | assumption | exact get_map (at_bang (by omega))) (fun _ => rfl)) rfl ?_); exact k.h) : P := h ⟨k⟩
theorem z58 {P Q : Prop} (k : Q) (h : Hold Q → P := by intro k; (refine dlo rfl (lop_neq (E rfl) (E rfl)) rfl ?_); exact k.h) : P := h ⟨k⟩
theorem z59 {P Q : Prop} (k : Q) (h : Hold Q → P := by intro k; (first | refine lo (lop_field_ptr (E rfl) rfl (by decide)) rfl ?_ | refine lo (lop_field_el (E rfl) rfl (by decide)) rfl ?_); exact k.h) : P := h ⟨k⟩
theorem z60 {P Q : Prop} (k : Q) (h : Hold Q → P := by intro k; (first | refine lo (lop_load_ptr (E rfl) rfl sgT (fun _ => rfl)) rfl ?_ | refine lo (lop_load_ptr (E rfl) rfl sgT (fun _ => by assumption)) rfl ?_ | refine lo (lop_load_el (E rfl) rfl (fun hc => by first | rfl | exact get_map (by assumption) | assumption | exact get_map (at_bang (by omega))) (fun _ => rfl)) rfl ?_); exact k.h) : P := h ⟨k⟩
theorem z61 {P Q : Prop} (k : Q) (h : Hold Q → P := by intro k; (first | refine ln rfl rfl rfl rfl ?_ | refine lg rfl rfl (lop_field_ptr (E rfl) rfl (by decide)) rfl ?_ | refine lg rfl rfl (lop_field_el (E rfl) rfl (by decide)) rfl ?_); exact k.h) : P := h ⟨k⟩
theorem z62 {P Q : Prop} (k : Q) (h : Hold Q → P := by intro k; (first | refine ln rfl rfl rfl rfl ?_ | refine lg rfl rfl (lop_load_ptr (W rfl id) rfl sgT (fun _ => rfl)) rfl ?_ | refine lg rfl rfl (lop_load_ptr (W rfl id) rfl sgT (fun _ => by assumption)) rfl ?_ | refine lg rfl rfl (lop_load_el (W rfl id) rfl (fun hc => by first | rfl | exact get_map (by assumption) | assumption | exact get_map (at_bang (by (try simp at hc) <;> omega))) (fun _ => rfl)) rfl ?_); exact k.h) : P := h ⟨k⟩
theorem z63 {P Q : Prop} (k : Q) (h : Hold Q → P := by intro k; (first | refine ln rfl rfl rfl rfl ?_ | refine lg rfl rfl (lop_len_map (W rfl id)) rfl ?_ | refine lg rfl rfl (lop_len_ro (W rfl id)) rfl ?_ | refine lg rfl rfl (lop_len_own (W rfl id)) rfl ?_); exact k.h) : P := h ⟨k⟩
theorem z64 {P Q : Prop} (k : Q) (h : Hold Q → P := by intro k; (first | refine ln rfl rfl rfl rfl ?_ | refine lg rfl rfl (lop_neq (W rfl id) (E rfl)) rfl ?_); exact k.h) : P := h ⟨k⟩
theorem z65 {P Q : Prop} (k : Q) (h : Hold Q → P := by intro k; (first | refine ln rfl rfl rfl rfl ?_ | refine lg rfl rfl (lop_field_ptr (E rfl) rfl (by decide)) rfl ?_ | refine lg rfl rfl (lop_field_el (E rfl) rfl (by decide)) rfl ?_ | refine lw rfl rfl (lop_field_ptr (E rfl) rfl (by decide)) rfl ?_ | refine lw rfl rfl (lop_field_el (E rfl) rfl (by decide)) rfl ?_ | refine lw rfl rfl (lop_no (v := .bool false)) rfl ?_); exact k.h) : P := h ⟨k⟩
theorem z66 {P Q : Prop} (k : Q) (h : Hold Q → P := by intro k; (first | refine ln rfl rfl rfl rfl ?_ | refine lg rfl rfl (lop_load_ptr (W rfl (by first | exact id | simp)) rfl sgT (fun _ => rfl)) rfl ?_ | refine lg rfl rfl (lop_load_ptr (W rfl (by first | exact id | simp)) rfl sgT (fun _ => by assumption)) rfl ?_ | refine lg rfl rfl (lop_load_el (W rfl (by first | exact id | simp)) rfl (fun hc => by first | rfl | exact get_map (by assumption) | assumption | exact get_map (at_bang (by (try simp at hc) <;> omega))) (fun _ => rfl)) rfl ?_ | refine lw rfl rfl (lop_load_ptr (W rfl (by first | exact id | simp)) rfl sgT (fun _ => rfl)) rfl ?_ | refine lw rfl rfl (lop_load_ptr (W rfl (by first | exact id | simp)) rfl sgT (fun _ => by assumption)) rfl ?_ | refine lw rfl rfl (lop_load_el (W rfl (by first | exact id | simp)) rfl (fun hc => by first | rfl | exact get_map (by assumption) | assumption | exact get_map (at_bang (by (try simp at hc) <;> omega))) (fun _ => rfl)) rfl ?_ | refine lw rfl rfl (lop_no (v := .bool false)) rfl ?_); exact k.h) : P := h ⟨k⟩
theorem z67 {P Q : Prop} (k : Q) (h : Hold Q → P := by intro k; (first | refine ln rfl rfl rfl rfl ?_ | refine lg rfl rfl (lop_not (by first | exact W rfl id | exact E rfl)) rfl ?_); exact k.h) : P := h ⟨k⟩
theorem z68 {P Q : Prop} (k : Q) (h : Hold Q → P := by intro k; (first | refine lo (lop_pick_t (E rfl) (by first | exact W rfl (by simp) | exact E rfl)) rfl ?_ | refine lo (lop_pick_f (E rfl) (E rfl)) rfl ?_ | refine lo (lop_pick (E rfl) (by first | exact W rfl (by simp) | exact E rfl) (E rfl)) rfl ?_); exact k.h) : P := h ⟨k⟩
theorem z69 {P Q : Prop} (k : Q) (h : Hold Q → P := by intro k; (first | refine ln rfl rfl rfl rfl ?_ | refine lg rfl rfl (lop_lss (W rfl id) (E rfl)) rfl ?_); exact k.h) : P := h ⟨k⟩
theorem z70 {P Q : Prop} (k : Q) (h : Hold Q → P := by intro k; (first | refine ln rfl rfl rfl rfl ?_ | refine lg rfl rfl (lop_eql (W rfl id) (W rfl id)) rfl ?_); exact k.h) : P := h ⟨k⟩
theorem z71 {P Q : Prop} (k : Q) (h : Hold Q → P := by intro k; (first | refine ln rfl rfl rfl rfl ?_ | refine lg rfl rfl (lop_index_ro (W rfl id) (W rfl id) (fun hc => by (try simp at hc) <;> (simp only [List.length_map]; omega))) rfl ?_ | refine lg rfl rfl (lop_index_own0 (W rfl id) sgT (W rfl id) (fun hc => by (try simp at hc) <;> omega)) rfl ?_ | refine lg rfl rfl (lop_index_own (W rfl id) sgT (W rfl id) (fun hc => by (try simp at hc) <;> omega)) rfl ?_); exact k.h) : P := h ⟨k⟩
theorem z72 {P Q : Prop} (k : Q) (h : Hold Q → P := by intro k; (first | refine ln rfl rfl rfl rfl ?_ | refine lg rfl rfl (lop_load_el (W rfl id) rfl (fun hc => by first | rfl | exact get_map (by assumption) | assumption | exact get_map (at_bang (by (try simp at hc) <;> omega))) (fun _ => rfl)) rfl ?_ | refine lg rfl rfl (lop_load_ow (W rfl id) rfl sgT (fun hc => by first | rfl | exact get_map (by assumption) | assumption | exact get_map (at_bang (by (try simp at hc) <;> omega))) (fun _ => rfl)) rfl ?_); exact k.h) : P := h ⟨k⟩
theorem z73 {P Q : Prop} (k : Q) (h : Hold Q → P := by intro k; (first | refine dlo rfl (lop_field_ptr (E rfl) rfl (by decide)) rfl ?_ | refine dlo rfl (lop_field_el (E rfl) rfl (by decide)) rfl ?_); exact k.h) : P := h ⟨k⟩
theorem z74 {P Q : Prop} (k : Q) (h : Hold Q → P := by intro k; (first | refine dlo rfl (lop_load_ptr (E rfl) rfl sgT (fun _ => rfl)) rfl ?_ | refine dlo rfl (lop_load_ptr (E rfl) rfl sgT (fun _ => by assumption)) rfl ?_ | refine dlo rfl (lop_load_el (E rfl) rfl (fun hc => by first | rfl | exact get_map (by assumption) | assumption | exact get_map (at_bang (by omega))) (fun _ => rfl)) rfl ?_); exact k.h) : P := h ⟨k⟩
theorem z75 {P Q : Prop} (k : Q) (h : Hold Q → P := by intro k; (first | refine dlo rfl (lop_conv_in (E rfl) (wrap_u64_of (by omega) (by omega))) rfl ?_ | refine dlo rfl (lop_conv (E rfl)) rfl ?_); exact k.h) : P := h ⟨k⟩
theorem z76 {P Q : Prop} (k : Q) (h : Hold Q → P := by intro k; (first | refine lo (lop_nilCheck (E rfl) (.inl ⟨_, _, rfl⟩)) rfl ?_ | refine lo (lop_nilCheck (E rfl) (.inr (.inl ⟨_, _, _, rfl⟩))) rfl ?_ | refine lo (lop_nilCheck (E rfl) (.inr (.inr ⟨_, _, _, _, rfl⟩))) rfl ?_); exact k.h) : P := h ⟨k⟩
theorem z77 {P Q : Prop} (k : Q) (h : Hold Q → P := by intro k; (first | refine dlo rfl (lop_nilCheck (E rfl) (.inl ⟨_, _, rfl⟩)) rfl ?_ | refine dlo rfl (lop_nilCheck (E rfl) (.inr (.inl ⟨_, _, _, rfl⟩))) rfl ?_ | refine dlo rfl (lop_nilCheck (E rfl) (.inr (.inr ⟨_, _, _, _, rfl⟩))) rfl ?_); exact k.h) : P := h ⟨k⟩
theorem z78 {P Q : Prop} (k : Q) (h : Hold Q → P := by intro k; (first | refine dlo rfl (lop_len_map (E rfl)) rfl ?_ | refine dlo rfl (lop_len_ro (E rfl)) rfl ?_ | refine dlo rfl (lop_len_own (E rfl)) rfl ?_); exact k.h) : P := h ⟨k⟩
theorem z79 {P Q : Prop} (k : Q) (h : Hold Q → P := by intro k; (refine dlo rfl (lop_eql (E rfl) (E rfl)) rfl ?_); exact k.h) : P := h ⟨k⟩
theorem z80 {P Q : Prop} (k : Q) (h : Hold Q → P := by intro k; (first | refine ln rfl rfl rfl rfl ?_ | refine lg rfl rfl (lop_conv_in (W rfl id) (wrap_i64_of (by omega) (by omega))) rfl ?_ | refine lg rfl rfl (lop_conv (W rfl id)) rfl ?_); exact k.h) : P := h ⟨k⟩
theorem z81 {P Q : Prop} (k : Q) (h : Hold Q → P := by intro k; (first | refine ln rfl rfl rfl rfl ?_ | refine lg rfl rfl (lop_gtr (W rfl id) (W rfl id)) rfl ?_); exact k.h) : P := h ⟨k⟩
theorem z82 {P Q : Prop} (k : Q) (h : Hold Q → P := by intro k; (first | refine dlo rfl (lop_sub64 (E rfl) (E rfl) (by omega) (by omega)) rfl ?_ | refine dlo rfl (lop_sub (E rfl) (E rfl)) rfl ?_); exact k.h) : P := h ⟨k⟩
theorem z83 {P Q : Prop} (k : Q) (h : Hold Q → P := by intro k; (first | refine dlo rfl (lop_conv_in (E rfl) (wrap_i64_of (by omega) (by omega))) rfl ?_ | refine dlo rfl (lop_conv (E rfl)) rfl ?_); exact k.h) : P := h ⟨k⟩
theorem z84 {P Q : Prop} (k : Q) (h : Hold Q → P := by intro k; (first | refine dlo rfl (lop_slice_ro (E rfl) (OB.some (E rfl) (fun _ => by first | rfl | exact (Int.toNat_of_nonneg (by omega)).symm)) OB.none (fun _ => by first | (simp only [List.length_map]; omega) | omega)) rfl ?_ | refine dlo rfl (lop_slice_own (E rfl) sgT (OB.some (E rfl) (fun _ => by first | rfl | exact (Int.toNat_of_nonneg (by omega)).symm)) OB.none (fun _ => by first | (simp only [List.length_map]; omega) | omega)) rfl ?_); exact k.h) : P := h ⟨k⟩
theorem z85 {P Q : Prop} (k : Q) (h : Hold Q → P := by intro k; (refine dlo rfl (lop_extract (E rfl) rfl) rfl ?_); exact k.h) : P := h ⟨k⟩
theorem z86 {P Q : Prop} (k : Q) (h : Hold Q → P := by intro k; (first | refine dln rfl rfl rfl rfl rfl ?_ | refine dlg rfl rfl rfl (lop_nilCheck (W rfl id) (.inl ⟨_, _, rfl⟩)) rfl ?_ | refine dlg rfl rfl rfl (lop_nilCheck (W rfl id) (.inr (.inl ⟨_, _, _, rfl⟩))) rfl ?_ | refine dlg rfl rfl rfl (lop_nilCheck (W rfl id) (.inr (.inr ⟨_, _, _, _, rfl⟩))) rfl ?_); exact k.h) : P := h ⟨k⟩
theorem z87 {P Q : Prop} (k : Q) (h : Hold Q → P := by intro k; (first | refine dln rfl rfl rfl rfl rfl ?_ | refine dlg rfl rfl rfl (lop_field_ptr (W rfl id) rfl (by decide)) rfl ?_ | refine dlg rfl rfl rfl (lop_field_el (W rfl id) rfl (by decide)) rfl ?_); exact k.h) : P := h ⟨k⟩
theorem z88 {P Q : Prop} (k : Q) (h : Hold Q → P := by intro k; (first | refine dln rfl rfl rfl rfl rfl ?_ | refine dlg rfl rfl rfl (lop_load_ptr (W rfl id) rfl sgT (fun _ => rfl)) rfl ?_ | refine dlg rfl rfl rfl (lop_load_ptr (W rfl id) rfl sgT (fun _ => by assumption)) rfl ?_ | refine dlg rfl rfl rfl (lop_load_el (W rfl id) rfl (fun hc => by first | rfl | exact get_map (by assumption) | assumption | exact get_map (at_bang (by (try simp at hc) <;> omega))) (fun _ => rfl)) rfl ?_); exact k.h) : P := h ⟨k⟩
theorem z89 {P Q : Prop} (k : Q) (h : Hold Q → P := by intro k; (first | refine dln rfl rfl rfl rfl rfl ?_ | refine dlg rfl rfl rfl (lop_len_map (W rfl id)) rfl ?_ | refine dlg rfl rfl rfl (lop_len_ro (W rfl id)) rfl ?_ | refine dlg rfl rfl rfl (lop_len_own (W rfl id)) rfl ?_); exact k.h) : P := h ⟨k⟩
theorem z90 {P Q : Prop} (k : Q) (h : Hold Q → P := by intro k; (first | refine dln rfl rfl rfl rfl rfl ?_ | refine dlg rfl rfl rfl (lop_geq (W rfl id) (W rfl id)) rfl ?_); exact k.h) : P := h ⟨k⟩
theorem z91 {P Q : Prop} (k : Q) (h : Hold Q → P := by intro k; (first | refine ln rfl rfl rfl rfl ?_ | refine lg rfl rfl (lop_nilCheck (W rfl id) (.inl ⟨_, _, rfl⟩)) rfl ?_ | refine lg rfl rfl (lop_nilCheck (W rfl id) (.inr (.inl ⟨_, _, _, rfl⟩))) rfl ?_ | refine lg rfl rfl (lop_nilCheck (W rfl id) (.inr (.inr ⟨_, _, _, _, rfl⟩))) rfl ?_); exact k.h) : P := h ⟨k⟩
theorem z92 {P Q : Prop} (k : Q) (h : Hold Q → P := by intro k; (first | refine ln rfl rfl rfl rfl ?_ | refine lg rfl rfl (lop_field_ptr (W rfl id) rfl (by decide)) rfl ?_ | refine lg rfl rfl (lop_field_el (W rfl id) rfl (by decide)) rfl ?_); exact k.h) : P := h ⟨k⟩
theorem z93 {P Q : Prop} (k : Q) (h : Hold Q → P := by intro k; (refine lo (lop_str (by repeat (first | exact PEvs.nil | (apply PEvs.cons; first | exact W rfl id | exact E rfl))) (by (exact zcT)) (by repeat (first | exact Fill.nil | (apply Fill.cons; rfl; rfl; rfl; (exact putT_))))) rfl ?_); exact k.h) : P := h ⟨k⟩
theorem z94 {P Q : Prop} (k : Q) (h : Hold Q → P := by intro k; (refine dlo rfl (lop_str (by repeat (first | exact PEvs.nil | (apply PEvs.cons; first | exact W rfl id | exact E rfl))) (by (exact zcT)) (by repeat (first | exact Fill.nil | (apply Fill.cons; rfl; rfl; rfl; (exact putT_))))) rfl ?_); exact k.h) : P := h ⟨k⟩
theorem z95 {P Q : Prop} (k : Q) (h : Hold Q → P := by intro k; (apply dstp; rfl; infer_instance; rfl; rfl; rfl; rfl; (exact sputT); (exact hbtT)); exact k.h) : P := h ⟨k⟩
theorem z96 {P Q : Prop} (k : Q) (h : Hold Q → P := by intro k; (first | refine dlo rfl (lop_load_ptr_agg (E rfl) rfl sgT (fun _ => Nat.le_of_ble_eq_true rfl)) rfl ?_ | refine dlo rfl (lop_load_el_agg (E rfl) rfl (fun hc => by first | rfl | exact get_map (by assumption) | assumption | exact get_map (at_bang (by omega))) (fun _ => Nat.le_of_ble_eq_true rfl)) rfl ?_); exact k.h) : P := h ⟨k⟩
theorem z97 {P Q : Prop} (k : Q) (h : Hold Q → P := by intro k; (apply dbs; rfl; infer_instance; infer_instance; (exact aevtT); rfl; rfl; rfl; rfl; (exact zcT); rfl); exact k.h) : P := h ⟨k⟩
theorem z98 {P Q : Prop} (k : Q) (h : Hold Q → P := by intro k; (first | refine ln rfl rfl rfl rfl ?_ | refine lg rfl rfl (lop_eql (by first | exact W rfl id | exact E rfl) (E rfl)) rfl ?_); exact k.h) : P := h ⟨k⟩
theorem z99 {P Q : Prop} (k : Q) (h : Hold Q → P := by intro k; (first | refine lo (lop_load_ptr_agg (E rfl) rfl sgT (fun _ => Nat.le_of_ble_eq_true rfl)) rfl ?_ | refine lo (lop_load_el_agg (E rfl) rfl (fun hc => by first | rfl | exact get_map (by assumption) | assumption | exact get_map (at_bang (by omega))) (fun _ => Nat.le_of_ble_eq_true rfl)) rfl ?_); exact k.h) : P := h ⟨k⟩
theorem z100 {P Q : Prop} (k : Q) (h : Hold Q → P := by intro k; (first | refine lo (lop_slice_ro (E rfl) OB.none (OB.some (E rfl) (fun _ => by first | rfl | exact (Int.toNat_of_nonneg (by omega)).symm)) (fun _ => by first | (simp only [List.length_map]; omega) | omega)) rfl ?_ | refine lo (lop_slice_own (E rfl) sgT OB.none (OB.some (E rfl) (fun _ => by first | rfl | exact (Int.toNat_of_nonneg (by omega)).symm)) (fun _ => by first | (simp only [List.length_map]; omega) | omega)) rfl ?_); exact k.h) : P := h ⟨k⟩
theorem z101 {P Q : Prop} (k : Q) (h : Hold Q → P := by intro k; (refine gy rfl rfl ?_; refine lo (lop_move (E rfl)) rfl ?_); exact k.h) : P := h ⟨k⟩
theorem z102 {P Q : Prop} (k : Q) (h : Hold Q → P := by intro k; (refine gy rfl rfl ?_; refine lo (lop_eql (by first | exact E rfl | exact W rfl id) (E rfl)) rfl ?_); exact k.h) : P := h ⟨k⟩
theorem z103 {P Q : Prop} (k : Q) (h : Hold Q → P := by intro k; (first | refine lo (lop_pick_t (E rfl) (by first | exact E rfl | exact W rfl (by simp))) rfl ?_ | refine lo (lop_pick_f (E rfl) (E rfl)) rfl ?_ | refine lo (lop_pick (E rfl) (by first | exact E rfl | exact W rfl (by simp)) (E rfl)) rfl ?_); exact k.h) : P := h ⟨k⟩
theorem z104 {P Q : Prop} (k : Q) (h : Hold Q → P := by intro k; (refine gy rfl rfl ?_; first | refine lo (lop_load_ptr_agg (E rfl) rfl sgT (fun _ => Nat.le_of_ble_eq_true rfl)) rfl ?_ | refine lo (lop_load_el_agg (E rfl) rfl (fun hc => by first | rfl | exact get_map (by assumption) | assumption | exact get_map (at_bang (by omega))) (fun _ => Nat.le_of_ble_eq_true rfl)) rfl ?_); exact k.h) : P := h ⟨k⟩
theorem z105 {P Q : Prop} (k : Q) (h : Hold Q → P := by intro k; (refine gy rfl rfl ?_; refine lo (lop_str (by repeat (first | exact PEvs.nil | (apply PEvs.cons; first | exact W rfl id | exact E rfl))) (by (exact zcT)) (by repeat (first | exact Fill.nil | (apply Fill.cons; rfl; rfl; rfl; (exact putT_))))) rfl ?_); exact k.h) : P := h ⟨k⟩
theorem z106 {P Q : Prop} (k : Q) (h : Hold Q → P := by intro k; (refine gy rfl rfl ?_; refine lo (lop_not (by first | exact E rfl | exact W rfl id)) rfl ?_); exact k.h) : P := h ⟨k⟩
theorem z107 {P Q : Prop} (k : Q) (h : Hold Q → P := by intro k; (refine gy rfl rfl ?_; first | refine lo (lop_conv_in (by first | exact E rfl | exact W rfl id) (wrap_u8_of (by omega) (by omega))) rfl ?_ | refine lo (lop_conv (by first | exact E rfl | exact W rfl id)) rfl ?_); exact k.h) : P := h ⟨k⟩
theorem z108 {P Q : Prop} (k : Q) (h : Hold Q → P := by intro k; (refine gy rfl rfl ?_; apply bs; (exact aevtT); rfl; rfl; rfl; rfl; (exact zcT); rfl); exact k.h) : P := h ⟨k⟩
end Go.Proofs.Ytkjfflabapeidaa
/-
  The symbolic layer: calls and appends in their short forms. No program is named here.
-/
namespace Go.Proofs.Ytkjfflabapeidaa
open Go.RowKit Go.ChangeShapes Go.WideShapes Go.ChangeAt Go.Deep
set_option linter.unusedSimpArgs false
set_option linter.unusedVariables false

/-- an encoding that lends nothing -/
class NoE {α : Type} (enc : α → List AV) : Prop where
  no : ∀ a, ∀ x ∈ enc a, NoF x
theorem enof_map {α : Type} {enc : α → List AV} [h : NoE enc] {e : TypeId} {sz : Nat} {l : List α} : ENoF (.arr e sz (l.map enc)) := by
  intro y hy x hx
  obtain ⟨a, -, rfl⟩ := List.mem_map.1 hy
  exact h.no a x hx
theorem enof_nil {e : TypeId} {sz : Nat} : ENoF (.arr e sz []) := by intro y hy; simp at hy
theorem enof_box {bt : TypeId} {cs : List AV} (h : ∀ x ∈ cs, NoF x) : ENoF (.box bt cs) := h
instance : NoE encU := ⟨fun a x hx => by simp [encU] at hx; subst hx; exact NoF.int⟩
theorem noT {P : Prop} (h : P := by
    intro x σ' h
    repeat (refine Exists.elim h ?_; clear h; intro _ h)
    first | (obtain ⟨rfl, rfl⟩ := h) | (obtain ⟨_, rfl, rfl⟩ := h) | (obtain ⟨_, _, rfl, rfl⟩ := h)
    refine ⟨nofT, ?_⟩
    intro p hp
    simp only [List.mem_cons, List.not_mem_nil, or_false] at hp
    repeat' (first | (rcases hp with rfl | hp) | (cases hp; done))
    all_goals first | exact enof_map | exact enof_nil | exact enof_box nofT) : P := h

section
variable {P : Program} {n : Nat} {ops : Array Oper} {rest : List Oper} {fr : Fr} {σ : Sto} {K : ASt → Prop} {op : Op} {ty t t' : TypeId} {pos : String} {af : Array Edge} {x y : Operand} {d : Nat} {f : FuncId} {xs : List Operand} {ats : Array TypeId} {args : List AV}
theorem puA {v : AV} (hf : ∀ args w, (callFunc f args).run P w = .ok (.enter f args) w) (h : SCall P f args [] (fun x σ' => x = v ∧ σ' = [])) (hd : Nat.ble (d + 1) n = true)
    (hargs : ArgsIf ⟨fr, σ⟩ true (σ.map (·.1)) xs args) (hno : NoF v) (hK : RS P n ops rest ⟨(d, v) :: fr, σ⟩ K) : RS P n ops (⟨some d, .call { callee := .value (.func f), args := xs.toArray, argTypes := ats }, ty, pos, af, none⟩ :: rest) ⟨fr, σ⟩ K := pu _ hf h hd hargs hno hK
theorem pugA {j dj : Nat} {want b : Bool} {v : AV} (hj : (ops[j]?).bind (·.dst) = some dj) (hb : fget fr dj = some (.bool b)) (hf : ∀ args w, (callFunc f args).run P w = .ok (.enter f args) w)
    (h : (b == want) = true → SCall P f args [] (fun x σ' => x = v ∧ σ' = [])) (hd : Nat.ble (d + 1) n = true) (hargs : ArgsIf ⟨fr, σ⟩ (b == want) (σ.map (·.1)) xs args) (hno : NoF v) (hK : RS P n ops rest ⟨(d, .when (b == want) v) :: fr, σ⟩ K) :
    RS P n ops (⟨some d, .call { callee := .value (.func f), args := xs.toArray, argTypes := ats }, ty, pos, af, some (j, want)⟩ :: rest) ⟨fr, σ⟩ K := pug _ hj hb hf h hd hargs hno hK
theorem puwA {j dj : Nat} {want b c0 : Bool} {v : AV} (hj : (ops[j]?).bind (·.dst) = some dj) (hb : fget fr dj = some (.when c0 (.bool b))) (hf : ∀ args w, (callFunc f args).run P w = .ok (.enter f args) w)
    (h : (c0 && (b == want)) = true → SCall P f args [] (fun x σ' => x = v ∧ σ' = [])) (hd : Nat.ble (d + 1) n = true) (hargs : ArgsIf ⟨fr, σ⟩ (c0 && (b == want)) (σ.map (·.1)) xs args) (hno : NoF v) (hK : RS P n ops rest ⟨(d, .when (c0 && (b == want)) v) :: fr, σ⟩ K) :
    RS P n ops (⟨some d, .call { callee := .value (.func f), args := xs.toArray, argTypes := ats }, ty, pos, af, some (j, want)⟩ :: rest) ⟨fr, σ⟩ K := puw _ hj hb hf h hd hargs hno hK
theorem clA {R : AV → Sto → Prop} (hf : ∀ args w, (callFunc f args).run P w = .ok (.enter f args) w) (h : SCall P f args [] R) (hd : Nat.ble (d + 1) n = true)
    (hargs : ArgsBor ⟨fr, σ⟩ (σ.map (·.1)) xs args) (hno : ∀ x σ', R x σ' → NoF x ∧ ∀ p ∈ σ', ENoF p.2) (hK : ∀ x σ', R x σ' → (∀ p ∈ σ', Fresh p.1 σ) → RS P n ops rest ⟨(d, x) :: fr, σ' ++ σ⟩ K) :
    RS P n ops (⟨some d, .call { callee := .value (.func f), args := xs.toArray, argTypes := ats }, ty, pos, af, none⟩ :: rest) ⟨fr, σ⟩ K := cl _ hf h hd hargs hno hK
/-- append onto an own row, all of it -/
theorem srcT {P : Prop} (h : P := by (first | exact .inl ⟨_, rfl⟩ | exact .inr (.inr ⟨_, _, _, _, _, rfl, sgT, by simp, rfl⟩) | exact .inr (.inl ⟨_, _, rfl, rfl⟩))) : P := h
theorem newT {P : Prop} (h : P := by (first | rfl | (simp; done) | (simp only [List.map_append, List.drop_zero]; rfl) |  (simp only [List.drop_zero, List.map_append, List.map_cons, List.map_nil]; congr 1; exact List.take_of_length_le (by simp)) | (simp only [List.drop_zero, List.map_append]; congr 1; exact List.take_of_length_le (by first | (simp; done) | omega)))) : P := h
theorem lenT {P : Prop} (h : P := by (first | rfl | omega | (simp; done) | (simp; omega) | (simp [maxLen]; omega))) : P := h
theorem apA {e : TypeId} [Ty P t (.slice e)] {sz by_ : Nat} {zv : Value} [Tz P e sz by_ zv] {r len : Nat} {es ys : List (List AV)} (es' : List (List AV)) (len' : Nat)
    (hK : ∀ r', Fresh r' (sdrop [r] σ) → ∃ σ', SSet σ r (.arr e sz es) r' (.arr e sz es') σ' ∧ RS P n ops rest ⟨(d, .own r' 0 len') :: fr, σ'⟩ K)
    (hz : zv.cells.size = sz := by rfl) (hb : aev ⟨fr, σ⟩ x = some (.own r 0 len) := by rfl) (hg : sget σ r = some (.arr e sz es) := by exact sgT) (hlen : len = es.length := by exact lenT) (hy : Src ⟨fr, σ⟩ y sz ys := by exact srcT)
    (he : es ++ ys = es' := by exact newT) (hl' : len' = len + ys.length := by exact lenT) (hmax : len' ≤ maxLen := by (simp [maxLen]; try omega)) (hby : len' * by_ ≤ 140737488355328 := by (simp; try omega)) (hd : Nat.ble (d + 1) n = true := by rfl) :
    RS P n ops (⟨some d, .call { callee := .builtin .append, args := #[x, y], argTypes := #[t, t] }, ty, pos, af, none⟩ :: rest) ⟨fr, σ⟩ K := ap hz hb hg hlen hy he hl' hmax hby hd hK

/-- a row that a slot's value tells of is written by nobody from here on: the slot reads as x' -/
theorem sgo_fzv {j q : Nat} {v v' : AV} {e : Ent} {σ' : Sto} (hx : fget fr j = some v) (hd : SDel σ q e σ') (hb : Bor σ [q] v v') : SGo ⟨fr, σ⟩ ⟨(j, v') :: fr, σ'⟩ := by
  refine sgo_freeze [q] (fun i x' hi => ?_) (fun p hp => ?_)
  · simp only [fget] at hi
    split at hi
    · next h => subst h; obtain rfl := Option.some.inj hi; exact ⟨_, hx, hb⟩
    · exact ⟨x', hi, .refl _⟩
  · obtain ⟨h1, h2⟩ := hd.sub p hp
    exact ⟨by simpa using h2, p.2, h1, .refl _⟩
theorem fzv {j q : Nat} {v v' : AV} {e : Ent} {σ' : Sto} (hx : fget fr j = some v) (hd : SDel σ q e σ') (hb : Bor σ [q] v v') (hK : RS P n ops rest ⟨(j, v') :: fr, σ'⟩ K) : RS P n ops rest ⟨fr, σ⟩ K := rs_go (sgo_fzv hx hd hb) hK
theorem fzvs {ks : List Nat} {c : Code} {Q : Exit → ASt → Prop} {j q : Nat} {v v' : AV} {e : Ent} {σ' : Sto} (hx : fget fr j = some v) (hd : SDel σ q e σ') (hb : Bor σ [q] v v') (hK : SW P n ks c ⟨(j, v') :: fr, σ'⟩ Q) : SW P n ks c ⟨fr, σ⟩ Q := sw_go (sgo_fzv hx hd hb) hK
/-- an own row, all of it, as a list that is read -/
theorem bor_own {q len sz : Nat} {et : TypeId} {es : List (List AV)} (hg : sget σ q = some (.arr et sz es)) (hl : len = es.length) : Bor σ [q] (.own q 0 len) (.ro sz es .any) :=
  bown List.mem_cons_self hg (by omega) (by subst hl; simp)

/-! ### the same in a drawn region -/
variable {listed : Array Bool} {todo : List (Nat × Bool)} {held : List (Nat × List Nat)} {i : Nat}
theorem dpuA {v : AV} (hi : ops[i]? = some ⟨some d, .call { callee := .value (.func f), args := xs.toArray, argTypes := ats }, ty, pos, af, none⟩) (hf : ∀ args w, (callFunc f args).run P w = .ok (.enter f args) w) (h : SCall P f args [] (fun x σ' => x = v ∧ σ' = [])) (hd : Nat.ble (d + 1) n = true)
    (hargs : ArgsIf ⟨fr, σ⟩ true (σ.map (·.1)) xs args) (hno : NoF v) (hK : RD P n ops (listed.setIfInBounds i true) todo held ⟨(d, v) :: fr, σ⟩ K) : RD P n ops listed ((i, false) :: todo) held ⟨fr, σ⟩ K := dpu _ hi hf h hd hargs hno hK
theorem dpugA {j dj : Nat} {want b : Bool} {v : AV} (hi : ops[i]? = some ⟨some d, .call { callee := .value (.func f), args := xs.toArray, argTypes := ats }, ty, pos, af, some (j, want)⟩) (hj : (ops[j]?).bind (·.dst) = some dj) (hb : fget fr dj = some (.bool b)) (hf : ∀ args w, (callFunc f args).run P w = .ok (.enter f args) w)
    (h : (b == want) = true → SCall P f args [] (fun x σ' => x = v ∧ σ' = [])) (hd : Nat.ble (d + 1) n = true) (hargs : ArgsIf ⟨fr, σ⟩ (b == want) (σ.map (·.1)) xs args) (hno : NoF v) (hK : RD P n ops (listed.setIfInBounds i true) todo held ⟨(d, .when (b == want) v) :: fr, σ⟩ K) :
    RD P n ops listed ((i, false) :: todo) held ⟨fr, σ⟩ K := dpug _ hi hj hb hf h hd hargs hno hK
theorem dpuyA {j dj : Nat} {want : Bool} {v : AV} (hi : ops[i]? = some ⟨some d, .call { callee := .value (.func f), args := xs.toArray, argTypes := ats }, ty, pos, af, some (j, want)⟩) (hj : (ops[j]?).bind (·.dst) = some dj) (hb : fget fr dj = some (.bool want)) (hf : ∀ args w, (callFunc f args).run P w = .ok (.enter f args) w) (h : SCall P f args [] (fun x σ' => x = v ∧ σ' = [])) (hd : Nat.ble (d + 1) n = true)
    (hargs : ArgsIf ⟨fr, σ⟩ true (σ.map (·.1)) xs args) (hno : NoF v) (hK : RD P n ops (listed.setIfInBounds i true) todo held ⟨(d, v) :: fr, σ⟩ K) : RD P n ops listed ((i, false) :: todo) held ⟨fr, σ⟩ K := rd_heavy_yes (s := ⟨fr, σ⟩) hi hj hb (hop_pure _ hf h (lt_ble hd) hargs hno hK) (.inl rfl)
/-- a loud operation that is left out -/
theorem dhn {j dj : Nat} {want b : Bool} (hi : ops[i]? = some ⟨some d, op, ty, pos, af, some (j, want)⟩) (hj : (ops[j]?).bind (·.dst) = some dj) (hb : fget fr dj = some (.bool b)) (hne : (b == want) = false) (hd : Nat.ble (d + 1) n = true)
    (hK : RD P n ops (listed.setIfInBounds i true) todo held ⟨(d, .when false (.bool false)) :: fr, σ⟩ K) : RD P n ops listed ((i, false) :: todo) held ⟨fr, σ⟩ K := rd_heavy_no (s := ⟨fr, σ⟩) hi hj hb hne hd hK
theorem dclA {R : AV → Sto → Prop} (hi : ops[i]? = some ⟨some d, .call { callee := .value (.func f), args := xs.toArray, argTypes := ats }, ty, pos, af, none⟩) (hf : ∀ args w, (callFunc f args).run P w = .ok (.enter f args) w) (h : SCall P f args [] R) (hd : Nat.ble (d + 1) n = true)
    (hargs : ArgsBor ⟨fr, σ⟩ (σ.map (·.1)) xs args) (hno : ∀ x σ', R x σ' → NoF x ∧ ∀ p ∈ σ', ENoF p.2) (hK : ∀ x σ', R x σ' → (∀ p ∈ σ', Fresh p.1 σ) → RD P n ops (listed.setIfInBounds i true) todo held ⟨(d, x) :: fr, σ' ++ σ⟩ K) :
    RD P n ops listed ((i, false) :: todo) held ⟨fr, σ⟩ K := dcl _ hi hf h hd hargs hno hK
theorem dclyA {j dj : Nat} {want : Bool} {R : AV → Sto → Prop} (hi : ops[i]? = some ⟨some d, .call { callee := .value (.func f), args := xs.toArray, argTypes := ats }, ty, pos, af, some (j, want)⟩) (hj : (ops[j]?).bind (·.dst) = some dj) (hb : fget fr dj = some (.bool want)) (hf : ∀ args w, (callFunc f args).run P w = .ok (.enter f args) w) (h : SCall P f args [] R) (hd : Nat.ble (d + 1) n = true)
    (hargs : ArgsBor ⟨fr, σ⟩ (σ.map (·.1)) xs args) (hno : ∀ x σ', R x σ' → NoF x ∧ ∀ p ∈ σ', ENoF p.2) (hK : ∀ x σ', R x σ' → (∀ p ∈ σ', Fresh p.1 σ) → RD P n ops (listed.setIfInBounds i true) todo held ⟨(d, x) :: fr, σ' ++ σ⟩ K) :
    RD P n ops listed ((i, false) :: todo) held ⟨fr, σ⟩ K := rd_heavy_yes (s := ⟨fr, σ⟩) hi hj hb (hop_call_lent _ hf h (lt_ble hd) hargs hno hK) (.inl rfl)
theorem dapA {e : TypeId} {sz by_ : Nat} {zv : Value} {r len : Nat} {es ys : List (List AV)} (hi : ops[i]? = some ⟨some d, .call { callee := .builtin .append, args := #[x, y], argTypes := #[t, t] }, ty, pos, af, none⟩) (es' : List (List AV)) (len' : Nat)
    (hK : ∀ r', Fresh r' (sdrop [r] σ) → ∃ σ', SSet σ r (.arr e sz es) r' (.arr e sz es') σ' ∧ RD P n ops (listed.setIfInBounds i true) todo held ⟨(d, .own r' 0 len') :: fr, σ'⟩ K)
    (i1 : Ty P t (.slice e) := by infer_instance) (i2 : Tz P e sz by_ zv := by infer_instance) (hz : zv.cells.size = sz := by rfl) (hx : aev ⟨fr, σ⟩ x = some (.own r 0 len) := by rfl) (hg : sget σ r = some (.arr e sz es) := by exact sgT) (hlen : len = es.length := by exact lenT) (hy : Src ⟨fr, σ⟩ y sz ys := by exact srcT)
    (he : es ++ ys = es' := by exact newT) (hl' : len' = len + ys.length := by exact lenT) (hmax : len' ≤ maxLen := by (simp [maxLen]; try omega)) (hby : len' * by_ ≤ 140737488355328 := by (simp; try omega)) (hd : Nat.ble (d + 1) n = true := by rfl) (hb : HB ops i (σ.map (·.1)) [r] held := by exact hbtT) :
    RD P n ops listed ((i, false) :: todo) held ⟨fr, σ⟩ K := dap hi i1 i2 hz hx hg hlen hy he hl' hmax hby hd hb hK
end
end Go.Proofs.Ytkjfflabapeidaa
/-
  The symbolic layer: appends onto nil, bytes as text. No program is named here.
-/
namespace Go.Proofs.Ytkjfflabapeidaa
open Go.RowKit Go.ChangeShapes Go.WideShapes Go.ChangeAt Go.Deep
set_option linter.unusedSimpArgs false
set_option linter.unusedVariables false

theorem oldT {P : Prop} (h : P := by (first | rfl | (simp; done) | (rw [List.drop_zero]; exact List.take_of_length_le (by first | (simp; done) | (simp; omega) | omega)) | (simp only [List.map_take, List.map_drop, List.drop_zero]; done))) : P := h
theorem take_all {α : Type} {l : List α} {n : Nat} (h : l.length ≤ n) : (l.drop 0).take n = l := by rw [List.drop_zero]; exact List.take_of_length_le h
theorem textT {P : Prop} (h : P := by (first | exact take_all (by first | (simp; done) | (simp; omega) | omega) | rfl)) : P := h
section
variable {P : Program} {n : Nat} {ops : Array Oper} {rest : List Oper} {fr : Fr} {σ : Sto} {K : ASt → Prop} {op : Op} {ty t t' : TypeId} {pos : String} {af : Array Edge} {x y : Operand} {d : Nat}
theorem anA {e : TypeId} [Ty P t (.slice e)] {sz by_ : Nat} {zv : Value} [Tz P e sz by_ zv] {z : Nat} {k : Rk} {ys : List (List AV)} (es' : List (List AV)) (len' : Nat)
    (hK : ∀ r, Fresh r σ → RS P n ops rest ⟨(d, .own r 0 len') :: fr, (r, .arr e sz es') :: σ⟩ K)
    (hz : zv.cells.size = sz := by rfl) (h0 : Nat.ble 1 sz = true := by rfl) (hb : aev ⟨fr, σ⟩ x = some (.ro z [] k) := by rfl) (hk : k ≠ .any := by decide) (hy : Src ⟨fr, σ⟩ y sz ys := by exact srcT) (he : ys = es' := by exact oldT) (hl : len' = ys.length := by exact lenT) (hby : len' * by_ ≤ 140737488355328 := by (simp; try omega)) (hd : Nat.ble (d + 1) n = true := by rfl) :
    RS P n ops (⟨some d, .call { callee := .builtin .append, args := #[x, y], argTypes := #[t, t] }, ty, pos, af, none⟩ :: rest) ⟨fr, σ⟩ K := by
  subst he hl
  exact rs_heavy (hop_append_new (Nat.le_of_ble_eq_true h0) hz hb hk hy hby (lt_ble hd) hK)
variable {listed : Array Bool} {todo : List (Nat × Bool)} {held : List (Nat × List Nat)} {i : Nat}
theorem danA {e : TypeId} {sz by_ : Nat} {zv : Value} {z : Nat} {k : Rk} {ys : List (List AV)} (hi : ops[i]? = some ⟨some d, .call { callee := .builtin .append, args := #[x, y], argTypes := #[t, t] }, ty, pos, af, none⟩) (es' : List (List AV)) (len' : Nat)
    (hK : ∀ r, Fresh r σ → RD P n ops (listed.setIfInBounds i true) todo held ⟨(d, .own r 0 len') :: fr, (r, .arr e sz es') :: σ⟩ K)
    (i1 : Ty P t (.slice e) := by infer_instance) (i2 : Tz P e sz by_ zv := by infer_instance) (hz : zv.cells.size = sz := by rfl) (h0 : Nat.ble 1 sz = true := by rfl) (hb : aev ⟨fr, σ⟩ x = some (.ro z [] k) := by rfl) (hk : k ≠ .any := by decide) (hy : Src ⟨fr, σ⟩ y sz ys := by exact srcT) (he : ys = es' := by exact oldT) (hl : len' = ys.length := by exact lenT) (hby : len' * by_ ≤ 140737488355328 := by (simp; try omega)) (hd : Nat.ble (d + 1) n = true := by rfl) :
    RD P n ops listed ((i, false) :: todo) held ⟨fr, σ⟩ K := by
  subst he hl
  exact rd_new hi (hop_append_new (Nat.le_of_ble_eq_true h0) hz hb hk hy hby (lt_ble hd) hK)
end

/-- a row that a box tells of is written by nobody from here on -/
theorem sgo_fzb {fr : Fr} {σ σ1 σ' : Sto} {r q : Nat} {bt : TypeId} {cs cs' : List AV} {e : Ent} (hs : SSet σ r (.box bt cs) r (.box bt cs') σ1) (hd : SDel σ1 q e σ') (hb : BorL σ [q] cs cs') : SGo ⟨fr, σ⟩ ⟨fr, σ'⟩ := by
  refine sgo_freeze [q] (fun i x' hi => ⟨x', hi, .refl _⟩) (fun p hp => ?_)
  obtain ⟨h1, h2⟩ := hd.sub p hp
  refine ⟨by simpa using h2, ?_⟩
  rcases List.mem_cons.1 (hs.sub p h1) with rfl | h
  · exact ⟨_, sget_mem hs.get, .box (bagg hb)⟩
  · exact ⟨p.2, (mem_sdrop h).1, .refl _⟩

/-- a row that is told less of -/
theorem sgo_cut {fr : Fr} {σ σ' : Sto} {o : Nat} {e : TypeId} {sz : Nat} {es : List (List AV)} (k : Nat) (hs : SSet σ o (.arr e sz es) o (.arr e sz (es.take k)) σ') : SGo ⟨fr, σ⟩ ⟨fr, σ'⟩ := by
  intro M F N n a w hr
  have hmem : ∀ p ∈ σ', (∃ x, (p.1, x) ∈ σ) ∧ ER M F w p.1 p.2 := by
    intro p hp
    rcases List.mem_cons.1 (hs.sub p hp) with rfl | h
    · refine ⟨⟨_, sget_mem hs.get⟩, ?_⟩
      obtain ⟨h0, h1, h2⟩ := hr.st.ent _ (sget_mem hs.get)
      refine ⟨h0, fun x hx => h1 x (List.mem_of_mem_take hx), ?_⟩
      rcases h2 with ⟨h2, h3⟩ | ⟨g, c, vs, h2, h3, h4, h5, h6, h7⟩
      · exact .inl ⟨h2, by simp [h3]⟩
      · refine .inr ⟨g, c, vs, h2, h3, h4, by simp; omega, h6, fun i x j b u hi => ?_⟩
        rw [List.getElem?_take] at hi
        split at hi
        · exact h7 i x j b u hi
        · cases hi
    · exact ⟨⟨p.2, (mem_sdrop h).1⟩, hr.st.ent p (mem_sdrop h).1⟩
  exact ⟨M, F, N, ⟨hr.size, hr.defers, hr.fr, hr.st.retold hmem⟩, Ext.retold fun p hp => (hmem p hp).1⟩

/-! ### bytes as text -/
theorem strU_append (a b : List Nat) : strU a ++ strU b = strU (a ++ b) := by
  apply ByteArray.ext
  simp [strU]
theorem strU_size (a : List Nat) : (strU a).size = a.length := by simp [strU, ByteArray.size]
section
variable {P : Program} {ty t t' : TypeId} {s : ASt} {c : Bool} {x y : Operand}
theorem lop_text_own {e : TypeId} [Ty P t (.slice e)] [Ty P e (.int .u8)] [Ty P t' .string] {bs bs' : List Nat} {r off len : Nat} {et : TypeId} (h : Ev s c x (.own r off len)) (hg : sget s.σ r = some (.arr et 1 (bs.map encU)) := by exact sgT) (hle : off + len ≤ bs.length := by exact lenT) (hbs : (bs.drop off).take len = bs' := by exact textT) : Lop P (.convert t t' x) ty s c (.str (strU bs')) [r] := lop_bytes_own h hg hle hbs
theorem lop_tadd {a b : List Nat} (h : Ev s c x (.str (strU a))) (h' : Ev s c y (.str (strU b))) (hm : c = true → a.length + b.length ≤ maxLen := by (intro _; simp [maxLen]; omega)) : Lop P (.binOp .add t x y t') ty s c (.str (strU (a ++ b))) [] := by
  rw [← strU_append]
  exact lop_sadd h h' (by rw [strU_size, strU_size]; exact hm)
end
end Go.Proofs.Ytkjfflabapeidaa
