/-
  From the reading of an argument as data to its representation; the close of a statement 'true, and every argument as it was'. No program is named here.
-/
import Derived.Test.YtkjfflabapeidaaRep
import Derived.ChangeOld
namespace Go.Proofs.Ytkjfflabapeidaa
open Go.RowKit Go.ChangeShapes Go.WideShapes Go.ChangeAt Go.Deep
set_option linter.unusedSimpArgs false
set_option linter.unusedVariables false

/-- Whatever cells of type t are read: they represent some x of α. -/
def Rd (P : Program) (t : TypeId) (α : Type) [Rp α] : Prop :=
  ∀ (H : Type) (enc : TypeId × Value → H) (W : World) (fuel : Nat) (cs : List Value) (x : DataW H × List MemPlace), DataW.trod enc P W 0 (fun _ => true) true fuel t cs = some x → ∃ a : α, Rp.rep W (fun b => b < W.heap.size) cs a

theorem bd_of_wf {n : Int} (h : (Lit.int .i64 n).wf = true) : -9223372036854775808 ≤ n ∧ n ≤ 9223372036854775807 := by
  simp [Lit.wf, IntKind.min, IntKind.max, IntKind.signed, IntKind.bits] at h
  omega

theorem rd_int {P : Program} {t : TypeId} (ht : P.underlying t = some (.int .i64)) : Rd P t Int := by
  intro H enc W fuel cs x h
  obtain ⟨n, rfl, _, hw⟩ := DataW.trod_int ht h
  exact ⟨n, rfl, bd_of_wf hw⟩
theorem rd_bool {P : Program} {t : TypeId} (ht : P.underlying t = some .bool) : Rd P t Bool := by
  intro H enc W fuel cs x h
  obtain ⟨b, rfl, _⟩ := DataW.trod_bool ht h
  exact ⟨b, rfl⟩
theorem rd_string {P : Program} {t : TypeId} (ht : P.underlying t = some .string) : Rd P t ByteArray := by
  intro H enc W fuel cs x h
  obtain ⟨s, rfl, _, hm⟩ := DataW.trod_string ht h
  exact ⟨s, rfl, hm⟩
theorem u8_of_wf {n : Int} (h : (Lit.int .u8 n).wf = true) : ∃ u : UInt8, n = u.toNat := by
  have hb : 0 ≤ n ∧ n < 256 := by
    simp [Lit.wf, IntKind.min, IntKind.max, IntKind.signed, IntKind.bits] at h
    omega
  refine ⟨UInt8.ofNat n.toNat, ?_⟩
  rw [UInt8.toNat_ofNat_of_lt' (by show n.toNat < 256; omega)]
  omega
theorem rd_u8 {P : Program} {t : TypeId} (ht : P.underlying t = some (.int .u8)) : Rd P t UInt8 := by
  intro H enc W fuel cs x h
  obtain ⟨n, rfl, _, hw⟩ := DataW.trod_int ht h
  obtain ⟨u, rfl⟩ := u8_of_wf hw
  exact ⟨u, rfl⟩

theorem rd_slice {P : Program} {t e : TypeId} {α : Type} [Rp α] (ht : P.underlying t = some (.slice e)) (hs : P.cellsOf e = Rp.sz α) (hpos : 0 < Rp.sz α) (he : Rd P e α) : Rd P t (List α) := by
  intro H enc W fuel cs x h
  rcases open_slice ht h with ⟨rfl, _⟩ | ⟨a, len, cap, m, n, D, Pl, rfl, _, hl, hm, hmm, _, hi⟩
  · exact ⟨[], none, 0, rfl, Sl.nil_ _ _⟩
  · simp only [if_true] at hmm
    subst hmm
    have hex : ∀ i : Nat, ∃ y : Option α, i < len → ∃ z, y = some z ∧ ∃ b off us, a = ⟨b, off, none⟩ ∧ b < W.heap.size ∧ us.length = Rp.sz α ∧ (∀ j u, us[j]? = some u → W.cell? ⟨b, off + i * Rp.sz α + j, none⟩ = some u) ∧ Rp.rep W (fun b => b < W.heap.size) us z := by
      intro i
      by_cases hlt : i < len
      · obtain ⟨us, hc, htr⟩ := hi i (by omega)
        obtain ⟨z, hz⟩ := he H enc W n us _ htr
        obtain ⟨_, hul, hat⟩ := World.cells?_some hc
        rw [hs] at hul hat
        obtain ⟨b, off, spot⟩ := a
        have h0 := hat 0 hpos
        rw [List.getElem?_eq_getElem (by omega)] at h0
        have hspot : spot = none := by
          rcases Nat.eq_zero_or_pos (i * Rp.sz α) with hz0 | hz0
          · rw [hz0] at h0
            simpa [Addr.add] using World.cell?_spot h0
          · rcases Nat.eq_zero_or_pos 0 with _ | h
            · obtain ⟨us0, hc0, _⟩ := hi 0 (by omega)
              obtain ⟨_, hul0, hat0⟩ := World.cells?_some hc0
              rw [hs] at hul0 hat0
              have h00 := hat0 0 hpos
              rw [List.getElem?_eq_getElem (by omega)] at h00
              simpa [Addr.add] using World.cell?_spot h00
            · omega
        subst hspot
        refine ⟨some z, fun _ => ⟨z, rfl, b, off, us, rfl, ?_, hul, fun j u hu => ?_, hz⟩⟩
        · have := World.block_lt_of_cell? _ _ h0
          rwa [block_of_add, block_of_add] at this
        · have hj : j < Rp.sz α := by have := (List.getElem?_eq_some_iff.1 hu).1; omega
          have := hat j hj
          rw [hu, add_of_add, Addr.add_lit] at this
          rw [Nat.add_assoc]
          exact this
      · exact ⟨none, fun h => absurd h hlt⟩
    obtain ⟨f, hf⟩ := Classical.axiomOfChoice hex
    by_cases hlen : len = 0
    · subst hlen
      exact ⟨[], some a, m, rfl, ⟨rfl, hl, hm, (fun h => by cases h), fun i x hx => by simp at hx⟩⟩
    · obtain ⟨d, _⟩ := hf 0 (by omega)
      let g : Nat → α := fun i => (f i).getD d
      refine ⟨(List.range len).map g, some a, m, by simp, ⟨rfl, by simpa using hl, hm, (fun h => by cases h), fun i x hx => ?_⟩⟩
      have hilt : i < len := by have := (List.getElem?_eq_some_iff.1 hx).1; simpa using this
      rw [List.getElem?_map, List.getElem?_range hilt] at hx
      obtain ⟨z, hz, b, off, us, rfl, h1, h2, h3, h4⟩ := hf i hilt
      have hxz : x = z := by
        have := (Option.some.inj hx).symm
        rw [this]
        show (f i).getD d = z
        rw [hz]; rfl
      subst hxz
      exact ⟨b, off, us, rfl, h1, h2, h3, h4⟩

/-- A struct's cells, field by field. -/
theorem struct_cells {H : Type} {enc : TypeId × Value → H} {P : Program} {W : World} {fuel : Nat} {t : TypeId} {n : Nat} {fs : Array Field} {cs : List Value} {x : DataW H × List MemPlace} (hs : P.underlying t = some (.struct fs)) (hC : P.cellsOf t = n)
    (h : DataW.trod enc P W 0 (fun _ => true) true fuel t cs = some x) : cs.length = n ∧ ∀ (i : Nat) (f : Field), fs[i]? = some f → ∃ m y, DataW.trod enc P W 0 (fun _ => true) true m f.type ((cs.drop f.offset).take (P.cellsOf f.type)) = some y := by
  obtain ⟨xs, m, _, _, hl, hxl, hf⟩ := DataW.trod_struct hs h
  refine ⟨hl.trans hC, fun i f hi => ?_⟩
  have hlt : i < xs.length := by rw [hxl]; exact (Array.getElem?_eq_some_iff.1 hi).1
  exact ⟨m, _, (hf i f hi).trans (List.getElem?_eq_getElem hlt)⟩

/-- An argument that is a slice. -/
theorem rd_arg {P : Program} {t : TypeId} {α : Type} [Rp α] (hr : Rd P t (List α)) {H : Type} {enc : TypeId × Value → H} {W : World} {A : Option Addr} {len cap : Nat} {d : DataW H} {p : List MemPlace}
    (h : DataW.Trod enc P W 0 (fun _ => true) true t (.slice A len cap) d p) : ∃ xs : List α, Sl W (fun b => b < W.heap.size) A len cap xs := by
  obtain ⟨fuel, hf⟩ := h
  obtain ⟨xs, A', cap', he, hs⟩ := hr H enc W fuel _ _ hf
  simp [Value.cells] at he
  obtain ⟨rfl, rfl, rfl⟩ := he
  exact ⟨xs, hs⟩
/-- An argument that is a struct. -/
theorem rd_agg {P : Program} {t : TypeId} {α : Type} [Rp α] (hr : Rd P t α) {H : Type} {enc : TypeId × Value → H} {W : World} {cs : Array Value} {d : DataW H} {p : List MemPlace}
    (h : DataW.Trod enc P W 0 (fun _ => true) true t (.agg cs) d p) : ∃ x : α, Rp.rep W (fun b => b < W.heap.size) cs.toList x := by
  obtain ⟨fuel, hf⟩ := h
  obtain ⟨x, hx⟩ := hr H enc W fuel _ _ hf
  exact ⟨x, by simpa [Value.cells] using hx⟩
theorem read_of {P : Program} {f : Func} (h : (f.params.toList.all fun t => P.readableRec t && decide (t < P.types.size)) = true) : ∀ t ∈ f.params.toList, P.readableRec t = true ∧ t < P.types.size := by
  intro t ht
  have := List.all_eq_true.1 h t ht
  simpa using this

end Go.Proofs.Ytkjfflabapeidaa
