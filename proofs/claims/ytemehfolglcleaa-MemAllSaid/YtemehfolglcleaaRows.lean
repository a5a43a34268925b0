/-
  No cell of these rows narrows 'for every input' (looked for: loops, veiled, ifaces, maps, wideKeys, modest, calm, conditions, laid).
  DERIVED. THE GIVEN ROWS OF THIS SEAT. 8 by the template 'for every input the law returns true; each argument reads behind the call as it read before'; 0 by the template 'total and deterministic' (their statements: YtemehfolglcleaaTotals.lean).
  GIVEN WITH THE SEED: the statements are not yours to turn. If you find one false, say at which input.
  Laid BY PROGRAM, IN A SANDBOX (cutbox-rows.mjs): the forced cells as the released guide's own fill.sh prints them over the translation 778362708e3808ef… (all of the seat's roots in one cut). By AI agents, Wed Nov 11 2026. No macro, syntax, notation, axiom, sorry.
-/
import Derived.Test.YtemehfolglcleaaChecked
import GoSem.Claim
import GoSem.ClaimJoined
import GoSem.ClaimMapViews
import Derived.JoinedTies
import Derived.KernelRfl
namespace Go.Proofs.Ytemehfolglcleaa
/- THE CELL 'sum', in the pinned program and in every row, IS THE sha256 OF THE DUMP (.gsa) THAT YtemehfolglcleaaProg.lean LOADS. Nothing in Lean hashes anything: it is a label: what it is worth is what the hold of that sum in a sandbox is worth. -/
noncomputable def Try.pinned : Pinned := { name := "ytemehfolglcleaa", sum := "778362708e3808ef25d9153cfdf22475445feb4b154335ecc2ca80f365c18c58", checked := Try.checked }
namespace Rows
def none {H : Type} : Left H := { results := [], args := [] }

/-- 'diapauselaw10.MemOver': WHATEVER THE INPUT: true; the input reads as it did. -/
def memOverSpec : ChangeSpec := { name := "memOver", fn := fun _ => fun
  | [d1, d2, d3] => { results := [.lit (.bool true)], args := [d1, d2, d3] }
  | _ => none }
def memOverRow : OpenClaim := { program := "ytemehfolglcleaa", sum := "778362708e3808ef25d9153cfdf22475445feb4b154335ecc2ca80f365c18c58", func := "diapause/diapauselaw10.MemOver", spec := "memOver", inPlace := ["slices.overlaps[int]"], apart := false }
def MemOverSaid : Prop := memOverRow.holds Try.pinned (OpenSpec.ofChange memOverSpec)

/-- ITS FALSE NEIGHBOUR: 'it returns false'. Refute it at one input. -/
def memOverWrong : ChangeSpec := { name := "memOver", fn := fun _ => fun
  | [d1, d2, d3] => { results := [.lit (.bool false)], args := [d1, d2, d3] }
  | _ => none }
def MemOverWrongFalsely : Prop := memOverRow.holds Try.pinned (OpenSpec.ofChange memOverWrong)

/-- 'diapauselaw10.MemGrowth': WHATEVER THE INPUT: true; the input reads as it did. -/
def memGrowthSpec : ChangeSpec := { name := "memGrowth", fn := fun _ => fun
  | [d1, d2, d3] => { results := [.lit (.bool true)], args := [d1, d2, d3] }
  | _ => none }
def memGrowthRow : OpenClaim := { program := "ytemehfolglcleaa", sum := "778362708e3808ef25d9153cfdf22475445feb4b154335ecc2ca80f365c18c58", func := "diapause/diapauselaw10.MemGrowth", spec := "memGrowth", inPlace := ["slices.overlaps[int]"], apart := false }
def MemGrowthSaid : Prop := memGrowthRow.holds Try.pinned (OpenSpec.ofChange memGrowthSpec)

/-- ITS FALSE NEIGHBOUR: 'it returns false'. Refute it at one input. -/
def memGrowthWrong : ChangeSpec := { name := "memGrowth", fn := fun _ => fun
  | [d1, d2, d3] => { results := [.lit (.bool false)], args := [d1, d2, d3] }
  | _ => none }
def MemGrowthWrongFalsely : Prop := memGrowthRow.holds Try.pinned (OpenSpec.ofChange memGrowthWrong)

/-- 'diapauselaw10.MemParts': WHATEVER THE INPUT: true; the input reads as it did. -/
def memPartsSpec : ChangeSpec := { name := "memParts", fn := fun _ => fun
  | [d1, d2] => { results := [.lit (.bool true)], args := [d1, d2] }
  | _ => none }
def memPartsRow : OpenClaim := { program := "ytemehfolglcleaa", sum := "778362708e3808ef25d9153cfdf22475445feb4b154335ecc2ca80f365c18c58", func := "diapause/diapauselaw10.MemParts", spec := "memParts", inPlace := ["slices.overlaps[int]"], apart := false }
def MemPartsSaid : Prop := memPartsRow.holds Try.pinned (OpenSpec.ofChange memPartsSpec)

/-- ITS FALSE NEIGHBOUR: 'it returns false'. Refute it at one input. -/
def memPartsWrong : ChangeSpec := { name := "memParts", fn := fun _ => fun
  | [d1, d2] => { results := [.lit (.bool false)], args := [d1, d2] }
  | _ => none }
def MemPartsWrongFalsely : Prop := memPartsRow.holds Try.pinned (OpenSpec.ofChange memPartsWrong)

/-- 'diapauselaw10.MemMany': WHATEVER THE INPUT: true; the input reads as it did. -/
def memManySpec : ChangeSpec := { name := "memMany", fn := fun _ => fun
  | [d1, d2] => { results := [.lit (.bool true)], args := [d1, d2] }
  | _ => none }
def memManyRow : OpenClaim := { program := "ytemehfolglcleaa", sum := "778362708e3808ef25d9153cfdf22475445feb4b154335ecc2ca80f365c18c58", func := "diapause/diapauselaw10.MemMany", spec := "memMany", inPlace := ["slices.overlaps[int]"], apart := false }
def MemManySaid : Prop := memManyRow.holds Try.pinned (OpenSpec.ofChange memManySpec)

/-- ITS FALSE NEIGHBOUR: 'it returns false'. Refute it at one input. -/
def memManyWrong : ChangeSpec := { name := "memMany", fn := fun _ => fun
  | [d1, d2] => { results := [.lit (.bool false)], args := [d1, d2] }
  | _ => none }
def MemManyWrongFalsely : Prop := memManyRow.holds Try.pinned (OpenSpec.ofChange memManyWrong)

/-- 'diapauselaw10.MemAll': WHATEVER THE INPUT: true; the input reads as it did. -/
def memAllSpec : ChangeSpec := { name := "memAll", fn := fun _ => fun
  | [d1, d2] => { results := [.lit (.bool true)], args := [d1, d2] }
  | _ => none }
def memAllRow : OpenClaim := { program := "ytemehfolglcleaa", sum := "778362708e3808ef25d9153cfdf22475445feb4b154335ecc2ca80f365c18c58", func := "diapause/diapauselaw10.MemAll", spec := "memAll", inPlace := ["slices.overlaps[int]"], apart := false }
def MemAllSaid : Prop := memAllRow.holds Try.pinned (OpenSpec.ofChange memAllSpec)

/-- ITS FALSE NEIGHBOUR: 'it returns false'. Refute it at one input. -/
def memAllWrong : ChangeSpec := { name := "memAll", fn := fun _ => fun
  | [d1, d2] => { results := [.lit (.bool false)], args := [d1, d2] }
  | _ => none }
def MemAllWrongFalsely : Prop := memAllRow.holds Try.pinned (OpenSpec.ofChange memAllWrong)

/-- 'diapauselaw10.MemNone': WHATEVER THE INPUT: true; the input reads as it did. -/
def memNoneSpec : ChangeSpec := { name := "memNone", fn := fun _ => fun
  | [] => { results := [.lit (.bool true)], args := [] }
  | _ => none }
def memNoneRow : OpenClaim := { program := "ytemehfolglcleaa", sum := "778362708e3808ef25d9153cfdf22475445feb4b154335ecc2ca80f365c18c58", func := "diapause/diapauselaw10.MemNone", spec := "memNone", inPlace := ["slices.overlaps[int]"], apart := false }
def MemNoneSaid : Prop := memNoneRow.holds Try.pinned (OpenSpec.ofChange memNoneSpec)

/-- ITS FALSE NEIGHBOUR: 'it returns false'. Refute it at one input. -/
def memNoneWrong : ChangeSpec := { name := "memNone", fn := fun _ => fun
  | [] => { results := [.lit (.bool false)], args := [] }
  | _ => none }
def MemNoneWrongFalsely : Prop := memNoneRow.holds Try.pinned (OpenSpec.ofChange memNoneWrong)

/-- 'diapauselaw10.MemNoughts': WHATEVER THE INPUT: true; the input reads as it did. -/
def memNoughtsSpec : ChangeSpec := { name := "memNoughts", fn := fun _ => fun
  | [d1, d2] => { results := [.lit (.bool true)], args := [d1, d2] }
  | _ => none }
def memNoughtsRow : OpenClaim := { program := "ytemehfolglcleaa", sum := "778362708e3808ef25d9153cfdf22475445feb4b154335ecc2ca80f365c18c58", func := "diapause/diapauselaw10.MemNoughts", spec := "memNoughts", inPlace := ["slices.overlaps[int]"], apart := false }
def MemNoughtsSaid : Prop := memNoughtsRow.holds Try.pinned (OpenSpec.ofChange memNoughtsSpec)

/-- ITS FALSE NEIGHBOUR: 'it returns false'. Refute it at one input. -/
def memNoughtsWrong : ChangeSpec := { name := "memNoughts", fn := fun _ => fun
  | [d1, d2] => { results := [.lit (.bool false)], args := [d1, d2] }
  | _ => none }
def MemNoughtsWrongFalsely : Prop := memNoughtsRow.holds Try.pinned (OpenSpec.ofChange memNoughtsWrong)

/-- 'diapauselaw10.MemOwn': WHATEVER THE INPUT: true; the input reads as it did. -/
def memOwnSpec : ChangeSpec := { name := "memOwn", fn := fun _ => fun
  | [d] => { results := [.lit (.bool true)], args := [d] }
  | _ => none }
def memOwnRow : OpenClaim := { program := "ytemehfolglcleaa", sum := "778362708e3808ef25d9153cfdf22475445feb4b154335ecc2ca80f365c18c58", func := "diapause/diapauselaw10.MemOwn", spec := "memOwn", inPlace := ["slices.overlaps[int]"], apart := false }
def MemOwnSaid : Prop := memOwnRow.holds Try.pinned (OpenSpec.ofChange memOwnSpec)

/-- ITS FALSE NEIGHBOUR: 'it returns false'. Refute it at one input. -/
def memOwnWrong : ChangeSpec := { name := "memOwn", fn := fun _ => fun
  | [d] => { results := [.lit (.bool false)], args := [d] }
  | _ => none }
def MemOwnWrongFalsely : Prop := memOwnRow.holds Try.pinned (OpenSpec.ofChange memOwnWrong)

/- THE SECOND FORM. 'bulk': how many values and letters a reading holds, each counted each time it is reached (what is shared counts as often as it is met; a slice's spare places count too). A statement '..UptoSaid' is the law's where the arguments, and the package variables that the reading takes, are together of bulk at most 1048576: NARROWER than '..Said'. Prove '..Said' where nothing that the law and all that it calls make is longer than what came in: it says more and counts as full. Else prove '..UptoSaid'. A law counts once. -/
mutual
def uptoBulk {H : Type} : DataW H → Nat
  | .lit (.string bytes) => bytes.length + 1
  | .lit _ => 1
  | .nil => 1
  | .ptr d => uptoBulk d + 1
  | .slice elems spare => uptoBulkAll elems + uptoBulkAll spare + 1
  | .agg parts => uptoBulkAll parts + 1
  | .iface _ d => uptoBulk d + 1
  | .map entries => uptoBulkEntries entries + 1
  | .held _ => 1
def uptoBulkAll {H : Type} : List (DataW H) → Nat
  | [] => 0
  | d :: r => uptoBulk d + uptoBulkAll r
def uptoBulkEntries {H : Type} : List (Lit × DataW H) → Nat
  | [] => 0
  | x :: r => uptoBulkEntry x + uptoBulkEntries r
def uptoBulkEntry {H : Type} : Lit × DataW H → Nat
  | (.string bytes, d) => bytes.length + uptoBulk d + 1
  | (_, d) => uptoBulk d + 1
 end
def uptoSmall : (H : Type) → List (DataW H) → Bool := fun _ ds => decide (uptoBulkAll ds ≤ 1048576)
def OpenSpec.upto (s : _root_.Go.ChangeSpec) : _root_.Go.OpenSpec := { _root_.Go.OpenSpec.ofChange s with cond := some uptoSmall }

/-- 'diapauselaw10.MemOver', WHERE WHAT IT READS IS OF BULK AT MOST 1048576: true; the input reads as it did. -/
def memOverUptoRow : OpenClaim := { program := "ytemehfolglcleaa", sum := "778362708e3808ef25d9153cfdf22475445feb4b154335ecc2ca80f365c18c58", func := "diapause/diapauselaw10.MemOver", spec := "memOver", inPlace := ["slices.overlaps[int]"], apart := false, narrowed := true }
def MemOverUptoSaid : Prop := memOverUptoRow.holds Try.pinned (OpenSpec.upto memOverSpec)

/-- 'diapauselaw10.MemGrowth', WHERE WHAT IT READS IS OF BULK AT MOST 1048576: true; the input reads as it did. -/
def memGrowthUptoRow : OpenClaim := { program := "ytemehfolglcleaa", sum := "778362708e3808ef25d9153cfdf22475445feb4b154335ecc2ca80f365c18c58", func := "diapause/diapauselaw10.MemGrowth", spec := "memGrowth", inPlace := ["slices.overlaps[int]"], apart := false, narrowed := true }
def MemGrowthUptoSaid : Prop := memGrowthUptoRow.holds Try.pinned (OpenSpec.upto memGrowthSpec)

/-- 'diapauselaw10.MemParts', WHERE WHAT IT READS IS OF BULK AT MOST 1048576: true; the input reads as it did. -/
def memPartsUptoRow : OpenClaim := { program := "ytemehfolglcleaa", sum := "778362708e3808ef25d9153cfdf22475445feb4b154335ecc2ca80f365c18c58", func := "diapause/diapauselaw10.MemParts", spec := "memParts", inPlace := ["slices.overlaps[int]"], apart := false, narrowed := true }
def MemPartsUptoSaid : Prop := memPartsUptoRow.holds Try.pinned (OpenSpec.upto memPartsSpec)

/-- 'diapauselaw10.MemMany', WHERE WHAT IT READS IS OF BULK AT MOST 1048576: true; the input reads as it did. -/
def memManyUptoRow : OpenClaim := { program := "ytemehfolglcleaa", sum := "778362708e3808ef25d9153cfdf22475445feb4b154335ecc2ca80f365c18c58", func := "diapause/diapauselaw10.MemMany", spec := "memMany", inPlace := ["slices.overlaps[int]"], apart := false, narrowed := true }
def MemManyUptoSaid : Prop := memManyUptoRow.holds Try.pinned (OpenSpec.upto memManySpec)

/-- 'diapauselaw10.MemAll', WHERE WHAT IT READS IS OF BULK AT MOST 1048576: true; the input reads as it did. -/
def memAllUptoRow : OpenClaim := { program := "ytemehfolglcleaa", sum := "778362708e3808ef25d9153cfdf22475445feb4b154335ecc2ca80f365c18c58", func := "diapause/diapauselaw10.MemAll", spec := "memAll", inPlace := ["slices.overlaps[int]"], apart := false, narrowed := true }
def MemAllUptoSaid : Prop := memAllUptoRow.holds Try.pinned (OpenSpec.upto memAllSpec)

/-- 'diapauselaw10.MemNone', WHERE WHAT IT READS IS OF BULK AT MOST 1048576: true; the input reads as it did. -/
def memNoneUptoRow : OpenClaim := { program := "ytemehfolglcleaa", sum := "778362708e3808ef25d9153cfdf22475445feb4b154335ecc2ca80f365c18c58", func := "diapause/diapauselaw10.MemNone", spec := "memNone", inPlace := ["slices.overlaps[int]"], apart := false, narrowed := true }
def MemNoneUptoSaid : Prop := memNoneUptoRow.holds Try.pinned (OpenSpec.upto memNoneSpec)

/-- 'diapauselaw10.MemNoughts', WHERE WHAT IT READS IS OF BULK AT MOST 1048576: true; the input reads as it did. -/
def memNoughtsUptoRow : OpenClaim := { program := "ytemehfolglcleaa", sum := "778362708e3808ef25d9153cfdf22475445feb4b154335ecc2ca80f365c18c58", func := "diapause/diapauselaw10.MemNoughts", spec := "memNoughts", inPlace := ["slices.overlaps[int]"], apart := false, narrowed := true }
def MemNoughtsUptoSaid : Prop := memNoughtsUptoRow.holds Try.pinned (OpenSpec.upto memNoughtsSpec)

/-- 'diapauselaw10.MemOwn', WHERE WHAT IT READS IS OF BULK AT MOST 1048576: true; the input reads as it did. -/
def memOwnUptoRow : OpenClaim := { program := "ytemehfolglcleaa", sum := "778362708e3808ef25d9153cfdf22475445feb4b154335ecc2ca80f365c18c58", func := "diapause/diapauselaw10.MemOwn", spec := "memOwn", inPlace := ["slices.overlaps[int]"], apart := false, narrowed := true }
def MemOwnUptoSaid : Prop := memOwnUptoRow.holds Try.pinned (OpenSpec.upto memOwnSpec)

end Rows
end Go.Proofs.Ytemehfolglcleaa
