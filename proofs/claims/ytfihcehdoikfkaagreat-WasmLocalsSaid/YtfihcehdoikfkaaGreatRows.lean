/-
  No cell of these rows narrows 'for every input' (looked for: loops, veiled, ifaces, maps, wideKeys, modest, calm, conditions, laid).
  DERIVED. THE GIVEN ROWS OF THIS SEAT. 7 by the template 'for every input the law returns true; each argument reads behind the call as it read before'; 0 by the template 'total and deterministic' (their statements: YtfihcehdoikfkaaGreatTotals.lean).
  GIVEN WITH THE SEED: the statements are not yours to turn. If you find one false, say at which input.
  Laid BY PROGRAM, IN A SANDBOX (cutbox-rows.mjs): the forced cells as the released guide's own fill.sh prints them over the translation 487ed8fc31acbdd1… (all of the seat's roots in one cut). By AI agents, Wed Nov 11 2026. No macro, syntax, notation, axiom, sorry.
-/
import Derived.Test.YtfihcehdoikfkaaGreatChecked
import GoSem.Claim
import GoSem.ClaimJoined
import GoSem.ClaimMapViews
import Derived.JoinedTies
import Derived.KernelRfl
namespace Go.Proofs.YtfihcehdoikfkaaGreat
/- THE CELL 'sum', in the pinned program and in every row, IS THE sha256 OF THE DUMP (.gsa) THAT YtfihcehdoikfkaaGreatProg.lean LOADS. Nothing in Lean hashes anything: it is a label: what it is worth is what the hold of that sum in a sandbox is worth. -/
noncomputable def Tryz.pinned : Pinned := { name := "ytfihcehdoikfkaagreat", sum := "487ed8fc31acbdd159d3e5bee063b2870cdbbdb3fce862def8fad47a8caff926", checked := Tryz.checked }
namespace Rows
def none {H : Type} : Left H := { results := [], args := [] }

/-- 'diapauselaw7.WasmAll': WHATEVER THE INPUT: true; the input reads as it did. -/
def wasmAllSpec : ChangeSpec := { name := "wasmAll", fn := fun _ => fun
  | [d1, d2] => { results := [.lit (.bool true)], args := [d1, d2] }
  | _ => none }
def wasmAllRow : OpenClaim := { program := "ytfihcehdoikfkaagreat", sum := "487ed8fc31acbdd159d3e5bee063b2870cdbbdb3fce862def8fad47a8caff926", func := "diapause/diapauselaw7.WasmAll", spec := "wasmAll", unfollowed := true, recurses := true, apart := false }
def WasmAllSaid : Prop := wasmAllRow.holds Tryz.pinned (OpenSpec.ofChange wasmAllSpec)

/-- ITS FALSE NEIGHBOUR: 'it returns false'. Refute it at one input. -/
def wasmAllWrong : ChangeSpec := { name := "wasmAll", fn := fun _ => fun
  | [d1, d2] => { results := [.lit (.bool false)], args := [d1, d2] }
  | _ => none }
def WasmAllWrongFalsely : Prop := wasmAllRow.holds Tryz.pinned (OpenSpec.ofChange wasmAllWrong)

/-- 'diapauselaw7.WasmLong': WHATEVER THE INPUT: true; the input reads as it did. -/
def wasmLongSpec : ChangeSpec := { name := "wasmLong", fn := fun _ => fun
  | [d1, d2] => { results := [.lit (.bool true)], args := [d1, d2] }
  | _ => none }
def wasmLongRow : OpenClaim := { program := "ytfihcehdoikfkaagreat", sum := "487ed8fc31acbdd159d3e5bee063b2870cdbbdb3fce862def8fad47a8caff926", func := "diapause/diapauselaw7.WasmLong", spec := "wasmLong", unfollowed := true, recurses := true, apart := false }
def WasmLongSaid : Prop := wasmLongRow.holds Tryz.pinned (OpenSpec.ofChange wasmLongSpec)

/-- ITS FALSE NEIGHBOUR: 'it returns false'. Refute it at one input. -/
def wasmLongWrong : ChangeSpec := { name := "wasmLong", fn := fun _ => fun
  | [d1, d2] => { results := [.lit (.bool false)], args := [d1, d2] }
  | _ => none }
def WasmLongWrongFalsely : Prop := wasmLongRow.holds Tryz.pinned (OpenSpec.ofChange wasmLongWrong)

/-- 'diapauselaw7.WasmParts': WHATEVER THE INPUT: true; the input reads as it did. -/
def wasmPartsSpec : ChangeSpec := { name := "wasmParts", fn := fun _ => fun
  | [d1, d2] => { results := [.lit (.bool true)], args := [d1, d2] }
  | _ => none }
def wasmPartsRow : OpenClaim := { program := "ytfihcehdoikfkaagreat", sum := "487ed8fc31acbdd159d3e5bee063b2870cdbbdb3fce862def8fad47a8caff926", func := "diapause/diapauselaw7.WasmParts", spec := "wasmParts", unfollowed := true, recurses := true, apart := false }
def WasmPartsSaid : Prop := wasmPartsRow.holds Tryz.pinned (OpenSpec.ofChange wasmPartsSpec)

/-- ITS FALSE NEIGHBOUR: 'it returns false'. Refute it at one input. -/
def wasmPartsWrong : ChangeSpec := { name := "wasmParts", fn := fun _ => fun
  | [d1, d2] => { results := [.lit (.bool false)], args := [d1, d2] }
  | _ => none }
def WasmPartsWrongFalsely : Prop := wasmPartsRow.holds Tryz.pinned (OpenSpec.ofChange wasmPartsWrong)

/-- 'diapauselaw7.WasmNames': WHATEVER THE INPUT: true; the input reads as it did. -/
def wasmNamesSpec : ChangeSpec := { name := "wasmNames", fn := fun _ => fun
  | [d1, d2, d3] => { results := [.lit (.bool true)], args := [d1, d2, d3] }
  | _ => none }
def wasmNamesRow : OpenClaim := { program := "ytfihcehdoikfkaagreat", sum := "487ed8fc31acbdd159d3e5bee063b2870cdbbdb3fce862def8fad47a8caff926", func := "diapause/diapauselaw7.WasmNames", spec := "wasmNames", unfollowed := true, recurses := true, apart := false }
def WasmNamesSaid : Prop := wasmNamesRow.holds Tryz.pinned (OpenSpec.ofChange wasmNamesSpec)

/-- ITS FALSE NEIGHBOUR: 'it returns false'. Refute it at one input. -/
def wasmNamesWrong : ChangeSpec := { name := "wasmNames", fn := fun _ => fun
  | [d1, d2, d3] => { results := [.lit (.bool false)], args := [d1, d2, d3] }
  | _ => none }
def WasmNamesWrongFalsely : Prop := wasmNamesRow.holds Tryz.pinned (OpenSpec.ofChange wasmNamesWrong)

/-- 'diapauselaw7.WasmOwn': WHATEVER THE INPUT: true; the input reads as it did. -/
def wasmOwnSpec : ChangeSpec := { name := "wasmOwn", fn := fun _ => fun
  | [d1, d2] => { results := [.lit (.bool true)], args := [d1, d2] }
  | _ => none }
def wasmOwnRow : OpenClaim := { program := "ytfihcehdoikfkaagreat", sum := "487ed8fc31acbdd159d3e5bee063b2870cdbbdb3fce862def8fad47a8caff926", func := "diapause/diapauselaw7.WasmOwn", spec := "wasmOwn", unfollowed := true, recurses := true, apart := false }
def WasmOwnSaid : Prop := wasmOwnRow.holds Tryz.pinned (OpenSpec.ofChange wasmOwnSpec)

/-- ITS FALSE NEIGHBOUR: 'it returns false'. Refute it at one input. -/
def wasmOwnWrong : ChangeSpec := { name := "wasmOwn", fn := fun _ => fun
  | [d1, d2] => { results := [.lit (.bool false)], args := [d1, d2] }
  | _ => none }
def WasmOwnWrongFalsely : Prop := wasmOwnRow.holds Tryz.pinned (OpenSpec.ofChange wasmOwnWrong)

/-- 'diapauselaw7.WasmLocals': WHATEVER THE INPUT: true; the input reads as it did. -/
def wasmLocalsSpec : ChangeSpec := { name := "wasmLocals", fn := fun _ => fun
  | [d] => { results := [.lit (.bool true)], args := [d] }
  | _ => none }
def wasmLocalsRow : OpenClaim := { program := "ytfihcehdoikfkaagreat", sum := "487ed8fc31acbdd159d3e5bee063b2870cdbbdb3fce862def8fad47a8caff926", func := "diapause/diapauselaw7.WasmLocals", spec := "wasmLocals", unfollowed := true, recurses := true, apart := false }
def WasmLocalsSaid : Prop := wasmLocalsRow.holds Tryz.pinned (OpenSpec.ofChange wasmLocalsSpec)

/-- ITS FALSE NEIGHBOUR: 'it returns false'. Refute it at one input. -/
def wasmLocalsWrong : ChangeSpec := { name := "wasmLocals", fn := fun _ => fun
  | [d] => { results := [.lit (.bool false)], args := [d] }
  | _ => none }
def WasmLocalsWrongFalsely : Prop := wasmLocalsRow.holds Tryz.pinned (OpenSpec.ofChange wasmLocalsWrong)

/-- 'diapauselaw7.WasmMany': WHATEVER THE INPUT: true; the input reads as it did. -/
def wasmManySpec : ChangeSpec := { name := "wasmMany", fn := fun _ => fun
  | [d1, d2] => { results := [.lit (.bool true)], args := [d1, d2] }
  | _ => none }
def wasmManyRow : OpenClaim := { program := "ytfihcehdoikfkaagreat", sum := "487ed8fc31acbdd159d3e5bee063b2870cdbbdb3fce862def8fad47a8caff926", func := "diapause/diapauselaw7.WasmMany", spec := "wasmMany", unfollowed := true, recurses := true, apart := false }
def WasmManySaid : Prop := wasmManyRow.holds Tryz.pinned (OpenSpec.ofChange wasmManySpec)

/-- ITS FALSE NEIGHBOUR: 'it returns false'. Refute it at one input. -/
def wasmManyWrong : ChangeSpec := { name := "wasmMany", fn := fun _ => fun
  | [d1, d2] => { results := [.lit (.bool false)], args := [d1, d2] }
  | _ => none }
def WasmManyWrongFalsely : Prop := wasmManyRow.holds Tryz.pinned (OpenSpec.ofChange wasmManyWrong)

/- THE SECOND FORM. 'bulk': how many values and letters a reading holds, each counted each time it is reached (what is shared counts as often as it is met; a slice's spare places count too). A statement '..UptoSaid' is the law's where the arguments, and the package variables that the reading takes, are together of bulk at most 1048576: NARROWER than '..Said'. Prove '..Said' where nothing that the law and all that it calls make is longer than what came in: it says more and counts as full. Else prove '..UptoSaid'. A law counts once. -/
mutual
def uptoBulk {H : Type} : DataW H → Nat
  | .lit (.string bytes) => bytes.length + 1
  | .lit _ => 1
  | .nil => 1
  | .ptr d => uptoBulk d + 1
  | .slice elems spare => uptoBulkAll elems + uptoBulkAll spare + 1
  | .agg parts => uptoBulkAll parts + 1
  | .iface _ d => uptoBulk d + 1
  | .map entries => uptoBulkEntries entries + 1
  | .held _ => 1
def uptoBulkAll {H : Type} : List (DataW H) → Nat
  | [] => 0
  | d :: r => uptoBulk d + uptoBulkAll r
def uptoBulkEntries {H : Type} : List (Lit × DataW H) → Nat
  | [] => 0
  | x :: r => uptoBulkEntry x + uptoBulkEntries r
def uptoBulkEntry {H : Type} : Lit × DataW H → Nat
  | (.string bytes, d) => bytes.length + uptoBulk d + 1
  | (_, d) => uptoBulk d + 1
 end
def uptoSmall : (H : Type) → List (DataW H) → Bool := fun _ ds => decide (uptoBulkAll ds ≤ 1048576)
def OpenSpec.upto (s : _root_.Go.ChangeSpec) : _root_.Go.OpenSpec := { _root_.Go.OpenSpec.ofChange s with cond := some uptoSmall }

/-- 'diapauselaw7.WasmAll', WHERE WHAT IT READS IS OF BULK AT MOST 1048576: true; the input reads as it did. -/
def wasmAllUptoRow : OpenClaim := { program := "ytfihcehdoikfkaagreat", sum := "487ed8fc31acbdd159d3e5bee063b2870cdbbdb3fce862def8fad47a8caff926", func := "diapause/diapauselaw7.WasmAll", spec := "wasmAll", unfollowed := true, recurses := true, apart := false, narrowed := true }
def WasmAllUptoSaid : Prop := wasmAllUptoRow.holds Tryz.pinned (OpenSpec.upto wasmAllSpec)

/-- 'diapauselaw7.WasmLong', WHERE WHAT IT READS IS OF BULK AT MOST 1048576: true; the input reads as it did. -/
def wasmLongUptoRow : OpenClaim := { program := "ytfihcehdoikfkaagreat", sum := "487ed8fc31acbdd159d3e5bee063b2870cdbbdb3fce862def8fad47a8caff926", func := "diapause/diapauselaw7.WasmLong", spec := "wasmLong", unfollowed := true, recurses := true, apart := false, narrowed := true }
def WasmLongUptoSaid : Prop := wasmLongUptoRow.holds Tryz.pinned (OpenSpec.upto wasmLongSpec)

/-- 'diapauselaw7.WasmParts', WHERE WHAT IT READS IS OF BULK AT MOST 1048576: true; the input reads as it did. -/
def wasmPartsUptoRow : OpenClaim := { program := "ytfihcehdoikfkaagreat", sum := "487ed8fc31acbdd159d3e5bee063b2870cdbbdb3fce862def8fad47a8caff926", func := "diapause/diapauselaw7.WasmParts", spec := "wasmParts", unfollowed := true, recurses := true, apart := false, narrowed := true }
def WasmPartsUptoSaid : Prop := wasmPartsUptoRow.holds Tryz.pinned (OpenSpec.upto wasmPartsSpec)

/-- 'diapauselaw7.WasmNames', WHERE WHAT IT READS IS OF BULK AT MOST 1048576: true; the input reads as it did. -/
def wasmNamesUptoRow : OpenClaim := { program := "ytfihcehdoikfkaagreat", sum := "487ed8fc31acbdd159d3e5bee063b2870cdbbdb3fce862def8fad47a8caff926", func := "diapause/diapauselaw7.WasmNames", spec := "wasmNames", unfollowed := true, recurses := true, apart := false, narrowed := true }
def WasmNamesUptoSaid : Prop := wasmNamesUptoRow.holds Tryz.pinned (OpenSpec.upto wasmNamesSpec)

/-- 'diapauselaw7.WasmOwn', WHERE WHAT IT READS IS OF BULK AT MOST 1048576: true; the input reads as it did. -/
def wasmOwnUptoRow : OpenClaim := { program := "ytfihcehdoikfkaagreat", sum := "487ed8fc31acbdd159d3e5bee063b2870cdbbdb3fce862def8fad47a8caff926", func := "diapause/diapauselaw7.WasmOwn", spec := "wasmOwn", unfollowed := true, recurses := true, apart := false, narrowed := true }
def WasmOwnUptoSaid : Prop := wasmOwnUptoRow.holds Tryz.pinned (OpenSpec.upto wasmOwnSpec)

/-- 'diapauselaw7.WasmLocals', WHERE WHAT IT READS IS OF BULK AT MOST 1048576: true; the input reads as it did. -/
def wasmLocalsUptoRow : OpenClaim := { program := "ytfihcehdoikfkaagreat", sum := "487ed8fc31acbdd159d3e5bee063b2870cdbbdb3fce862def8fad47a8caff926", func := "diapause/diapauselaw7.WasmLocals", spec := "wasmLocals", unfollowed := true, recurses := true, apart := false, narrowed := true }
def WasmLocalsUptoSaid : Prop := wasmLocalsUptoRow.holds Tryz.pinned (OpenSpec.upto wasmLocalsSpec)

/-- 'diapauselaw7.WasmMany', WHERE WHAT IT READS IS OF BULK AT MOST 1048576: true; the input reads as it did. -/
def wasmManyUptoRow : OpenClaim := { program := "ytfihcehdoikfkaagreat", sum := "487ed8fc31acbdd159d3e5bee063b2870cdbbdb3fce862def8fad47a8caff926", func := "diapause/diapauselaw7.WasmMany", spec := "wasmMany", unfollowed := true, recurses := true, apart := false, narrowed := true }
def WasmManyUptoSaid : Prop := wasmManyUptoRow.holds Tryz.pinned (OpenSpec.upto wasmManySpec)

end Rows
end Go.Proofs.YtfihcehdoikfkaaGreat
