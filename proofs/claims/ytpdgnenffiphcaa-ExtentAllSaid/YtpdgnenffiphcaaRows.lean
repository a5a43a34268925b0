/-
  No cell of these rows narrows 'for every input' (looked for: loops, veiled, ifaces, maps, wideKeys, modest, calm, conditions, laid).
  DERIVED. THE GIVEN ROWS OF THIS SEAT. 9 by the template 'for every input the law returns true; each argument reads behind the call as it read before'; 0 by the template 'total and deterministic' (their statements: YtpdgnenffiphcaaTotals.lean).
  GIVEN WITH THE SEED: the statements are not yours to turn. If you find one false, say at which input.
  Laid BY PROGRAM, IN A SANDBOX (cutbox-rows.mjs): the forced cells as the released guide's own fill.sh prints them over the translation 8caafbb7f07ff338… (all of the seat's roots in one cut). By AI agents, Wed Nov 11 2026. No macro, syntax, notation, axiom, sorry.
-/
import Derived.Test.YtpdgnenffiphcaaChecked
import GoSem.Claim
import GoSem.ClaimJoined
import GoSem.ClaimMapViews
import Derived.JoinedTies
import Derived.KernelRfl
namespace Go.Proofs.Ytpdgnenffiphcaa
/- THE CELL 'sum', in the pinned program and in every row, IS THE sha256 OF THE DUMP (.gsa) THAT YtpdgnenffiphcaaProg.lean LOADS. Nothing in Lean hashes anything: it is a label: what it is worth is what the hold of that sum in a sandbox is worth. -/
noncomputable def Try.pinned : Pinned := { name := "ytpdgnenffiphcaa", sum := "8caafbb7f07ff338ae6c06fa09009b5b980726f2c4cddaacff8b4848fe3b2223", checked := Try.checked }
namespace Rows
def none {H : Type} : Left H := { results := [], args := [] }

/-- 'diapauselaw11.SpaceAll': WHATEVER THE INPUT: true; the input reads as it did. -/
def spaceAllSpec : ChangeSpec := { name := "spaceAll", fn := fun _ => fun
  | [d1, d2, d3, d4] => { results := [.lit (.bool true)], args := [d1, d2, d3, d4] }
  | _ => none }
def spaceAllRow : OpenClaim := { program := "ytpdgnenffiphcaa", sum := "8caafbb7f07ff338ae6c06fa09009b5b980726f2c4cddaacff8b4848fe3b2223", func := "diapause/diapauselaw11.SpaceAll", spec := "spaceAll", apart := false }
def SpaceAllSaid : Prop := spaceAllRow.holds Try.pinned (OpenSpec.ofChange spaceAllSpec)

/-- ITS FALSE NEIGHBOUR: 'it returns false'. Refute it at one input. -/
def spaceAllWrong : ChangeSpec := { name := "spaceAll", fn := fun _ => fun
  | [d1, d2, d3, d4] => { results := [.lit (.bool false)], args := [d1, d2, d3, d4] }
  | _ => none }
def SpaceAllWrongFalsely : Prop := spaceAllRow.holds Try.pinned (OpenSpec.ofChange spaceAllWrong)

/-- 'diapauselaw11.SpaceNone': WHATEVER THE INPUT: true; the input reads as it did. -/
def spaceNoneSpec : ChangeSpec := { name := "spaceNone", fn := fun _ => fun
  | [] => { results := [.lit (.bool true)], args := [] }
  | _ => none }
def spaceNoneRow : OpenClaim := { program := "ytpdgnenffiphcaa", sum := "8caafbb7f07ff338ae6c06fa09009b5b980726f2c4cddaacff8b4848fe3b2223", func := "diapause/diapauselaw11.SpaceNone", spec := "spaceNone", apart := false }
def SpaceNoneSaid : Prop := spaceNoneRow.holds Try.pinned (OpenSpec.ofChange spaceNoneSpec)

/-- ITS FALSE NEIGHBOUR: 'it returns false'. Refute it at one input. -/
def spaceNoneWrong : ChangeSpec := { name := "spaceNone", fn := fun _ => fun
  | [] => { results := [.lit (.bool false)], args := [] }
  | _ => none }
def SpaceNoneWrongFalsely : Prop := spaceNoneRow.holds Try.pinned (OpenSpec.ofChange spaceNoneWrong)

/-- 'diapauselaw11.SpaceOver': WHATEVER THE INPUT: true; the input reads as it did. -/
def spaceOverSpec : ChangeSpec := { name := "spaceOver", fn := fun _ => fun
  | [d1, d2, d3, d4, d5] => { results := [.lit (.bool true)], args := [d1, d2, d3, d4, d5] }
  | _ => none }
def spaceOverRow : OpenClaim := { program := "ytpdgnenffiphcaa", sum := "8caafbb7f07ff338ae6c06fa09009b5b980726f2c4cddaacff8b4848fe3b2223", func := "diapause/diapauselaw11.SpaceOver", spec := "spaceOver", apart := false }
def SpaceOverSaid : Prop := spaceOverRow.holds Try.pinned (OpenSpec.ofChange spaceOverSpec)

/-- ITS FALSE NEIGHBOUR: 'it returns false'. Refute it at one input. -/
def spaceOverWrong : ChangeSpec := { name := "spaceOver", fn := fun _ => fun
  | [d1, d2, d3, d4, d5] => { results := [.lit (.bool false)], args := [d1, d2, d3, d4, d5] }
  | _ => none }
def SpaceOverWrongFalsely : Prop := spaceOverRow.holds Try.pinned (OpenSpec.ofChange spaceOverWrong)

/-- 'diapauselaw19.ExtentAll': WHATEVER THE INPUT: true; the input reads as it did. -/
def extentAllSpec : ChangeSpec := { name := "extentAll", fn := fun _ => fun
  | [d1, d2, d3] => { results := [.lit (.bool true)], args := [d1, d2, d3] }
  | _ => none }
def extentAllRow : OpenClaim := { program := "ytpdgnenffiphcaa", sum := "8caafbb7f07ff338ae6c06fa09009b5b980726f2c4cddaacff8b4848fe3b2223", func := "diapause/diapauselaw19.ExtentAll", spec := "extentAll", apart := false }
def ExtentAllSaid : Prop := extentAllRow.holds Try.pinned (OpenSpec.ofChange extentAllSpec)

/-- ITS FALSE NEIGHBOUR: 'it returns false'. Refute it at one input. -/
def extentAllWrong : ChangeSpec := { name := "extentAll", fn := fun _ => fun
  | [d1, d2, d3] => { results := [.lit (.bool false)], args := [d1, d2, d3] }
  | _ => none }
def ExtentAllWrongFalsely : Prop := extentAllRow.holds Try.pinned (OpenSpec.ofChange extentAllWrong)

/-- 'diapauselaw19.ExtentBack': WHATEVER THE INPUT: true; the input reads as it did. -/
def extentBackSpec : ChangeSpec := { name := "extentBack", fn := fun _ => fun
  | [d1, d2] => { results := [.lit (.bool true)], args := [d1, d2] }
  | _ => none }
def extentBackRow : OpenClaim := { program := "ytpdgnenffiphcaa", sum := "8caafbb7f07ff338ae6c06fa09009b5b980726f2c4cddaacff8b4848fe3b2223", func := "diapause/diapauselaw19.ExtentBack", spec := "extentBack", apart := false }
def ExtentBackSaid : Prop := extentBackRow.holds Try.pinned (OpenSpec.ofChange extentBackSpec)

/-- ITS FALSE NEIGHBOUR: 'it returns false'. Refute it at one input. -/
def extentBackWrong : ChangeSpec := { name := "extentBack", fn := fun _ => fun
  | [d1, d2] => { results := [.lit (.bool false)], args := [d1, d2] }
  | _ => none }
def ExtentBackWrongFalsely : Prop := extentBackRow.holds Try.pinned (OpenSpec.ofChange extentBackWrong)

/-- 'diapauselaw19.ExtentFirst': WHATEVER THE INPUT: true; the input reads as it did. -/
def extentFirstSpec : ChangeSpec := { name := "extentFirst", fn := fun _ => fun
  | [d1, d2] => { results := [.lit (.bool true)], args := [d1, d2] }
  | _ => none }
def extentFirstRow : OpenClaim := { program := "ytpdgnenffiphcaa", sum := "8caafbb7f07ff338ae6c06fa09009b5b980726f2c4cddaacff8b4848fe3b2223", func := "diapause/diapauselaw19.ExtentFirst", spec := "extentFirst", apart := false }
def ExtentFirstSaid : Prop := extentFirstRow.holds Try.pinned (OpenSpec.ofChange extentFirstSpec)

/-- ITS FALSE NEIGHBOUR: 'it returns false'. Refute it at one input. -/
def extentFirstWrong : ChangeSpec := { name := "extentFirst", fn := fun _ => fun
  | [d1, d2] => { results := [.lit (.bool false)], args := [d1, d2] }
  | _ => none }
def ExtentFirstWrongFalsely : Prop := extentFirstRow.holds Try.pinned (OpenSpec.ofChange extentFirstWrong)

/-- 'diapauselaw19.ExtentFull': WHATEVER THE INPUT: true; the input reads as it did. -/
def extentFullSpec : ChangeSpec := { name := "extentFull", fn := fun _ => fun
  | [d1, d2] => { results := [.lit (.bool true)], args := [d1, d2] }
  | _ => none }
def extentFullRow : OpenClaim := { program := "ytpdgnenffiphcaa", sum := "8caafbb7f07ff338ae6c06fa09009b5b980726f2c4cddaacff8b4848fe3b2223", func := "diapause/diapauselaw19.ExtentFull", spec := "extentFull", apart := false }
def ExtentFullSaid : Prop := extentFullRow.holds Try.pinned (OpenSpec.ofChange extentFullSpec)

/-- ITS FALSE NEIGHBOUR: 'it returns false'. Refute it at one input. -/
def extentFullWrong : ChangeSpec := { name := "extentFull", fn := fun _ => fun
  | [d1, d2] => { results := [.lit (.bool false)], args := [d1, d2] }
  | _ => none }
def ExtentFullWrongFalsely : Prop := extentFullRow.holds Try.pinned (OpenSpec.ofChange extentFullWrong)

/-- 'diapauselaw19.ExtentCopy': WHATEVER THE INPUT: true; the input reads as it did. -/
def extentCopySpec : ChangeSpec := { name := "extentCopy", fn := fun _ => fun
  | [d1, d2] => { results := [.lit (.bool true)], args := [d1, d2] }
  | _ => none }
def extentCopyRow : OpenClaim := { program := "ytpdgnenffiphcaa", sum := "8caafbb7f07ff338ae6c06fa09009b5b980726f2c4cddaacff8b4848fe3b2223", func := "diapause/diapauselaw19.ExtentCopy", spec := "extentCopy", apart := false }
def ExtentCopySaid : Prop := extentCopyRow.holds Try.pinned (OpenSpec.ofChange extentCopySpec)

/-- ITS FALSE NEIGHBOUR: 'it returns false'. Refute it at one input. -/
def extentCopyWrong : ChangeSpec := { name := "extentCopy", fn := fun _ => fun
  | [d1, d2] => { results := [.lit (.bool false)], args := [d1, d2] }
  | _ => none }
def ExtentCopyWrongFalsely : Prop := extentCopyRow.holds Try.pinned (OpenSpec.ofChange extentCopyWrong)

/-- 'diapauselaw19.ExtentNone': WHATEVER THE INPUT: true; the input reads as it did. -/
def extentNoneSpec : ChangeSpec := { name := "extentNone", fn := fun _ => fun
  | [] => { results := [.lit (.bool true)], args := [] }
  | _ => none }
def extentNoneRow : OpenClaim := { program := "ytpdgnenffiphcaa", sum := "8caafbb7f07ff338ae6c06fa09009b5b980726f2c4cddaacff8b4848fe3b2223", func := "diapause/diapauselaw19.ExtentNone", spec := "extentNone", apart := false }
def ExtentNoneSaid : Prop := extentNoneRow.holds Try.pinned (OpenSpec.ofChange extentNoneSpec)

/-- ITS FALSE NEIGHBOUR: 'it returns false'. Refute it at one input. -/
def extentNoneWrong : ChangeSpec := { name := "extentNone", fn := fun _ => fun
  | [] => { results := [.lit (.bool false)], args := [] }
  | _ => none }
def ExtentNoneWrongFalsely : Prop := extentNoneRow.holds Try.pinned (OpenSpec.ofChange extentNoneWrong)

/- THE SECOND FORM. 'bulk': how many values and letters a reading holds, each counted each time it is reached (what is shared counts as often as it is met; a slice's spare places count too). A statement '..UptoSaid' is the law's where the arguments, and the package variables that the reading takes, are together of bulk at most 1048576: NARROWER than '..Said'. Prove '..Said' where nothing that the law and all that it calls make is longer than what came in: it says more and counts as full. Else prove '..UptoSaid'. A law counts once. -/
mutual
def uptoBulk {H : Type} : DataW H → Nat
  | .lit (.string bytes) => bytes.length + 1
  | .lit _ => 1
  | .nil => 1
  | .ptr d => uptoBulk d + 1
  | .slice elems spare => uptoBulkAll elems + uptoBulkAll spare + 1
  | .agg parts => uptoBulkAll parts + 1
  | .iface _ d => uptoBulk d + 1
  | .map entries => uptoBulkEntries entries + 1
  | .held _ => 1
def uptoBulkAll {H : Type} : List (DataW H) → Nat
  | [] => 0
  | d :: r => uptoBulk d + uptoBulkAll r
def uptoBulkEntries {H : Type} : List (Lit × DataW H) → Nat
  | [] => 0
  | x :: r => uptoBulkEntry x + uptoBulkEntries r
def uptoBulkEntry {H : Type} : Lit × DataW H → Nat
  | (.string bytes, d) => bytes.length + uptoBulk d + 1
  | (_, d) => uptoBulk d + 1
 end
def uptoSmall : (H : Type) → List (DataW H) → Bool := fun _ ds => decide (uptoBulkAll ds ≤ 1048576)
def OpenSpec.upto (s : _root_.Go.ChangeSpec) : _root_.Go.OpenSpec := { _root_.Go.OpenSpec.ofChange s with cond := some uptoSmall }

/-- 'diapauselaw11.SpaceAll', WHERE WHAT IT READS IS OF BULK AT MOST 1048576: true; the input reads as it did. -/
def spaceAllUptoRow : OpenClaim := { program := "ytpdgnenffiphcaa", sum := "8caafbb7f07ff338ae6c06fa09009b5b980726f2c4cddaacff8b4848fe3b2223", func := "diapause/diapauselaw11.SpaceAll", spec := "spaceAll", apart := false, narrowed := true }
def SpaceAllUptoSaid : Prop := spaceAllUptoRow.holds Try.pinned (OpenSpec.upto spaceAllSpec)

/-- 'diapauselaw11.SpaceNone', WHERE WHAT IT READS IS OF BULK AT MOST 1048576: true; the input reads as it did. -/
def spaceNoneUptoRow : OpenClaim := { program := "ytpdgnenffiphcaa", sum := "8caafbb7f07ff338ae6c06fa09009b5b980726f2c4cddaacff8b4848fe3b2223", func := "diapause/diapauselaw11.SpaceNone", spec := "spaceNone", apart := false, narrowed := true }
def SpaceNoneUptoSaid : Prop := spaceNoneUptoRow.holds Try.pinned (OpenSpec.upto spaceNoneSpec)

/-- 'diapauselaw11.SpaceOver', WHERE WHAT IT READS IS OF BULK AT MOST 1048576: true; the input reads as it did. -/
def spaceOverUptoRow : OpenClaim := { program := "ytpdgnenffiphcaa", sum := "8caafbb7f07ff338ae6c06fa09009b5b980726f2c4cddaacff8b4848fe3b2223", func := "diapause/diapauselaw11.SpaceOver", spec := "spaceOver", apart := false, narrowed := true }
def SpaceOverUptoSaid : Prop := spaceOverUptoRow.holds Try.pinned (OpenSpec.upto spaceOverSpec)

/-- 'diapauselaw19.ExtentAll', WHERE WHAT IT READS IS OF BULK AT MOST 1048576: true; the input reads as it did. -/
def extentAllUptoRow : OpenClaim := { program := "ytpdgnenffiphcaa", sum := "8caafbb7f07ff338ae6c06fa09009b5b980726f2c4cddaacff8b4848fe3b2223", func := "diapause/diapauselaw19.ExtentAll", spec := "extentAll", apart := false, narrowed := true }
def ExtentAllUptoSaid : Prop := extentAllUptoRow.holds Try.pinned (OpenSpec.upto extentAllSpec)

/-- 'diapauselaw19.ExtentBack', WHERE WHAT IT READS IS OF BULK AT MOST 1048576: true; the input reads as it did. -/
def extentBackUptoRow : OpenClaim := { program := "ytpdgnenffiphcaa", sum := "8caafbb7f07ff338ae6c06fa09009b5b980726f2c4cddaacff8b4848fe3b2223", func := "diapause/diapauselaw19.ExtentBack", spec := "extentBack", apart := false, narrowed := true }
def ExtentBackUptoSaid : Prop := extentBackUptoRow.holds Try.pinned (OpenSpec.upto extentBackSpec)

/-- 'diapauselaw19.ExtentFirst', WHERE WHAT IT READS IS OF BULK AT MOST 1048576: true; the input reads as it did. -/
def extentFirstUptoRow : OpenClaim := { program := "ytpdgnenffiphcaa", sum := "8caafbb7f07ff338ae6c06fa09009b5b980726f2c4cddaacff8b4848fe3b2223", func := "diapause/diapauselaw19.ExtentFirst", spec := "extentFirst", apart := false, narrowed := true }
def ExtentFirstUptoSaid : Prop := extentFirstUptoRow.holds Try.pinned (OpenSpec.upto extentFirstSpec)

/-- 'diapauselaw19.ExtentFull', WHERE WHAT IT READS IS OF BULK AT MOST 1048576: true; the input reads as it did. -/
def extentFullUptoRow : OpenClaim := { program := "ytpdgnenffiphcaa", sum := "8caafbb7f07ff338ae6c06fa09009b5b980726f2c4cddaacff8b4848fe3b2223", func := "diapause/diapauselaw19.ExtentFull", spec := "extentFull", apart := false, narrowed := true }
def ExtentFullUptoSaid : Prop := extentFullUptoRow.holds Try.pinned (OpenSpec.upto extentFullSpec)

/-- 'diapauselaw19.ExtentCopy', WHERE WHAT IT READS IS OF BULK AT MOST 1048576: true; the input reads as it did. -/
def extentCopyUptoRow : OpenClaim := { program := "ytpdgnenffiphcaa", sum := "8caafbb7f07ff338ae6c06fa09009b5b980726f2c4cddaacff8b4848fe3b2223", func := "diapause/diapauselaw19.ExtentCopy", spec := "extentCopy", apart := false, narrowed := true }
def ExtentCopyUptoSaid : Prop := extentCopyUptoRow.holds Try.pinned (OpenSpec.upto extentCopySpec)

/-- 'diapauselaw19.ExtentNone', WHERE WHAT IT READS IS OF BULK AT MOST 1048576: true; the input reads as it did. -/
def extentNoneUptoRow : OpenClaim := { program := "ytpdgnenffiphcaa", sum := "8caafbb7f07ff338ae6c06fa09009b5b980726f2c4cddaacff8b4848fe3b2223", func := "diapause/diapauselaw19.ExtentNone", spec := "extentNone", apart := false, narrowed := true }
def ExtentNoneUptoSaid : Prop := extentNoneUptoRow.holds Try.pinned (OpenSpec.upto extentNoneSpec)

end Rows
end Go.Proofs.Ytpdgnenffiphcaa
