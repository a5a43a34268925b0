/-
  No cell of these rows narrows 'for every input' (looked for: loops, veiled, ifaces, maps, wideKeys, modest, calm, conditions, laid).
  DERIVED. THE GIVEN ROWS OF THIS SEAT. 13 by the template 'for every input the law returns true; each argument reads behind the call as it read before'; 0 by the template 'total and deterministic' (their statements: YtjpdadobblffmaaGreatTotals.lean).
  GIVEN WITH THE SEED: the statements are not yours to turn. If you find one false, say at which input.
  Laid BY PROGRAM, IN A SANDBOX (cutbox-rows.mjs): the forced cells as the released guide's own fill.sh prints them over the translation eca37d09fac68eae… (all of the seat's roots in one cut). By AI agents, Wed Nov 11 2026. No macro, syntax, notation, axiom, sorry.
-/
import Derived.Test.YtjpdadobblffmaaGreatChecked
import GoSem.Claim
import GoSem.ClaimJoined
import GoSem.ClaimMapViews
import Derived.JoinedTies
import Derived.KernelRfl
namespace Go.Proofs.YtjpdadobblffmaaGreat
/- THE CELL 'sum', in the pinned program and in every row, IS THE sha256 OF THE DUMP (.gsa) THAT YtjpdadobblffmaaGreatProg.lean LOADS. Nothing in Lean hashes anything: it is a label: what it is worth is what the hold of that sum in a sandbox is worth. -/
noncomputable def Tryz.pinned : Pinned := { name := "ytjpdadobblffmaagreat", sum := "eca37d09fac68eae0a2eba9cb383d7a8c5dc7f05e797dfe68c4da3234496ed1e", checked := Tryz.checked }
namespace Rows
def none {H : Type} : Left H := { results := [], args := [] }

/-- 'diapauselaw7.WasmOwn': WHATEVER THE INPUT: true; the input reads as it did. -/
def wasmOwnSpec : ChangeSpec := { name := "wasmOwn", fn := fun _ => fun
  | [d1, d2] => { results := [.lit (.bool true)], args := [d1, d2] }
  | _ => none }
def wasmOwnRow : OpenClaim := { program := "ytjpdadobblffmaagreat", sum := "eca37d09fac68eae0a2eba9cb383d7a8c5dc7f05e797dfe68c4da3234496ed1e", func := "diapause/diapauselaw7.WasmOwn", spec := "wasmOwn", unfollowed := true, recurses := true, apart := false }
def WasmOwnSaid : Prop := wasmOwnRow.holds Tryz.pinned (OpenSpec.ofChange wasmOwnSpec)

/-- ITS FALSE NEIGHBOUR: 'it returns false'. Refute it at one input. -/
def wasmOwnWrong : ChangeSpec := { name := "wasmOwn", fn := fun _ => fun
  | [d1, d2] => { results := [.lit (.bool false)], args := [d1, d2] }
  | _ => none }
def WasmOwnWrongFalsely : Prop := wasmOwnRow.holds Tryz.pinned (OpenSpec.ofChange wasmOwnWrong)

/-- 'diapauselaw8.CheckAll': WHATEVER THE INPUT: true; the input reads as it did. -/
def checkAllSpec : ChangeSpec := { name := "checkAll", fn := fun _ => fun
  | [d] => { results := [.lit (.bool true)], args := [d] }
  | _ => none }
def checkAllRow : OpenClaim := { program := "ytjpdadobblffmaagreat", sum := "eca37d09fac68eae0a2eba9cb383d7a8c5dc7f05e797dfe68c4da3234496ed1e", func := "diapause/diapauselaw8.CheckAll", spec := "checkAll", unfollowed := true, recurses := true, apart := false }
def CheckAllSaid : Prop := checkAllRow.holds Tryz.pinned (OpenSpec.ofChange checkAllSpec)

/-- ITS FALSE NEIGHBOUR: 'it returns false'. Refute it at one input. -/
def checkAllWrong : ChangeSpec := { name := "checkAll", fn := fun _ => fun
  | [d] => { results := [.lit (.bool false)], args := [d] }
  | _ => none }
def CheckAllWrongFalsely : Prop := checkAllRow.holds Tryz.pinned (OpenSpec.ofChange checkAllWrong)

/-- 'diapauselaw8.CheckBody': WHATEVER THE INPUT: true; the input reads as it did. -/
def checkBodySpec : ChangeSpec := { name := "checkBody", fn := fun _ => fun
  | [d1, d2, d3, d4] => { results := [.lit (.bool true)], args := [d1, d2, d3, d4] }
  | _ => none }
def checkBodyRow : OpenClaim := { program := "ytjpdadobblffmaagreat", sum := "eca37d09fac68eae0a2eba9cb383d7a8c5dc7f05e797dfe68c4da3234496ed1e", func := "diapause/diapauselaw8.CheckBody", spec := "checkBody", unfollowed := true, recurses := true, apart := false }
def CheckBodySaid : Prop := checkBodyRow.holds Tryz.pinned (OpenSpec.ofChange checkBodySpec)

/-- ITS FALSE NEIGHBOUR: 'it returns false'. Refute it at one input. -/
def checkBodyWrong : ChangeSpec := { name := "checkBody", fn := fun _ => fun
  | [d1, d2, d3, d4] => { results := [.lit (.bool false)], args := [d1, d2, d3, d4] }
  | _ => none }
def CheckBodyWrongFalsely : Prop := checkBodyRow.holds Tryz.pinned (OpenSpec.ofChange checkBodyWrong)

/-- 'diapauselaw8.CheckDead': WHATEVER THE INPUT: true; the input reads as it did. -/
def checkDeadSpec : ChangeSpec := { name := "checkDead", fn := fun _ => fun
  | [d1, d2, d3] => { results := [.lit (.bool true)], args := [d1, d2, d3] }
  | _ => none }
def checkDeadRow : OpenClaim := { program := "ytjpdadobblffmaagreat", sum := "eca37d09fac68eae0a2eba9cb383d7a8c5dc7f05e797dfe68c4da3234496ed1e", func := "diapause/diapauselaw8.CheckDead", spec := "checkDead", unfollowed := true, recurses := true, apart := false }
def CheckDeadSaid : Prop := checkDeadRow.holds Tryz.pinned (OpenSpec.ofChange checkDeadSpec)

/-- ITS FALSE NEIGHBOUR: 'it returns false'. Refute it at one input. -/
def checkDeadWrong : ChangeSpec := { name := "checkDead", fn := fun _ => fun
  | [d1, d2, d3] => { results := [.lit (.bool false)], args := [d1, d2, d3] }
  | _ => none }
def CheckDeadWrongFalsely : Prop := checkDeadRow.holds Tryz.pinned (OpenSpec.ofChange checkDeadWrong)

/-- 'diapauselaw8.CheckKinds': WHATEVER THE INPUT: true; the input reads as it did. -/
def checkKindsSpec : ChangeSpec := { name := "checkKinds", fn := fun _ => fun
  | [d1, d2, d3, d4] => { results := [.lit (.bool true)], args := [d1, d2, d3, d4] }
  | _ => none }
def checkKindsRow : OpenClaim := { program := "ytjpdadobblffmaagreat", sum := "eca37d09fac68eae0a2eba9cb383d7a8c5dc7f05e797dfe68c4da3234496ed1e", func := "diapause/diapauselaw8.CheckKinds", spec := "checkKinds", unfollowed := true, recurses := true, apart := false }
def CheckKindsSaid : Prop := checkKindsRow.holds Tryz.pinned (OpenSpec.ofChange checkKindsSpec)

/-- ITS FALSE NEIGHBOUR: 'it returns false'. Refute it at one input. -/
def checkKindsWrong : ChangeSpec := { name := "checkKinds", fn := fun _ => fun
  | [d1, d2, d3, d4] => { results := [.lit (.bool false)], args := [d1, d2, d3, d4] }
  | _ => none }
def CheckKindsWrongFalsely : Prop := checkKindsRow.holds Tryz.pinned (OpenSpec.ofChange checkKindsWrong)

/-- 'diapauselaw8.CheckBranch': WHATEVER THE INPUT: true; the input reads as it did. -/
def checkBranchSpec : ChangeSpec := { name := "checkBranch", fn := fun _ => fun
  | [d1, d2, d3, d4] => { results := [.lit (.bool true)], args := [d1, d2, d3, d4] }
  | _ => none }
def checkBranchRow : OpenClaim := { program := "ytjpdadobblffmaagreat", sum := "eca37d09fac68eae0a2eba9cb383d7a8c5dc7f05e797dfe68c4da3234496ed1e", func := "diapause/diapauselaw8.CheckBranch", spec := "checkBranch", unfollowed := true, recurses := true, apart := false }
def CheckBranchSaid : Prop := checkBranchRow.holds Tryz.pinned (OpenSpec.ofChange checkBranchSpec)

/-- ITS FALSE NEIGHBOUR: 'it returns false'. Refute it at one input. -/
def checkBranchWrong : ChangeSpec := { name := "checkBranch", fn := fun _ => fun
  | [d1, d2, d3, d4] => { results := [.lit (.bool false)], args := [d1, d2, d3, d4] }
  | _ => none }
def CheckBranchWrongFalsely : Prop := checkBranchRow.holds Tryz.pinned (OpenSpec.ofChange checkBranchWrong)

/-- 'diapauselaw9.ValidAll': WHATEVER THE INPUT: true; the input reads as it did. -/
def validAllSpec : ChangeSpec := { name := "validAll", fn := fun _ => fun
  | [d] => { results := [.lit (.bool true)], args := [d] }
  | _ => none }
def validAllRow : OpenClaim := { program := "ytjpdadobblffmaagreat", sum := "eca37d09fac68eae0a2eba9cb383d7a8c5dc7f05e797dfe68c4da3234496ed1e", func := "diapause/diapauselaw9.ValidAll", spec := "validAll", unfollowed := true, recurses := true, apart := false }
def ValidAllSaid : Prop := validAllRow.holds Tryz.pinned (OpenSpec.ofChange validAllSpec)

/-- ITS FALSE NEIGHBOUR: 'it returns false'. Refute it at one input. -/
def validAllWrong : ChangeSpec := { name := "validAll", fn := fun _ => fun
  | [d] => { results := [.lit (.bool false)], args := [d] }
  | _ => none }
def ValidAllWrongFalsely : Prop := validAllRow.holds Tryz.pinned (OpenSpec.ofChange validAllWrong)

/-- 'diapauselaw9.ValidOne': WHATEVER THE INPUT: true; the input reads as it did. -/
def validOneSpec : ChangeSpec := { name := "validOne", fn := fun _ => fun
  | [d1, d2, d3, d4] => { results := [.lit (.bool true)], args := [d1, d2, d3, d4] }
  | _ => none }
def validOneRow : OpenClaim := { program := "ytjpdadobblffmaagreat", sum := "eca37d09fac68eae0a2eba9cb383d7a8c5dc7f05e797dfe68c4da3234496ed1e", func := "diapause/diapauselaw9.ValidOne", spec := "validOne", unfollowed := true, recurses := true, apart := false }
def ValidOneSaid : Prop := validOneRow.holds Tryz.pinned (OpenSpec.ofChange validOneSpec)

/-- ITS FALSE NEIGHBOUR: 'it returns false'. Refute it at one input. -/
def validOneWrong : ChangeSpec := { name := "validOne", fn := fun _ => fun
  | [d1, d2, d3, d4] => { results := [.lit (.bool false)], args := [d1, d2, d3, d4] }
  | _ => none }
def ValidOneWrongFalsely : Prop := validOneRow.holds Tryz.pinned (OpenSpec.ofChange validOneWrong)

/-- 'diapauselaw12.InstNone': WHATEVER THE INPUT: true; the input reads as it did. -/
def instNoneSpec : ChangeSpec := { name := "instNone", fn := fun _ => fun
  | [] => { results := [.lit (.bool true)], args := [] }
  | _ => none }
def instNoneRow : OpenClaim := { program := "ytjpdadobblffmaagreat", sum := "eca37d09fac68eae0a2eba9cb383d7a8c5dc7f05e797dfe68c4da3234496ed1e", func := "diapause/diapauselaw12.InstNone", spec := "instNone", inPlace := ["slices.overlaps[int]"], unfollowed := true, recurses := true, apart := false }
def InstNoneSaid : Prop := instNoneRow.holds Tryz.pinned (OpenSpec.ofChange instNoneSpec)

/-- ITS FALSE NEIGHBOUR: 'it returns false'. Refute it at one input. -/
def instNoneWrong : ChangeSpec := { name := "instNone", fn := fun _ => fun
  | [] => { results := [.lit (.bool false)], args := [] }
  | _ => none }
def InstNoneWrongFalsely : Prop := instNoneRow.holds Tryz.pinned (OpenSpec.ofChange instNoneWrong)

/-- 'diapauselaw12.InstOver': WHATEVER THE INPUT: true; the input reads as it did. -/
def instOverSpec : ChangeSpec := { name := "instOver", fn := fun _ => fun
  | [d1, d2, d3] => { results := [.lit (.bool true)], args := [d1, d2, d3] }
  | _ => none }
def instOverRow : OpenClaim := { program := "ytjpdadobblffmaagreat", sum := "eca37d09fac68eae0a2eba9cb383d7a8c5dc7f05e797dfe68c4da3234496ed1e", func := "diapause/diapauselaw12.InstOver", spec := "instOver", inPlace := ["slices.overlaps[int]"], unfollowed := true, recurses := true, apart := false }
def InstOverSaid : Prop := instOverRow.holds Tryz.pinned (OpenSpec.ofChange instOverSpec)

/-- ITS FALSE NEIGHBOUR: 'it returns false'. Refute it at one input. -/
def instOverWrong : ChangeSpec := { name := "instOver", fn := fun _ => fun
  | [d1, d2, d3] => { results := [.lit (.bool false)], args := [d1, d2, d3] }
  | _ => none }
def InstOverWrongFalsely : Prop := instOverRow.holds Tryz.pinned (OpenSpec.ofChange instOverWrong)

/-- 'diapauselaw12.InstTwice': WHATEVER THE INPUT: true; the input reads as it did. -/
def instTwiceSpec : ChangeSpec := { name := "instTwice", fn := fun _ => fun
  | [d1, d2] => { results := [.lit (.bool true)], args := [d1, d2] }
  | _ => none }
def instTwiceRow : OpenClaim := { program := "ytjpdadobblffmaagreat", sum := "eca37d09fac68eae0a2eba9cb383d7a8c5dc7f05e797dfe68c4da3234496ed1e", func := "diapause/diapauselaw12.InstTwice", spec := "instTwice", inPlace := ["slices.overlaps[int]"], unfollowed := true, recurses := true, apart := false }
def InstTwiceSaid : Prop := instTwiceRow.holds Tryz.pinned (OpenSpec.ofChange instTwiceSpec)

/-- ITS FALSE NEIGHBOUR: 'it returns false'. Refute it at one input. -/
def instTwiceWrong : ChangeSpec := { name := "instTwice", fn := fun _ => fun
  | [d1, d2] => { results := [.lit (.bool false)], args := [d1, d2] }
  | _ => none }
def InstTwiceWrongFalsely : Prop := instTwiceRow.holds Tryz.pinned (OpenSpec.ofChange instTwiceWrong)

/-- 'diapauselaw12.InstAll': WHATEVER THE INPUT: true; the input reads as it did. -/
def instAllSpec : ChangeSpec := { name := "instAll", fn := fun _ => fun
  | [d1, d2, d3] => { results := [.lit (.bool true)], args := [d1, d2, d3] }
  | _ => none }
def instAllRow : OpenClaim := { program := "ytjpdadobblffmaagreat", sum := "eca37d09fac68eae0a2eba9cb383d7a8c5dc7f05e797dfe68c4da3234496ed1e", func := "diapause/diapauselaw12.InstAll", spec := "instAll", inPlace := ["slices.overlaps[int]"], unfollowed := true, recurses := true, apart := false }
def InstAllSaid : Prop := instAllRow.holds Tryz.pinned (OpenSpec.ofChange instAllSpec)

/-- ITS FALSE NEIGHBOUR: 'it returns false'. Refute it at one input. -/
def instAllWrong : ChangeSpec := { name := "instAll", fn := fun _ => fun
  | [d1, d2, d3] => { results := [.lit (.bool false)], args := [d1, d2, d3] }
  | _ => none }
def InstAllWrongFalsely : Prop := instAllRow.holds Tryz.pinned (OpenSpec.ofChange instAllWrong)

/-- 'diapauselaw12.InstPlaces': WHATEVER THE INPUT: true; the input reads as it did. -/
def instPlacesSpec : ChangeSpec := { name := "instPlaces", fn := fun _ => fun
  | [d1, d2, d3, d4] => { results := [.lit (.bool true)], args := [d1, d2, d3, d4] }
  | _ => none }
def instPlacesRow : OpenClaim := { program := "ytjpdadobblffmaagreat", sum := "eca37d09fac68eae0a2eba9cb383d7a8c5dc7f05e797dfe68c4da3234496ed1e", func := "diapause/diapauselaw12.InstPlaces", spec := "instPlaces", inPlace := ["slices.overlaps[int]"], unfollowed := true, recurses := true, apart := false }
def InstPlacesSaid : Prop := instPlacesRow.holds Tryz.pinned (OpenSpec.ofChange instPlacesSpec)

/-- ITS FALSE NEIGHBOUR: 'it returns false'. Refute it at one input. -/
def instPlacesWrong : ChangeSpec := { name := "instPlaces", fn := fun _ => fun
  | [d1, d2, d3, d4] => { results := [.lit (.bool false)], args := [d1, d2, d3, d4] }
  | _ => none }
def InstPlacesWrongFalsely : Prop := instPlacesRow.holds Tryz.pinned (OpenSpec.ofChange instPlacesWrong)

/- THE SECOND FORM. 'bulk': how many values and letters a reading holds, each counted each time it is reached (what is shared counts as often as it is met; a slice's spare places count too). A statement '..UptoSaid' is the law's where the arguments, and the package variables that the reading takes, are together of bulk at most 1048576: NARROWER than '..Said'. Prove '..Said' where nothing that the law and all that it calls make is longer than what came in: it says more and counts as full. Else prove '..UptoSaid'. A law counts once. -/
mutual
def uptoBulk {H : Type} : DataW H → Nat
  | .lit (.string bytes) => bytes.length + 1
  | .lit _ => 1
  | .nil => 1
  | .ptr d => uptoBulk d + 1
  | .slice elems spare => uptoBulkAll elems + uptoBulkAll spare + 1
  | .agg parts => uptoBulkAll parts + 1
  | .iface _ d => uptoBulk d + 1
  | .map entries => uptoBulkEntries entries + 1
  | .held _ => 1
def uptoBulkAll {H : Type} : List (DataW H) → Nat
  | [] => 0
  | d :: r => uptoBulk d + uptoBulkAll r
def uptoBulkEntries {H : Type} : List (Lit × DataW H) → Nat
  | [] => 0
  | x :: r => uptoBulkEntry x + uptoBulkEntries r
def uptoBulkEntry {H : Type} : Lit × DataW H → Nat
  | (.string bytes, d) => bytes.length + uptoBulk d + 1
  | (_, d) => uptoBulk d + 1
 end
def uptoSmall : (H : Type) → List (DataW H) → Bool := fun _ ds => decide (uptoBulkAll ds ≤ 1048576)
def OpenSpec.upto (s : _root_.Go.ChangeSpec) : _root_.Go.OpenSpec := { _root_.Go.OpenSpec.ofChange s with cond := some uptoSmall }

/-- 'diapauselaw7.WasmOwn', WHERE WHAT IT READS IS OF BULK AT MOST 1048576: true; the input reads as it did. -/
def wasmOwnUptoRow : OpenClaim := { program := "ytjpdadobblffmaagreat", sum := "eca37d09fac68eae0a2eba9cb383d7a8c5dc7f05e797dfe68c4da3234496ed1e", func := "diapause/diapauselaw7.WasmOwn", spec := "wasmOwn", unfollowed := true, recurses := true, apart := false, narrowed := true }
def WasmOwnUptoSaid : Prop := wasmOwnUptoRow.holds Tryz.pinned (OpenSpec.upto wasmOwnSpec)

/-- 'diapauselaw8.CheckAll', WHERE WHAT IT READS IS OF BULK AT MOST 1048576: true; the input reads as it did. -/
def checkAllUptoRow : OpenClaim := { program := "ytjpdadobblffmaagreat", sum := "eca37d09fac68eae0a2eba9cb383d7a8c5dc7f05e797dfe68c4da3234496ed1e", func := "diapause/diapauselaw8.CheckAll", spec := "checkAll", unfollowed := true, recurses := true, apart := false, narrowed := true }
def CheckAllUptoSaid : Prop := checkAllUptoRow.holds Tryz.pinned (OpenSpec.upto checkAllSpec)

/-- 'diapauselaw8.CheckBody', WHERE WHAT IT READS IS OF BULK AT MOST 1048576: true; the input reads as it did. -/
def checkBodyUptoRow : OpenClaim := { program := "ytjpdadobblffmaagreat", sum := "eca37d09fac68eae0a2eba9cb383d7a8c5dc7f05e797dfe68c4da3234496ed1e", func := "diapause/diapauselaw8.CheckBody", spec := "checkBody", unfollowed := true, recurses := true, apart := false, narrowed := true }
def CheckBodyUptoSaid : Prop := checkBodyUptoRow.holds Tryz.pinned (OpenSpec.upto checkBodySpec)

/-- 'diapauselaw8.CheckDead', WHERE WHAT IT READS IS OF BULK AT MOST 1048576: true; the input reads as it did. -/
def checkDeadUptoRow : OpenClaim := { program := "ytjpdadobblffmaagreat", sum := "eca37d09fac68eae0a2eba9cb383d7a8c5dc7f05e797dfe68c4da3234496ed1e", func := "diapause/diapauselaw8.CheckDead", spec := "checkDead", unfollowed := true, recurses := true, apart := false, narrowed := true }
def CheckDeadUptoSaid : Prop := checkDeadUptoRow.holds Tryz.pinned (OpenSpec.upto checkDeadSpec)

/-- 'diapauselaw8.CheckKinds', WHERE WHAT IT READS IS OF BULK AT MOST 1048576: true; the input reads as it did. -/
def checkKindsUptoRow : OpenClaim := { program := "ytjpdadobblffmaagreat", sum := "eca37d09fac68eae0a2eba9cb383d7a8c5dc7f05e797dfe68c4da3234496ed1e", func := "diapause/diapauselaw8.CheckKinds", spec := "checkKinds", unfollowed := true, recurses := true, apart := false, narrowed := true }
def CheckKindsUptoSaid : Prop := checkKindsUptoRow.holds Tryz.pinned (OpenSpec.upto checkKindsSpec)

/-- 'diapauselaw8.CheckBranch', WHERE WHAT IT READS IS OF BULK AT MOST 1048576: true; the input reads as it did. -/
def checkBranchUptoRow : OpenClaim := { program := "ytjpdadobblffmaagreat", sum := "eca37d09fac68eae0a2eba9cb383d7a8c5dc7f05e797dfe68c4da3234496ed1e", func := "diapause/diapauselaw8.CheckBranch", spec := "checkBranch", unfollowed := true, recurses := true, apart := false, narrowed := true }
def CheckBranchUptoSaid : Prop := checkBranchUptoRow.holds Tryz.pinned (OpenSpec.upto checkBranchSpec)

/-- 'diapauselaw9.ValidAll', WHERE WHAT IT READS IS OF BULK AT MOST 1048576: true; the input reads as it did. -/
def validAllUptoRow : OpenClaim := { program := "ytjpdadobblffmaagreat", sum := "eca37d09fac68eae0a2eba9cb383d7a8c5dc7f05e797dfe68c4da3234496ed1e", func := "diapause/diapauselaw9.ValidAll", spec := "validAll", unfollowed := true, recurses := true, apart := false, narrowed := true }
def ValidAllUptoSaid : Prop := validAllUptoRow.holds Tryz.pinned (OpenSpec.upto validAllSpec)

/-- 'diapauselaw9.ValidOne', WHERE WHAT IT READS IS OF BULK AT MOST 1048576: true; the input reads as it did. -/
def validOneUptoRow : OpenClaim := { program := "ytjpdadobblffmaagreat", sum := "eca37d09fac68eae0a2eba9cb383d7a8c5dc7f05e797dfe68c4da3234496ed1e", func := "diapause/diapauselaw9.ValidOne", spec := "validOne", unfollowed := true, recurses := true, apart := false, narrowed := true }
def ValidOneUptoSaid : Prop := validOneUptoRow.holds Tryz.pinned (OpenSpec.upto validOneSpec)

/-- 'diapauselaw12.InstNone', WHERE WHAT IT READS IS OF BULK AT MOST 1048576: true; the input reads as it did. -/
def instNoneUptoRow : OpenClaim := { program := "ytjpdadobblffmaagreat", sum := "eca37d09fac68eae0a2eba9cb383d7a8c5dc7f05e797dfe68c4da3234496ed1e", func := "diapause/diapauselaw12.InstNone", spec := "instNone", inPlace := ["slices.overlaps[int]"], unfollowed := true, recurses := true, apart := false, narrowed := true }
def InstNoneUptoSaid : Prop := instNoneUptoRow.holds Tryz.pinned (OpenSpec.upto instNoneSpec)

/-- 'diapauselaw12.InstOver', WHERE WHAT IT READS IS OF BULK AT MOST 1048576: true; the input reads as it did. -/
def instOverUptoRow : OpenClaim := { program := "ytjpdadobblffmaagreat", sum := "eca37d09fac68eae0a2eba9cb383d7a8c5dc7f05e797dfe68c4da3234496ed1e", func := "diapause/diapauselaw12.InstOver", spec := "instOver", inPlace := ["slices.overlaps[int]"], unfollowed := true, recurses := true, apart := false, narrowed := true }
def InstOverUptoSaid : Prop := instOverUptoRow.holds Tryz.pinned (OpenSpec.upto instOverSpec)

/-- 'diapauselaw12.InstTwice', WHERE WHAT IT READS IS OF BULK AT MOST 1048576: true; the input reads as it did. -/
def instTwiceUptoRow : OpenClaim := { program := "ytjpdadobblffmaagreat", sum := "eca37d09fac68eae0a2eba9cb383d7a8c5dc7f05e797dfe68c4da3234496ed1e", func := "diapause/diapauselaw12.InstTwice", spec := "instTwice", inPlace := ["slices.overlaps[int]"], unfollowed := true, recurses := true, apart := false, narrowed := true }
def InstTwiceUptoSaid : Prop := instTwiceUptoRow.holds Tryz.pinned (OpenSpec.upto instTwiceSpec)

/-- 'diapauselaw12.InstAll', WHERE WHAT IT READS IS OF BULK AT MOST 1048576: true; the input reads as it did. -/
def instAllUptoRow : OpenClaim := { program := "ytjpdadobblffmaagreat", sum := "eca37d09fac68eae0a2eba9cb383d7a8c5dc7f05e797dfe68c4da3234496ed1e", func := "diapause/diapauselaw12.InstAll", spec := "instAll", inPlace := ["slices.overlaps[int]"], unfollowed := true, recurses := true, apart := false, narrowed := true }
def InstAllUptoSaid : Prop := instAllUptoRow.holds Tryz.pinned (OpenSpec.upto instAllSpec)

/-- 'diapauselaw12.InstPlaces', WHERE WHAT IT READS IS OF BULK AT MOST 1048576: true; the input reads as it did. -/
def instPlacesUptoRow : OpenClaim := { program := "ytjpdadobblffmaagreat", sum := "eca37d09fac68eae0a2eba9cb383d7a8c5dc7f05e797dfe68c4da3234496ed1e", func := "diapause/diapauselaw12.InstPlaces", spec := "instPlaces", inPlace := ["slices.overlaps[int]"], unfollowed := true, recurses := true, apart := false, narrowed := true }
def InstPlacesUptoSaid : Prop := instPlacesUptoRow.holds Tryz.pinned (OpenSpec.upto instPlacesSpec)

end Rows
end Go.Proofs.YtjpdadobblffmaaGreat
