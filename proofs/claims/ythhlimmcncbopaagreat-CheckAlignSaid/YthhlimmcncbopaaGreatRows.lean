/-
  No cell of these rows narrows 'for every input' (looked for: loops, veiled, ifaces, maps, wideKeys, modest, calm, conditions, laid).
  DERIVED. THE GIVEN ROWS OF THIS SEAT. 11 by the template 'for every input the law returns true; each argument reads behind the call as it read before'; 0 by the template 'total and deterministic' (their statements: YthhlimmcncbopaaGreatTotals.lean).
  GIVEN WITH THE SEED: the statements are not yours to turn. If you find one false, say at which input.
  Laid BY PROGRAM, IN A SANDBOX (cutbox-rows.mjs): the forced cells as the released guide's own fill.sh prints them over the translation 7728098980c63421… (all of the seat's roots in one cut). By AI agents, Wed Nov 11 2026. No macro, syntax, notation, axiom, sorry.
-/
import Derived.Test.YthhlimmcncbopaaGreatChecked
import GoSem.Claim
import GoSem.ClaimJoined
import GoSem.ClaimMapViews
import Derived.JoinedTies
import Derived.KernelRfl
namespace Go.Proofs.YthhlimmcncbopaaGreat
/- THE CELL 'sum', in the pinned program and in every row, IS THE sha256 OF THE DUMP (.gsa) THAT YthhlimmcncbopaaGreatProg.lean LOADS. Nothing in Lean hashes anything: it is a label: what it is worth is what the hold of that sum in a sandbox is worth. -/
noncomputable def Tryz.pinned : Pinned := { name := "ythhlimmcncbopaagreat", sum := "7728098980c6342159568b1e51d3eadc8328c87a7ee8518614889ced1ab0915b", checked := Tryz.checked }
namespace Rows
def none {H : Type} : Left H := { results := [], args := [] }

/-- 'diapauselaw8.CheckAll': WHATEVER THE INPUT: true; the input reads as it did. -/
def checkAllSpec : ChangeSpec := { name := "checkAll", fn := fun _ => fun
  | [d] => { results := [.lit (.bool true)], args := [d] }
  | _ => none }
def checkAllRow : OpenClaim := { program := "ythhlimmcncbopaagreat", sum := "7728098980c6342159568b1e51d3eadc8328c87a7ee8518614889ced1ab0915b", func := "diapause/diapauselaw8.CheckAll", spec := "checkAll", unfollowed := true, recurses := true, apart := false }
def CheckAllSaid : Prop := checkAllRow.holds Tryz.pinned (OpenSpec.ofChange checkAllSpec)

/-- ITS FALSE NEIGHBOUR: 'it returns false'. Refute it at one input. -/
def checkAllWrong : ChangeSpec := { name := "checkAll", fn := fun _ => fun
  | [d] => { results := [.lit (.bool false)], args := [d] }
  | _ => none }
def CheckAllWrongFalsely : Prop := checkAllRow.holds Tryz.pinned (OpenSpec.ofChange checkAllWrong)

/-- 'diapauselaw8.CheckBody': WHATEVER THE INPUT: true; the input reads as it did. -/
def checkBodySpec : ChangeSpec := { name := "checkBody", fn := fun _ => fun
  | [d1, d2, d3, d4] => { results := [.lit (.bool true)], args := [d1, d2, d3, d4] }
  | _ => none }
def checkBodyRow : OpenClaim := { program := "ythhlimmcncbopaagreat", sum := "7728098980c6342159568b1e51d3eadc8328c87a7ee8518614889ced1ab0915b", func := "diapause/diapauselaw8.CheckBody", spec := "checkBody", unfollowed := true, recurses := true, apart := false }
def CheckBodySaid : Prop := checkBodyRow.holds Tryz.pinned (OpenSpec.ofChange checkBodySpec)

/-- ITS FALSE NEIGHBOUR: 'it returns false'. Refute it at one input. -/
def checkBodyWrong : ChangeSpec := { name := "checkBody", fn := fun _ => fun
  | [d1, d2, d3, d4] => { results := [.lit (.bool false)], args := [d1, d2, d3, d4] }
  | _ => none }
def CheckBodyWrongFalsely : Prop := checkBodyRow.holds Tryz.pinned (OpenSpec.ofChange checkBodyWrong)

/-- 'diapauselaw8.CheckDead': WHATEVER THE INPUT: true; the input reads as it did. -/
def checkDeadSpec : ChangeSpec := { name := "checkDead", fn := fun _ => fun
  | [d1, d2, d3] => { results := [.lit (.bool true)], args := [d1, d2, d3] }
  | _ => none }
def checkDeadRow : OpenClaim := { program := "ythhlimmcncbopaagreat", sum := "7728098980c6342159568b1e51d3eadc8328c87a7ee8518614889ced1ab0915b", func := "diapause/diapauselaw8.CheckDead", spec := "checkDead", unfollowed := true, recurses := true, apart := false }
def CheckDeadSaid : Prop := checkDeadRow.holds Tryz.pinned (OpenSpec.ofChange checkDeadSpec)

/-- ITS FALSE NEIGHBOUR: 'it returns false'. Refute it at one input. -/
def checkDeadWrong : ChangeSpec := { name := "checkDead", fn := fun _ => fun
  | [d1, d2, d3] => { results := [.lit (.bool false)], args := [d1, d2, d3] }
  | _ => none }
def CheckDeadWrongFalsely : Prop := checkDeadRow.holds Tryz.pinned (OpenSpec.ofChange checkDeadWrong)

/-- 'diapauselaw8.CheckSelect': WHATEVER THE INPUT: true; the input reads as it did. -/
def checkSelectSpec : ChangeSpec := { name := "checkSelect", fn := fun _ => fun
  | [d1, d2, d3, d4] => { results := [.lit (.bool true)], args := [d1, d2, d3, d4] }
  | _ => none }
def checkSelectRow : OpenClaim := { program := "ythhlimmcncbopaagreat", sum := "7728098980c6342159568b1e51d3eadc8328c87a7ee8518614889ced1ab0915b", func := "diapause/diapauselaw8.CheckSelect", spec := "checkSelect", unfollowed := true, recurses := true, apart := false }
def CheckSelectSaid : Prop := checkSelectRow.holds Tryz.pinned (OpenSpec.ofChange checkSelectSpec)

/-- ITS FALSE NEIGHBOUR: 'it returns false'. Refute it at one input. -/
def checkSelectWrong : ChangeSpec := { name := "checkSelect", fn := fun _ => fun
  | [d1, d2, d3, d4] => { results := [.lit (.bool false)], args := [d1, d2, d3, d4] }
  | _ => none }
def CheckSelectWrongFalsely : Prop := checkSelectRow.holds Tryz.pinned (OpenSpec.ofChange checkSelectWrong)

/-- 'diapauselaw8.CheckIf': WHATEVER THE INPUT: true; the input reads as it did. -/
def checkIfSpec : ChangeSpec := { name := "checkIf", fn := fun _ => fun
  | [d1, d2, d3, d4] => { results := [.lit (.bool true)], args := [d1, d2, d3, d4] }
  | _ => none }
def checkIfRow : OpenClaim := { program := "ythhlimmcncbopaagreat", sum := "7728098980c6342159568b1e51d3eadc8328c87a7ee8518614889ced1ab0915b", func := "diapause/diapauselaw8.CheckIf", spec := "checkIf", unfollowed := true, recurses := true, apart := false }
def CheckIfSaid : Prop := checkIfRow.holds Tryz.pinned (OpenSpec.ofChange checkIfSpec)

/-- ITS FALSE NEIGHBOUR: 'it returns false'. Refute it at one input. -/
def checkIfWrong : ChangeSpec := { name := "checkIf", fn := fun _ => fun
  | [d1, d2, d3, d4] => { results := [.lit (.bool false)], args := [d1, d2, d3, d4] }
  | _ => none }
def CheckIfWrongFalsely : Prop := checkIfRow.holds Tryz.pinned (OpenSpec.ofChange checkIfWrong)

/-- 'diapauselaw8.CheckCalls': WHATEVER THE INPUT: true; the input reads as it did. -/
def checkCallsSpec : ChangeSpec := { name := "checkCalls", fn := fun _ => fun
  | [d1, d2, d3, d4] => { results := [.lit (.bool true)], args := [d1, d2, d3, d4] }
  | _ => none }
def checkCallsRow : OpenClaim := { program := "ythhlimmcncbopaagreat", sum := "7728098980c6342159568b1e51d3eadc8328c87a7ee8518614889ced1ab0915b", func := "diapause/diapauselaw8.CheckCalls", spec := "checkCalls", unfollowed := true, recurses := true, apart := false }
def CheckCallsSaid : Prop := checkCallsRow.holds Tryz.pinned (OpenSpec.ofChange checkCallsSpec)

/-- ITS FALSE NEIGHBOUR: 'it returns false'. Refute it at one input. -/
def checkCallsWrong : ChangeSpec := { name := "checkCalls", fn := fun _ => fun
  | [d1, d2, d3, d4] => { results := [.lit (.bool false)], args := [d1, d2, d3, d4] }
  | _ => none }
def CheckCallsWrongFalsely : Prop := checkCallsRow.holds Tryz.pinned (OpenSpec.ofChange checkCallsWrong)

/-- 'diapauselaw8.CheckAlign': WHATEVER THE INPUT: true; the input reads as it did. -/
def checkAlignSpec : ChangeSpec := { name := "checkAlign", fn := fun _ => fun
  | [d1, d2, d3] => { results := [.lit (.bool true)], args := [d1, d2, d3] }
  | _ => none }
def checkAlignRow : OpenClaim := { program := "ythhlimmcncbopaagreat", sum := "7728098980c6342159568b1e51d3eadc8328c87a7ee8518614889ced1ab0915b", func := "diapause/diapauselaw8.CheckAlign", spec := "checkAlign", unfollowed := true, recurses := true, apart := false }
def CheckAlignSaid : Prop := checkAlignRow.holds Tryz.pinned (OpenSpec.ofChange checkAlignSpec)

/-- ITS FALSE NEIGHBOUR: 'it returns false'. Refute it at one input. -/
def checkAlignWrong : ChangeSpec := { name := "checkAlign", fn := fun _ => fun
  | [d1, d2, d3] => { results := [.lit (.bool false)], args := [d1, d2, d3] }
  | _ => none }
def CheckAlignWrongFalsely : Prop := checkAlignRow.holds Tryz.pinned (OpenSpec.ofChange checkAlignWrong)

/-- 'diapauselaw8.CheckSets': WHATEVER THE INPUT: true; the input reads as it did. -/
def checkSetsSpec : ChangeSpec := { name := "checkSets", fn := fun _ => fun
  | [d1, d2] => { results := [.lit (.bool true)], args := [d1, d2] }
  | _ => none }
def checkSetsRow : OpenClaim := { program := "ythhlimmcncbopaagreat", sum := "7728098980c6342159568b1e51d3eadc8328c87a7ee8518614889ced1ab0915b", func := "diapause/diapauselaw8.CheckSets", spec := "checkSets", unfollowed := true, recurses := true, apart := false }
def CheckSetsSaid : Prop := checkSetsRow.holds Tryz.pinned (OpenSpec.ofChange checkSetsSpec)

/-- ITS FALSE NEIGHBOUR: 'it returns false'. Refute it at one input. -/
def checkSetsWrong : ChangeSpec := { name := "checkSets", fn := fun _ => fun
  | [d1, d2] => { results := [.lit (.bool false)], args := [d1, d2] }
  | _ => none }
def CheckSetsWrongFalsely : Prop := checkSetsRow.holds Tryz.pinned (OpenSpec.ofChange checkSetsWrong)

/-- 'diapauselaw8.CheckLeft': WHATEVER THE INPUT: true; the input reads as it did. -/
def checkLeftSpec : ChangeSpec := { name := "checkLeft", fn := fun _ => fun
  | [d1, d2, d3] => { results := [.lit (.bool true)], args := [d1, d2, d3] }
  | _ => none }
def checkLeftRow : OpenClaim := { program := "ythhlimmcncbopaagreat", sum := "7728098980c6342159568b1e51d3eadc8328c87a7ee8518614889ced1ab0915b", func := "diapause/diapauselaw8.CheckLeft", spec := "checkLeft", unfollowed := true, recurses := true, apart := false }
def CheckLeftSaid : Prop := checkLeftRow.holds Tryz.pinned (OpenSpec.ofChange checkLeftSpec)

/-- ITS FALSE NEIGHBOUR: 'it returns false'. Refute it at one input. -/
def checkLeftWrong : ChangeSpec := { name := "checkLeft", fn := fun _ => fun
  | [d1, d2, d3] => { results := [.lit (.bool false)], args := [d1, d2, d3] }
  | _ => none }
def CheckLeftWrongFalsely : Prop := checkLeftRow.holds Tryz.pinned (OpenSpec.ofChange checkLeftWrong)

/-- 'diapauselaw8.CheckKinds': WHATEVER THE INPUT: true; the input reads as it did. -/
def checkKindsSpec : ChangeSpec := { name := "checkKinds", fn := fun _ => fun
  | [d1, d2, d3, d4] => { results := [.lit (.bool true)], args := [d1, d2, d3, d4] }
  | _ => none }
def checkKindsRow : OpenClaim := { program := "ythhlimmcncbopaagreat", sum := "7728098980c6342159568b1e51d3eadc8328c87a7ee8518614889ced1ab0915b", func := "diapause/diapauselaw8.CheckKinds", spec := "checkKinds", unfollowed := true, recurses := true, apart := false }
def CheckKindsSaid : Prop := checkKindsRow.holds Tryz.pinned (OpenSpec.ofChange checkKindsSpec)

/-- ITS FALSE NEIGHBOUR: 'it returns false'. Refute it at one input. -/
def checkKindsWrong : ChangeSpec := { name := "checkKinds", fn := fun _ => fun
  | [d1, d2, d3, d4] => { results := [.lit (.bool false)], args := [d1, d2, d3, d4] }
  | _ => none }
def CheckKindsWrongFalsely : Prop := checkKindsRow.holds Tryz.pinned (OpenSpec.ofChange checkKindsWrong)

/-- 'diapauselaw8.CheckBranch': WHATEVER THE INPUT: true; the input reads as it did. -/
def checkBranchSpec : ChangeSpec := { name := "checkBranch", fn := fun _ => fun
  | [d1, d2, d3, d4] => { results := [.lit (.bool true)], args := [d1, d2, d3, d4] }
  | _ => none }
def checkBranchRow : OpenClaim := { program := "ythhlimmcncbopaagreat", sum := "7728098980c6342159568b1e51d3eadc8328c87a7ee8518614889ced1ab0915b", func := "diapause/diapauselaw8.CheckBranch", spec := "checkBranch", unfollowed := true, recurses := true, apart := false }
def CheckBranchSaid : Prop := checkBranchRow.holds Tryz.pinned (OpenSpec.ofChange checkBranchSpec)

/-- ITS FALSE NEIGHBOUR: 'it returns false'. Refute it at one input. -/
def checkBranchWrong : ChangeSpec := { name := "checkBranch", fn := fun _ => fun
  | [d1, d2, d3, d4] => { results := [.lit (.bool false)], args := [d1, d2, d3, d4] }
  | _ => none }
def CheckBranchWrongFalsely : Prop := checkBranchRow.holds Tryz.pinned (OpenSpec.ofChange checkBranchWrong)

/- THE SECOND FORM. 'bulk': how many values and letters a reading holds, each counted each time it is reached (what is shared counts as often as it is met; a slice's spare places count too). A statement '..UptoSaid' is the law's where the arguments, and the package variables that the reading takes, are together of bulk at most 1048576: NARROWER than '..Said'. Prove '..Said' where nothing that the law and all that it calls make is longer than what came in: it says more and counts as full. Else prove '..UptoSaid'. A law counts once. -/
mutual
def uptoBulk {H : Type} : DataW H → Nat
  | .lit (.string bytes) => bytes.length + 1
  | .lit _ => 1
  | .nil => 1
  | .ptr d => uptoBulk d + 1
  | .slice elems spare => uptoBulkAll elems + uptoBulkAll spare + 1
  | .agg parts => uptoBulkAll parts + 1
  | .iface _ d => uptoBulk d + 1
  | .map entries => uptoBulkEntries entries + 1
  | .held _ => 1
def uptoBulkAll {H : Type} : List (DataW H) → Nat
  | [] => 0
  | d :: r => uptoBulk d + uptoBulkAll r
def uptoBulkEntries {H : Type} : List (Lit × DataW H) → Nat
  | [] => 0
  | x :: r => uptoBulkEntry x + uptoBulkEntries r
def uptoBulkEntry {H : Type} : Lit × DataW H → Nat
  | (.string bytes, d) => bytes.length + uptoBulk d + 1
  | (_, d) => uptoBulk d + 1
 end
def uptoSmall : (H : Type) → List (DataW H) → Bool := fun _ ds => decide (uptoBulkAll ds ≤ 1048576)
def OpenSpec.upto (s : _root_.Go.ChangeSpec) : _root_.Go.OpenSpec := { _root_.Go.OpenSpec.ofChange s with cond := some uptoSmall }

/-- 'diapauselaw8.CheckAll', WHERE WHAT IT READS IS OF BULK AT MOST 1048576: true; the input reads as it did. -/
def checkAllUptoRow : OpenClaim := { program := "ythhlimmcncbopaagreat", sum := "7728098980c6342159568b1e51d3eadc8328c87a7ee8518614889ced1ab0915b", func := "diapause/diapauselaw8.CheckAll", spec := "checkAll", unfollowed := true, recurses := true, apart := false, narrowed := true }
def CheckAllUptoSaid : Prop := checkAllUptoRow.holds Tryz.pinned (OpenSpec.upto checkAllSpec)

/-- 'diapauselaw8.CheckBody', WHERE WHAT IT READS IS OF BULK AT MOST 1048576: true; the input reads as it did. -/
def checkBodyUptoRow : OpenClaim := { program := "ythhlimmcncbopaagreat", sum := "7728098980c6342159568b1e51d3eadc8328c87a7ee8518614889ced1ab0915b", func := "diapause/diapauselaw8.CheckBody", spec := "checkBody", unfollowed := true, recurses := true, apart := false, narrowed := true }
def CheckBodyUptoSaid : Prop := checkBodyUptoRow.holds Tryz.pinned (OpenSpec.upto checkBodySpec)

/-- 'diapauselaw8.CheckDead', WHERE WHAT IT READS IS OF BULK AT MOST 1048576: true; the input reads as it did. -/
def checkDeadUptoRow : OpenClaim := { program := "ythhlimmcncbopaagreat", sum := "7728098980c6342159568b1e51d3eadc8328c87a7ee8518614889ced1ab0915b", func := "diapause/diapauselaw8.CheckDead", spec := "checkDead", unfollowed := true, recurses := true, apart := false, narrowed := true }
def CheckDeadUptoSaid : Prop := checkDeadUptoRow.holds Tryz.pinned (OpenSpec.upto checkDeadSpec)

/-- 'diapauselaw8.CheckSelect', WHERE WHAT IT READS IS OF BULK AT MOST 1048576: true; the input reads as it did. -/
def checkSelectUptoRow : OpenClaim := { program := "ythhlimmcncbopaagreat", sum := "7728098980c6342159568b1e51d3eadc8328c87a7ee8518614889ced1ab0915b", func := "diapause/diapauselaw8.CheckSelect", spec := "checkSelect", unfollowed := true, recurses := true, apart := false, narrowed := true }
def CheckSelectUptoSaid : Prop := checkSelectUptoRow.holds Tryz.pinned (OpenSpec.upto checkSelectSpec)

/-- 'diapauselaw8.CheckIf', WHERE WHAT IT READS IS OF BULK AT MOST 1048576: true; the input reads as it did. -/
def checkIfUptoRow : OpenClaim := { program := "ythhlimmcncbopaagreat", sum := "7728098980c6342159568b1e51d3eadc8328c87a7ee8518614889ced1ab0915b", func := "diapause/diapauselaw8.CheckIf", spec := "checkIf", unfollowed := true, recurses := true, apart := false, narrowed := true }
def CheckIfUptoSaid : Prop := checkIfUptoRow.holds Tryz.pinned (OpenSpec.upto checkIfSpec)

/-- 'diapauselaw8.CheckCalls', WHERE WHAT IT READS IS OF BULK AT MOST 1048576: true; the input reads as it did. -/
def checkCallsUptoRow : OpenClaim := { program := "ythhlimmcncbopaagreat", sum := "7728098980c6342159568b1e51d3eadc8328c87a7ee8518614889ced1ab0915b", func := "diapause/diapauselaw8.CheckCalls", spec := "checkCalls", unfollowed := true, recurses := true, apart := false, narrowed := true }
def CheckCallsUptoSaid : Prop := checkCallsUptoRow.holds Tryz.pinned (OpenSpec.upto checkCallsSpec)

/-- 'diapauselaw8.CheckAlign', WHERE WHAT IT READS IS OF BULK AT MOST 1048576: true; the input reads as it did. -/
def checkAlignUptoRow : OpenClaim := { program := "ythhlimmcncbopaagreat", sum := "7728098980c6342159568b1e51d3eadc8328c87a7ee8518614889ced1ab0915b", func := "diapause/diapauselaw8.CheckAlign", spec := "checkAlign", unfollowed := true, recurses := true, apart := false, narrowed := true }
def CheckAlignUptoSaid : Prop := checkAlignUptoRow.holds Tryz.pinned (OpenSpec.upto checkAlignSpec)

/-- 'diapauselaw8.CheckSets', WHERE WHAT IT READS IS OF BULK AT MOST 1048576: true; the input reads as it did. -/
def checkSetsUptoRow : OpenClaim := { program := "ythhlimmcncbopaagreat", sum := "7728098980c6342159568b1e51d3eadc8328c87a7ee8518614889ced1ab0915b", func := "diapause/diapauselaw8.CheckSets", spec := "checkSets", unfollowed := true, recurses := true, apart := false, narrowed := true }
def CheckSetsUptoSaid : Prop := checkSetsUptoRow.holds Tryz.pinned (OpenSpec.upto checkSetsSpec)

/-- 'diapauselaw8.CheckLeft', WHERE WHAT IT READS IS OF BULK AT MOST 1048576: true; the input reads as it did. -/
def checkLeftUptoRow : OpenClaim := { program := "ythhlimmcncbopaagreat", sum := "7728098980c6342159568b1e51d3eadc8328c87a7ee8518614889ced1ab0915b", func := "diapause/diapauselaw8.CheckLeft", spec := "checkLeft", unfollowed := true, recurses := true, apart := false, narrowed := true }
def CheckLeftUptoSaid : Prop := checkLeftUptoRow.holds Tryz.pinned (OpenSpec.upto checkLeftSpec)

/-- 'diapauselaw8.CheckKinds', WHERE WHAT IT READS IS OF BULK AT MOST 1048576: true; the input reads as it did. -/
def checkKindsUptoRow : OpenClaim := { program := "ythhlimmcncbopaagreat", sum := "7728098980c6342159568b1e51d3eadc8328c87a7ee8518614889ced1ab0915b", func := "diapause/diapauselaw8.CheckKinds", spec := "checkKinds", unfollowed := true, recurses := true, apart := false, narrowed := true }
def CheckKindsUptoSaid : Prop := checkKindsUptoRow.holds Tryz.pinned (OpenSpec.upto checkKindsSpec)

/-- 'diapauselaw8.CheckBranch', WHERE WHAT IT READS IS OF BULK AT MOST 1048576: true; the input reads as it did. -/
def checkBranchUptoRow : OpenClaim := { program := "ythhlimmcncbopaagreat", sum := "7728098980c6342159568b1e51d3eadc8328c87a7ee8518614889ced1ab0915b", func := "diapause/diapauselaw8.CheckBranch", spec := "checkBranch", unfollowed := true, recurses := true, apart := false, narrowed := true }
def CheckBranchUptoSaid : Prop := checkBranchUptoRow.holds Tryz.pinned (OpenSpec.upto checkBranchSpec)

end Rows
end Go.Proofs.YthhlimmcncbopaaGreat
