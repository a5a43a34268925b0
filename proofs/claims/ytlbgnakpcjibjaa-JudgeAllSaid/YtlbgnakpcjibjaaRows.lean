/-
  No cell of these rows narrows 'for every input' (looked for: loops, veiled, ifaces, maps, wideKeys, modest, calm, conditions, laid).
  DERIVED. THE GIVEN ROWS OF THIS SEAT. 6 by the template 'for every input the law returns true; each argument reads behind the call as it read before'; 0 by the template 'total and deterministic' (their statements: YtlbgnakpcjibjaaTotals.lean).
  GIVEN WITH THE SEED: the statements are not yours to turn. If you find one false, say at which input.
  Laid BY PROGRAM, IN A SANDBOX (cutbox-rows.mjs): the forced cells as the released guide's own fill.sh prints them over the translation a261f67f97c92ff1… (all of the seat's roots in one cut). By AI agents, Wed Nov 11 2026. No macro, syntax, notation, axiom, sorry.
-/
import Derived.Test.YtlbgnakpcjibjaaChecked
import GoSem.Claim
import GoSem.ClaimJoined
import GoSem.ClaimMapViews
import Derived.JoinedTies
import Derived.KernelRfl
namespace Go.Proofs.Ytlbgnakpcjibjaa
/- THE CELL 'sum', in the pinned program and in every row, IS THE sha256 OF THE DUMP (.gsa) THAT YtlbgnakpcjibjaaProg.lean LOADS. Nothing in Lean hashes anything: it is a label: what it is worth is what the hold of that sum in a sandbox is worth. -/
noncomputable def Try.pinned : Pinned := { name := "ytlbgnakpcjibjaa", sum := "a261f67f97c92ff150a5a688c1b26c8666f004509af8ef23425acfd323ba0b5d", checked := Try.checked }
namespace Rows
def none {H : Type} : Left H := { results := [], args := [] }

/-- 'diapauselaw25.HostAll': WHATEVER THE INPUT: true; the input reads as it did. -/
def hostAllSpec : ChangeSpec := { name := "hostAll", fn := fun _ => fun
  | [d1, d2, d3, d4] => { results := [.lit (.bool true)], args := [d1, d2, d3, d4] }
  | _ => none }
def hostAllRow : OpenClaim := { program := "ytlbgnakpcjibjaa", sum := "a261f67f97c92ff150a5a688c1b26c8666f004509af8ef23425acfd323ba0b5d", func := "diapause/diapauselaw25.HostAll", spec := "hostAll", apart := false }
def HostAllSaid : Prop := hostAllRow.holds Try.pinned (OpenSpec.ofChange hostAllSpec)

/-- ITS FALSE NEIGHBOUR: 'it returns false'. Refute it at one input. -/
def hostAllWrong : ChangeSpec := { name := "hostAll", fn := fun _ => fun
  | [d1, d2, d3, d4] => { results := [.lit (.bool false)], args := [d1, d2, d3, d4] }
  | _ => none }
def HostAllWrongFalsely : Prop := hostAllRow.holds Try.pinned (OpenSpec.ofChange hostAllWrong)

/-- 'diapauselaw25.HostStep': WHATEVER THE INPUT: true; the input reads as it did. -/
def hostStepSpec : ChangeSpec := { name := "hostStep", fn := fun _ => fun
  | [d1, d2, d3, d4] => { results := [.lit (.bool true)], args := [d1, d2, d3, d4] }
  | _ => none }
def hostStepRow : OpenClaim := { program := "ytlbgnakpcjibjaa", sum := "a261f67f97c92ff150a5a688c1b26c8666f004509af8ef23425acfd323ba0b5d", func := "diapause/diapauselaw25.HostStep", spec := "hostStep", apart := false }
def HostStepSaid : Prop := hostStepRow.holds Try.pinned (OpenSpec.ofChange hostStepSpec)

/-- ITS FALSE NEIGHBOUR: 'it returns false'. Refute it at one input. -/
def hostStepWrong : ChangeSpec := { name := "hostStep", fn := fun _ => fun
  | [d1, d2, d3, d4] => { results := [.lit (.bool false)], args := [d1, d2, d3, d4] }
  | _ => none }
def HostStepWrongFalsely : Prop := hostStepRow.holds Try.pinned (OpenSpec.ofChange hostStepWrong)

/-- 'diapauselaw25.HostTwo': WHATEVER THE INPUT: true; the input reads as it did. -/
def hostTwoSpec : ChangeSpec := { name := "hostTwo", fn := fun _ => fun
  | [d1, d2, d3, d4] => { results := [.lit (.bool true)], args := [d1, d2, d3, d4] }
  | _ => none }
def hostTwoRow : OpenClaim := { program := "ytlbgnakpcjibjaa", sum := "a261f67f97c92ff150a5a688c1b26c8666f004509af8ef23425acfd323ba0b5d", func := "diapause/diapauselaw25.HostTwo", spec := "hostTwo", apart := false }
def HostTwoSaid : Prop := hostTwoRow.holds Try.pinned (OpenSpec.ofChange hostTwoSpec)

/-- ITS FALSE NEIGHBOUR: 'it returns false'. Refute it at one input. -/
def hostTwoWrong : ChangeSpec := { name := "hostTwo", fn := fun _ => fun
  | [d1, d2, d3, d4] => { results := [.lit (.bool false)], args := [d1, d2, d3, d4] }
  | _ => none }
def HostTwoWrongFalsely : Prop := hostTwoRow.holds Try.pinned (OpenSpec.ofChange hostTwoWrong)

/-- 'diapauselaw28.JudgeAll': WHATEVER THE INPUT: true; the input reads as it did. -/
def judgeAllSpec : ChangeSpec := { name := "judgeAll", fn := fun _ => fun
  | [d1, d2] => { results := [.lit (.bool true)], args := [d1, d2] }
  | _ => none }
def judgeAllRow : OpenClaim := { program := "ytlbgnakpcjibjaa", sum := "a261f67f97c92ff150a5a688c1b26c8666f004509af8ef23425acfd323ba0b5d", func := "diapause/diapauselaw28.JudgeAll", spec := "judgeAll", unfollowed := true, recurses := true, apart := false }
def JudgeAllSaid : Prop := judgeAllRow.holds Try.pinned (OpenSpec.ofChange judgeAllSpec)

/-- ITS FALSE NEIGHBOUR: 'it returns false'. Refute it at one input. -/
def judgeAllWrong : ChangeSpec := { name := "judgeAll", fn := fun _ => fun
  | [d1, d2] => { results := [.lit (.bool false)], args := [d1, d2] }
  | _ => none }
def JudgeAllWrongFalsely : Prop := judgeAllRow.holds Try.pinned (OpenSpec.ofChange judgeAllWrong)

/-- 'diapauselaw28.JudgeLaws': WHATEVER THE INPUT: true; the input reads as it did. -/
def judgeLawsSpec : ChangeSpec := { name := "judgeLaws", fn := fun _ => fun
  | [d] => { results := [.lit (.bool true)], args := [d] }
  | _ => none }
def judgeLawsRow : OpenClaim := { program := "ytlbgnakpcjibjaa", sum := "a261f67f97c92ff150a5a688c1b26c8666f004509af8ef23425acfd323ba0b5d", func := "diapause/diapauselaw28.JudgeLaws", spec := "judgeLaws", unfollowed := true, recurses := true, apart := false }
def JudgeLawsSaid : Prop := judgeLawsRow.holds Try.pinned (OpenSpec.ofChange judgeLawsSpec)

/-- ITS FALSE NEIGHBOUR: 'it returns false'. Refute it at one input. -/
def judgeLawsWrong : ChangeSpec := { name := "judgeLaws", fn := fun _ => fun
  | [d] => { results := [.lit (.bool false)], args := [d] }
  | _ => none }
def JudgeLawsWrongFalsely : Prop := judgeLawsRow.holds Try.pinned (OpenSpec.ofChange judgeLawsWrong)

/-- 'diapauselaw28.JudgeGrown': WHATEVER THE INPUT: true; the input reads as it did. -/
def judgeGrownSpec : ChangeSpec := { name := "judgeGrown", fn := fun _ => fun
  | [d1, d2] => { results := [.lit (.bool true)], args := [d1, d2] }
  | _ => none }
def judgeGrownRow : OpenClaim := { program := "ytlbgnakpcjibjaa", sum := "a261f67f97c92ff150a5a688c1b26c8666f004509af8ef23425acfd323ba0b5d", func := "diapause/diapauselaw28.JudgeGrown", spec := "judgeGrown", unfollowed := true, recurses := true, apart := false }
def JudgeGrownSaid : Prop := judgeGrownRow.holds Try.pinned (OpenSpec.ofChange judgeGrownSpec)

/-- ITS FALSE NEIGHBOUR: 'it returns false'. Refute it at one input. -/
def judgeGrownWrong : ChangeSpec := { name := "judgeGrown", fn := fun _ => fun
  | [d1, d2] => { results := [.lit (.bool false)], args := [d1, d2] }
  | _ => none }
def JudgeGrownWrongFalsely : Prop := judgeGrownRow.holds Try.pinned (OpenSpec.ofChange judgeGrownWrong)

/- THE SECOND FORM. 'bulk': how many values and letters a reading holds, each counted each time it is reached (what is shared counts as often as it is met; a slice's spare places count too). A statement '..UptoSaid' is the law's where the arguments, and the package variables that the reading takes, are together of bulk at most 1048576: NARROWER than '..Said'. Prove '..Said' where nothing that the law and all that it calls make is longer than what came in: it says more and counts as full. Else prove '..UptoSaid'. A law counts once. -/
mutual
def uptoBulk {H : Type} : DataW H → Nat
  | .lit (.string bytes) => bytes.length + 1
  | .lit _ => 1
  | .nil => 1
  | .ptr d => uptoBulk d + 1
  | .slice elems spare => uptoBulkAll elems + uptoBulkAll spare + 1
  | .agg parts => uptoBulkAll parts + 1
  | .iface _ d => uptoBulk d + 1
  | .map entries => uptoBulkEntries entries + 1
  | .held _ => 1
def uptoBulkAll {H : Type} : List (DataW H) → Nat
  | [] => 0
  | d :: r => uptoBulk d + uptoBulkAll r
def uptoBulkEntries {H : Type} : List (Lit × DataW H) → Nat
  | [] => 0
  | x :: r => uptoBulkEntry x + uptoBulkEntries r
def uptoBulkEntry {H : Type} : Lit × DataW H → Nat
  | (.string bytes, d) => bytes.length + uptoBulk d + 1
  | (_, d) => uptoBulk d + 1
 end
def uptoSmall : (H : Type) → List (DataW H) → Bool := fun _ ds => decide (uptoBulkAll ds ≤ 1048576)
def OpenSpec.upto (s : _root_.Go.ChangeSpec) : _root_.Go.OpenSpec := { _root_.Go.OpenSpec.ofChange s with cond := some uptoSmall }

/-- 'diapauselaw25.HostAll', WHERE WHAT IT READS IS OF BULK AT MOST 1048576: true; the input reads as it did. -/
def hostAllUptoRow : OpenClaim := { program := "ytlbgnakpcjibjaa", sum := "a261f67f97c92ff150a5a688c1b26c8666f004509af8ef23425acfd323ba0b5d", func := "diapause/diapauselaw25.HostAll", spec := "hostAll", apart := false, narrowed := true }
def HostAllUptoSaid : Prop := hostAllUptoRow.holds Try.pinned (OpenSpec.upto hostAllSpec)

/-- 'diapauselaw25.HostStep', WHERE WHAT IT READS IS OF BULK AT MOST 1048576: true; the input reads as it did. -/
def hostStepUptoRow : OpenClaim := { program := "ytlbgnakpcjibjaa", sum := "a261f67f97c92ff150a5a688c1b26c8666f004509af8ef23425acfd323ba0b5d", func := "diapause/diapauselaw25.HostStep", spec := "hostStep", apart := false, narrowed := true }
def HostStepUptoSaid : Prop := hostStepUptoRow.holds Try.pinned (OpenSpec.upto hostStepSpec)

/-- 'diapauselaw25.HostTwo', WHERE WHAT IT READS IS OF BULK AT MOST 1048576: true; the input reads as it did. -/
def hostTwoUptoRow : OpenClaim := { program := "ytlbgnakpcjibjaa", sum := "a261f67f97c92ff150a5a688c1b26c8666f004509af8ef23425acfd323ba0b5d", func := "diapause/diapauselaw25.HostTwo", spec := "hostTwo", apart := false, narrowed := true }
def HostTwoUptoSaid : Prop := hostTwoUptoRow.holds Try.pinned (OpenSpec.upto hostTwoSpec)

/-- 'diapauselaw28.JudgeAll', WHERE WHAT IT READS IS OF BULK AT MOST 1048576: true; the input reads as it did. -/
def judgeAllUptoRow : OpenClaim := { program := "ytlbgnakpcjibjaa", sum := "a261f67f97c92ff150a5a688c1b26c8666f004509af8ef23425acfd323ba0b5d", func := "diapause/diapauselaw28.JudgeAll", spec := "judgeAll", unfollowed := true, recurses := true, apart := false, narrowed := true }
def JudgeAllUptoSaid : Prop := judgeAllUptoRow.holds Try.pinned (OpenSpec.upto judgeAllSpec)

/-- 'diapauselaw28.JudgeLaws', WHERE WHAT IT READS IS OF BULK AT MOST 1048576: true; the input reads as it did. -/
def judgeLawsUptoRow : OpenClaim := { program := "ytlbgnakpcjibjaa", sum := "a261f67f97c92ff150a5a688c1b26c8666f004509af8ef23425acfd323ba0b5d", func := "diapause/diapauselaw28.JudgeLaws", spec := "judgeLaws", unfollowed := true, recurses := true, apart := false, narrowed := true }
def JudgeLawsUptoSaid : Prop := judgeLawsUptoRow.holds Try.pinned (OpenSpec.upto judgeLawsSpec)

/-- 'diapauselaw28.JudgeGrown', WHERE WHAT IT READS IS OF BULK AT MOST 1048576: true; the input reads as it did. -/
def judgeGrownUptoRow : OpenClaim := { program := "ytlbgnakpcjibjaa", sum := "a261f67f97c92ff150a5a688c1b26c8666f004509af8ef23425acfd323ba0b5d", func := "diapause/diapauselaw28.JudgeGrown", spec := "judgeGrown", unfollowed := true, recurses := true, apart := false, narrowed := true }
def JudgeGrownUptoSaid : Prop := judgeGrownUptoRow.holds Try.pinned (OpenSpec.upto judgeGrownSpec)

end Rows
end Go.Proofs.Ytlbgnakpcjibjaa
