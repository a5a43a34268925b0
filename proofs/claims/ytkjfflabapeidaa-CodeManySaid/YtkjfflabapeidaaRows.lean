/-
  No cell of these rows narrows 'for every input' (looked for: loops, veiled, ifaces, maps, wideKeys, modest, calm, conditions, laid).
  DERIVED. THE GIVEN ROWS OF THIS SEAT. 13 by the template 'for every input the law returns true; each argument reads behind the call as it read before'; 0 by the template 'total and deterministic' (their statements: YtkjfflabapeidaaTotals.lean).
  GIVEN WITH THE SEED: the statements are not yours to turn. If you find one false, say at which input.
  Laid BY PROGRAM, IN A SANDBOX (cutbox-rows.mjs): the forced cells as the released guide's own fill.sh prints them over the translation a7f6daf6dfb0cb7f… (all of the seat's roots in one cut). By AI agents, Wed Nov 11 2026. No macro, syntax, notation, axiom, sorry.
-/
import Derived.Test.YtkjfflabapeidaaChecked
import GoSem.Claim
import GoSem.ClaimJoined
import GoSem.ClaimMapViews
import Derived.JoinedTies
import Derived.KernelRfl
namespace Go.Proofs.Ytkjfflabapeidaa
/- THE CELL 'sum', in the pinned program and in every row, IS THE sha256 OF THE DUMP (.gsa) THAT YtkjfflabapeidaaProg.lean LOADS. Nothing in Lean hashes anything: it is a label: what it is worth is what the hold of that sum in a sandbox is worth. -/
noncomputable def Try.pinned : Pinned := { name := "ytkjfflabapeidaa", sum := "a7f6daf6dfb0cb7fba4c5d5b22152105e78f40fa4b67b7e1c83a27bcac2475fe", checked := Try.checked }
namespace Rows
def none {H : Type} : Left H := { results := [], args := [] }

/-- 'diapauselaw5.InstrAll': WHATEVER THE INPUT: true; the input reads as it did. -/
def instrAllSpec : ChangeSpec := { name := "instrAll", fn := fun _ => fun
  | [d1, d2, d3, d4] => { results := [.lit (.bool true)], args := [d1, d2, d3, d4] }
  | _ => none }
def instrAllRow : OpenClaim := { program := "ytkjfflabapeidaa", sum := "a7f6daf6dfb0cb7fba4c5d5b22152105e78f40fa4b67b7e1c83a27bcac2475fe", func := "diapause/diapauselaw5.InstrAll", spec := "instrAll", unfollowed := true, recurses := true, apart := false }
def InstrAllSaid : Prop := instrAllRow.holds Try.pinned (OpenSpec.ofChange instrAllSpec)

/-- ITS FALSE NEIGHBOUR: 'it returns false'. Refute it at one input. -/
def instrAllWrong : ChangeSpec := { name := "instrAll", fn := fun _ => fun
  | [d1, d2, d3, d4] => { results := [.lit (.bool false)], args := [d1, d2, d3, d4] }
  | _ => none }
def InstrAllWrongFalsely : Prop := instrAllRow.holds Try.pinned (OpenSpec.ofChange instrAllWrong)

/-- 'diapauselaw5.InstrAny': WHATEVER THE INPUT: true; the input reads as it did. -/
def instrAnySpec : ChangeSpec := { name := "instrAny", fn := fun _ => fun
  | [d1, d2, d3, d4] => { results := [.lit (.bool true)], args := [d1, d2, d3, d4] }
  | _ => none }
def instrAnyRow : OpenClaim := { program := "ytkjfflabapeidaa", sum := "a7f6daf6dfb0cb7fba4c5d5b22152105e78f40fa4b67b7e1c83a27bcac2475fe", func := "diapause/diapauselaw5.InstrAny", spec := "instrAny", unfollowed := true, recurses := true, apart := false }
def InstrAnySaid : Prop := instrAnyRow.holds Try.pinned (OpenSpec.ofChange instrAnySpec)

/-- ITS FALSE NEIGHBOUR: 'it returns false'. Refute it at one input. -/
def instrAnyWrong : ChangeSpec := { name := "instrAny", fn := fun _ => fun
  | [d1, d2, d3, d4] => { results := [.lit (.bool false)], args := [d1, d2, d3, d4] }
  | _ => none }
def InstrAnyWrongFalsely : Prop := instrAnyRow.holds Try.pinned (OpenSpec.ofChange instrAnyWrong)

/-- 'diapauselaw5.InstrOps': WHATEVER THE INPUT: true; the input reads as it did. -/
def instrOpsSpec : ChangeSpec := { name := "instrOps", fn := fun _ => fun
  | [d1, d2] => { results := [.lit (.bool true)], args := [d1, d2] }
  | _ => none }
def instrOpsRow : OpenClaim := { program := "ytkjfflabapeidaa", sum := "a7f6daf6dfb0cb7fba4c5d5b22152105e78f40fa4b67b7e1c83a27bcac2475fe", func := "diapause/diapauselaw5.InstrOps", spec := "instrOps", unfollowed := true, recurses := true, apart := false }
def InstrOpsSaid : Prop := instrOpsRow.holds Try.pinned (OpenSpec.ofChange instrOpsSpec)

/-- ITS FALSE NEIGHBOUR: 'it returns false'. Refute it at one input. -/
def instrOpsWrong : ChangeSpec := { name := "instrOps", fn := fun _ => fun
  | [d1, d2] => { results := [.lit (.bool false)], args := [d1, d2] }
  | _ => none }
def InstrOpsWrongFalsely : Prop := instrOpsRow.holds Try.pinned (OpenSpec.ofChange instrOpsWrong)

/-- 'diapauselaw5.InstrMany': WHATEVER THE INPUT: true; the input reads as it did. -/
def instrManySpec : ChangeSpec := { name := "instrMany", fn := fun _ => fun
  | [d] => { results := [.lit (.bool true)], args := [d] }
  | _ => none }
def instrManyRow : OpenClaim := { program := "ytkjfflabapeidaa", sum := "a7f6daf6dfb0cb7fba4c5d5b22152105e78f40fa4b67b7e1c83a27bcac2475fe", func := "diapause/diapauselaw5.InstrMany", spec := "instrMany", unfollowed := true, recurses := true, apart := false }
def InstrManySaid : Prop := instrManyRow.holds Try.pinned (OpenSpec.ofChange instrManySpec)

/-- ITS FALSE NEIGHBOUR: 'it returns false'. Refute it at one input. -/
def instrManyWrong : ChangeSpec := { name := "instrMany", fn := fun _ => fun
  | [d] => { results := [.lit (.bool false)], args := [d] }
  | _ => none }
def InstrManyWrongFalsely : Prop := instrManyRow.holds Try.pinned (OpenSpec.ofChange instrManyWrong)

/-- 'diapauselaw5.InstrLimits': WHATEVER THE INPUT: true; the input reads as it did. -/
def instrLimitsSpec : ChangeSpec := { name := "instrLimits", fn := fun _ => fun
  | [d1, d2, d3, d4] => { results := [.lit (.bool true)], args := [d1, d2, d3, d4] }
  | _ => none }
def instrLimitsRow : OpenClaim := { program := "ytkjfflabapeidaa", sum := "a7f6daf6dfb0cb7fba4c5d5b22152105e78f40fa4b67b7e1c83a27bcac2475fe", func := "diapause/diapauselaw5.InstrLimits", spec := "instrLimits", unfollowed := true, recurses := true, apart := false }
def InstrLimitsSaid : Prop := instrLimitsRow.holds Try.pinned (OpenSpec.ofChange instrLimitsSpec)

/-- ITS FALSE NEIGHBOUR: 'it returns false'. Refute it at one input. -/
def instrLimitsWrong : ChangeSpec := { name := "instrLimits", fn := fun _ => fun
  | [d1, d2, d3, d4] => { results := [.lit (.bool false)], args := [d1, d2, d3, d4] }
  | _ => none }
def InstrLimitsWrongFalsely : Prop := instrLimitsRow.holds Try.pinned (OpenSpec.ofChange instrLimitsWrong)

/-- 'diapauselaw6.MatchAll': WHATEVER THE INPUT: true; the input reads as it did. -/
def matchAllSpec : ChangeSpec := { name := "matchAll", fn := fun _ => fun
  | [d] => { results := [.lit (.bool true)], args := [d] }
  | _ => none }
def matchAllRow : OpenClaim := { program := "ytkjfflabapeidaa", sum := "a7f6daf6dfb0cb7fba4c5d5b22152105e78f40fa4b67b7e1c83a27bcac2475fe", func := "diapause/diapauselaw6.MatchAll", spec := "matchAll", apart := false }
def MatchAllSaid : Prop := matchAllRow.holds Try.pinned (OpenSpec.ofChange matchAllSpec)

/-- ITS FALSE NEIGHBOUR: 'it returns false'. Refute it at one input. -/
def matchAllWrong : ChangeSpec := { name := "matchAll", fn := fun _ => fun
  | [d] => { results := [.lit (.bool false)], args := [d] }
  | _ => none }
def MatchAllWrongFalsely : Prop := matchAllRow.holds Try.pinned (OpenSpec.ofChange matchAllWrong)

/-- 'diapauselaw6.MatchDeep': WHATEVER THE INPUT: true; the input reads as it did. -/
def matchDeepSpec : ChangeSpec := { name := "matchDeep", fn := fun _ => fun
  | [d1, d2] => { results := [.lit (.bool true)], args := [d1, d2] }
  | _ => none }
def matchDeepRow : OpenClaim := { program := "ytkjfflabapeidaa", sum := "a7f6daf6dfb0cb7fba4c5d5b22152105e78f40fa4b67b7e1c83a27bcac2475fe", func := "diapause/diapauselaw6.MatchDeep", spec := "matchDeep", apart := false }
def MatchDeepSaid : Prop := matchDeepRow.holds Try.pinned (OpenSpec.ofChange matchDeepSpec)

/-- ITS FALSE NEIGHBOUR: 'it returns false'. Refute it at one input. -/
def matchDeepWrong : ChangeSpec := { name := "matchDeep", fn := fun _ => fun
  | [d1, d2] => { results := [.lit (.bool false)], args := [d1, d2] }
  | _ => none }
def MatchDeepWrongFalsely : Prop := matchDeepRow.holds Try.pinned (OpenSpec.ofChange matchDeepWrong)

/-- 'diapauselaw6.CodeBack': WHATEVER THE INPUT: true; the input reads as it did. -/
def codeBackSpec : ChangeSpec := { name := "codeBack", fn := fun _ => fun
  | [d1, d2, d3] => { results := [.lit (.bool true)], args := [d1, d2, d3] }
  | _ => none }
def codeBackRow : OpenClaim := { program := "ytkjfflabapeidaa", sum := "a7f6daf6dfb0cb7fba4c5d5b22152105e78f40fa4b67b7e1c83a27bcac2475fe", func := "diapause/diapauselaw6.CodeBack", spec := "codeBack", apart := false }
def CodeBackSaid : Prop := codeBackRow.holds Try.pinned (OpenSpec.ofChange codeBackSpec)

/-- ITS FALSE NEIGHBOUR: 'it returns false'. Refute it at one input. -/
def codeBackWrong : ChangeSpec := { name := "codeBack", fn := fun _ => fun
  | [d1, d2, d3] => { results := [.lit (.bool false)], args := [d1, d2, d3] }
  | _ => none }
def CodeBackWrongFalsely : Prop := codeBackRow.holds Try.pinned (OpenSpec.ofChange codeBackWrong)

/-- 'diapauselaw6.CodeAny': WHATEVER THE INPUT: true; the input reads as it did. -/
def codeAnySpec : ChangeSpec := { name := "codeAny", fn := fun _ => fun
  | [d1, d2, d3, d4] => { results := [.lit (.bool true)], args := [d1, d2, d3, d4] }
  | _ => none }
def codeAnyRow : OpenClaim := { program := "ytkjfflabapeidaa", sum := "a7f6daf6dfb0cb7fba4c5d5b22152105e78f40fa4b67b7e1c83a27bcac2475fe", func := "diapause/diapauselaw6.CodeAny", spec := "codeAny", apart := false }
def CodeAnySaid : Prop := codeAnyRow.holds Try.pinned (OpenSpec.ofChange codeAnySpec)

/-- ITS FALSE NEIGHBOUR: 'it returns false'. Refute it at one input. -/
def codeAnyWrong : ChangeSpec := { name := "codeAny", fn := fun _ => fun
  | [d1, d2, d3, d4] => { results := [.lit (.bool false)], args := [d1, d2, d3, d4] }
  | _ => none }
def CodeAnyWrongFalsely : Prop := codeAnyRow.holds Try.pinned (OpenSpec.ofChange codeAnyWrong)

/-- 'diapauselaw6.CodeMany': WHATEVER THE INPUT: true; the input reads as it did. -/
def codeManySpec : ChangeSpec := { name := "codeMany", fn := fun _ => fun
  | [d1, d2, d3] => { results := [.lit (.bool true)], args := [d1, d2, d3] }
  | _ => none }
def codeManyRow : OpenClaim := { program := "ytkjfflabapeidaa", sum := "a7f6daf6dfb0cb7fba4c5d5b22152105e78f40fa4b67b7e1c83a27bcac2475fe", func := "diapause/diapauselaw6.CodeMany", spec := "codeMany", apart := false }
def CodeManySaid : Prop := codeManyRow.holds Try.pinned (OpenSpec.ofChange codeManySpec)

/-- ITS FALSE NEIGHBOUR: 'it returns false'. Refute it at one input. -/
def codeManyWrong : ChangeSpec := { name := "codeMany", fn := fun _ => fun
  | [d1, d2, d3] => { results := [.lit (.bool false)], args := [d1, d2, d3] }
  | _ => none }
def CodeManyWrongFalsely : Prop := codeManyRow.holds Try.pinned (OpenSpec.ofChange codeManyWrong)

/-- 'diapauselaw6.MatchInner': WHATEVER THE INPUT: true; the input reads as it did. -/
def matchInnerSpec : ChangeSpec := { name := "matchInner", fn := fun _ => fun
  | [d1, d2] => { results := [.lit (.bool true)], args := [d1, d2] }
  | _ => none }
def matchInnerRow : OpenClaim := { program := "ytkjfflabapeidaa", sum := "a7f6daf6dfb0cb7fba4c5d5b22152105e78f40fa4b67b7e1c83a27bcac2475fe", func := "diapause/diapauselaw6.MatchInner", spec := "matchInner", apart := false }
def MatchInnerSaid : Prop := matchInnerRow.holds Try.pinned (OpenSpec.ofChange matchInnerSpec)

/-- ITS FALSE NEIGHBOUR: 'it returns false'. Refute it at one input. -/
def matchInnerWrong : ChangeSpec := { name := "matchInner", fn := fun _ => fun
  | [d1, d2] => { results := [.lit (.bool false)], args := [d1, d2] }
  | _ => none }
def MatchInnerWrongFalsely : Prop := matchInnerRow.holds Try.pinned (OpenSpec.ofChange matchInnerWrong)

/-- 'diapauselaw6.TargetsDeep': WHATEVER THE INPUT: true; the input reads as it did. -/
def targetsDeepSpec : ChangeSpec := { name := "targetsDeep", fn := fun _ => fun
  | [d] => { results := [.lit (.bool true)], args := [d] }
  | _ => none }
def targetsDeepRow : OpenClaim := { program := "ytkjfflabapeidaa", sum := "a7f6daf6dfb0cb7fba4c5d5b22152105e78f40fa4b67b7e1c83a27bcac2475fe", func := "diapause/diapauselaw6.TargetsDeep", spec := "targetsDeep", apart := false }
def TargetsDeepSaid : Prop := targetsDeepRow.holds Try.pinned (OpenSpec.ofChange targetsDeepSpec)

/-- ITS FALSE NEIGHBOUR: 'it returns false'. Refute it at one input. -/
def targetsDeepWrong : ChangeSpec := { name := "targetsDeep", fn := fun _ => fun
  | [d] => { results := [.lit (.bool false)], args := [d] }
  | _ => none }
def TargetsDeepWrongFalsely : Prop := targetsDeepRow.holds Try.pinned (OpenSpec.ofChange targetsDeepWrong)

/-- 'diapauselaw6.MatchShape': WHATEVER THE INPUT: true; the input reads as it did. -/
def matchShapeSpec : ChangeSpec := { name := "matchShape", fn := fun _ => fun
  | [d] => { results := [.lit (.bool true)], args := [d] }
  | _ => none }
def matchShapeRow : OpenClaim := { program := "ytkjfflabapeidaa", sum := "a7f6daf6dfb0cb7fba4c5d5b22152105e78f40fa4b67b7e1c83a27bcac2475fe", func := "diapause/diapauselaw6.MatchShape", spec := "matchShape", apart := false }
def MatchShapeSaid : Prop := matchShapeRow.holds Try.pinned (OpenSpec.ofChange matchShapeSpec)

/-- ITS FALSE NEIGHBOUR: 'it returns false'. Refute it at one input. -/
def matchShapeWrong : ChangeSpec := { name := "matchShape", fn := fun _ => fun
  | [d] => { results := [.lit (.bool false)], args := [d] }
  | _ => none }
def MatchShapeWrongFalsely : Prop := matchShapeRow.holds Try.pinned (OpenSpec.ofChange matchShapeWrong)

/- THE SECOND FORM. 'bulk': how many values and letters a reading holds, each counted each time it is reached (what is shared counts as often as it is met; a slice's spare places count too). A statement '..UptoSaid' is the law's where the arguments, and the package variables that the reading takes, are together of bulk at most 1048576: NARROWER than '..Said'. Prove '..Said' where nothing that the law and all that it calls make is longer than what came in: it says more and counts as full. Else prove '..UptoSaid'. A law counts once. -/
mutual
def uptoBulk {H : Type} : DataW H → Nat
  | .lit (.string bytes) => bytes.length + 1
  | .lit _ => 1
  | .nil => 1
  | .ptr d => uptoBulk d + 1
  | .slice elems spare => uptoBulkAll elems + uptoBulkAll spare + 1
  | .agg parts => uptoBulkAll parts + 1
  | .iface _ d => uptoBulk d + 1
  | .map entries => uptoBulkEntries entries + 1
  | .held _ => 1
def uptoBulkAll {H : Type} : List (DataW H) → Nat
  | [] => 0
  | d :: r => uptoBulk d + uptoBulkAll r
def uptoBulkEntries {H : Type} : List (Lit × DataW H) → Nat
  | [] => 0
  | x :: r => uptoBulkEntry x + uptoBulkEntries r
def uptoBulkEntry {H : Type} : Lit × DataW H → Nat
  | (.string bytes, d) => bytes.length + uptoBulk d + 1
  | (_, d) => uptoBulk d + 1
 end
def uptoSmall : (H : Type) → List (DataW H) → Bool := fun _ ds => decide (uptoBulkAll ds ≤ 1048576)
def OpenSpec.upto (s : _root_.Go.ChangeSpec) : _root_.Go.OpenSpec := { _root_.Go.OpenSpec.ofChange s with cond := some uptoSmall }

/-- 'diapauselaw5.InstrAll', WHERE WHAT IT READS IS OF BULK AT MOST 1048576: true; the input reads as it did. -/
def instrAllUptoRow : OpenClaim := { program := "ytkjfflabapeidaa", sum := "a7f6daf6dfb0cb7fba4c5d5b22152105e78f40fa4b67b7e1c83a27bcac2475fe", func := "diapause/diapauselaw5.InstrAll", spec := "instrAll", unfollowed := true, recurses := true, apart := false, narrowed := true }
def InstrAllUptoSaid : Prop := instrAllUptoRow.holds Try.pinned (OpenSpec.upto instrAllSpec)

/-- 'diapauselaw5.InstrAny', WHERE WHAT IT READS IS OF BULK AT MOST 1048576: true; the input reads as it did. -/
def instrAnyUptoRow : OpenClaim := { program := "ytkjfflabapeidaa", sum := "a7f6daf6dfb0cb7fba4c5d5b22152105e78f40fa4b67b7e1c83a27bcac2475fe", func := "diapause/diapauselaw5.InstrAny", spec := "instrAny", unfollowed := true, recurses := true, apart := false, narrowed := true }
def InstrAnyUptoSaid : Prop := instrAnyUptoRow.holds Try.pinned (OpenSpec.upto instrAnySpec)

/-- 'diapauselaw5.InstrOps', WHERE WHAT IT READS IS OF BULK AT MOST 1048576: true; the input reads as it did. -/
def instrOpsUptoRow : OpenClaim := { program := "ytkjfflabapeidaa", sum := "a7f6daf6dfb0cb7fba4c5d5b22152105e78f40fa4b67b7e1c83a27bcac2475fe", func := "diapause/diapauselaw5.InstrOps", spec := "instrOps", unfollowed := true, recurses := true, apart := false, narrowed := true }
def InstrOpsUptoSaid : Prop := instrOpsUptoRow.holds Try.pinned (OpenSpec.upto instrOpsSpec)

/-- 'diapauselaw5.InstrMany', WHERE WHAT IT READS IS OF BULK AT MOST 1048576: true; the input reads as it did. -/
def instrManyUptoRow : OpenClaim := { program := "ytkjfflabapeidaa", sum := "a7f6daf6dfb0cb7fba4c5d5b22152105e78f40fa4b67b7e1c83a27bcac2475fe", func := "diapause/diapauselaw5.InstrMany", spec := "instrMany", unfollowed := true, recurses := true, apart := false, narrowed := true }
def InstrManyUptoSaid : Prop := instrManyUptoRow.holds Try.pinned (OpenSpec.upto instrManySpec)

/-- 'diapauselaw5.InstrLimits', WHERE WHAT IT READS IS OF BULK AT MOST 1048576: true; the input reads as it did. -/
def instrLimitsUptoRow : OpenClaim := { program := "ytkjfflabapeidaa", sum := "a7f6daf6dfb0cb7fba4c5d5b22152105e78f40fa4b67b7e1c83a27bcac2475fe", func := "diapause/diapauselaw5.InstrLimits", spec := "instrLimits", unfollowed := true, recurses := true, apart := false, narrowed := true }
def InstrLimitsUptoSaid : Prop := instrLimitsUptoRow.holds Try.pinned (OpenSpec.upto instrLimitsSpec)

/-- 'diapauselaw6.MatchAll', WHERE WHAT IT READS IS OF BULK AT MOST 1048576: true; the input reads as it did. -/
def matchAllUptoRow : OpenClaim := { program := "ytkjfflabapeidaa", sum := "a7f6daf6dfb0cb7fba4c5d5b22152105e78f40fa4b67b7e1c83a27bcac2475fe", func := "diapause/diapauselaw6.MatchAll", spec := "matchAll", apart := false, narrowed := true }
def MatchAllUptoSaid : Prop := matchAllUptoRow.holds Try.pinned (OpenSpec.upto matchAllSpec)

/-- 'diapauselaw6.MatchDeep', WHERE WHAT IT READS IS OF BULK AT MOST 1048576: true; the input reads as it did. -/
def matchDeepUptoRow : OpenClaim := { program := "ytkjfflabapeidaa", sum := "a7f6daf6dfb0cb7fba4c5d5b22152105e78f40fa4b67b7e1c83a27bcac2475fe", func := "diapause/diapauselaw6.MatchDeep", spec := "matchDeep", apart := false, narrowed := true }
def MatchDeepUptoSaid : Prop := matchDeepUptoRow.holds Try.pinned (OpenSpec.upto matchDeepSpec)

/-- 'diapauselaw6.CodeBack', WHERE WHAT IT READS IS OF BULK AT MOST 1048576: true; the input reads as it did. -/
def codeBackUptoRow : OpenClaim := { program := "ytkjfflabapeidaa", sum := "a7f6daf6dfb0cb7fba4c5d5b22152105e78f40fa4b67b7e1c83a27bcac2475fe", func := "diapause/diapauselaw6.CodeBack", spec := "codeBack", apart := false, narrowed := true }
def CodeBackUptoSaid : Prop := codeBackUptoRow.holds Try.pinned (OpenSpec.upto codeBackSpec)

/-- 'diapauselaw6.CodeAny', WHERE WHAT IT READS IS OF BULK AT MOST 1048576: true; the input reads as it did. -/
def codeAnyUptoRow : OpenClaim := { program := "ytkjfflabapeidaa", sum := "a7f6daf6dfb0cb7fba4c5d5b22152105e78f40fa4b67b7e1c83a27bcac2475fe", func := "diapause/diapauselaw6.CodeAny", spec := "codeAny", apart := false, narrowed := true }
def CodeAnyUptoSaid : Prop := codeAnyUptoRow.holds Try.pinned (OpenSpec.upto codeAnySpec)

/-- 'diapauselaw6.CodeMany', WHERE WHAT IT READS IS OF BULK AT MOST 1048576: true; the input reads as it did. -/
def codeManyUptoRow : OpenClaim := { program := "ytkjfflabapeidaa", sum := "a7f6daf6dfb0cb7fba4c5d5b22152105e78f40fa4b67b7e1c83a27bcac2475fe", func := "diapause/diapauselaw6.CodeMany", spec := "codeMany", apart := false, narrowed := true }
def CodeManyUptoSaid : Prop := codeManyUptoRow.holds Try.pinned (OpenSpec.upto codeManySpec)

/-- 'diapauselaw6.MatchInner', WHERE WHAT IT READS IS OF BULK AT MOST 1048576: true; the input reads as it did. -/
def matchInnerUptoRow : OpenClaim := { program := "ytkjfflabapeidaa", sum := "a7f6daf6dfb0cb7fba4c5d5b22152105e78f40fa4b67b7e1c83a27bcac2475fe", func := "diapause/diapauselaw6.MatchInner", spec := "matchInner", apart := false, narrowed := true }
def MatchInnerUptoSaid : Prop := matchInnerUptoRow.holds Try.pinned (OpenSpec.upto matchInnerSpec)

/-- 'diapauselaw6.TargetsDeep', WHERE WHAT IT READS IS OF BULK AT MOST 1048576: true; the input reads as it did. -/
def targetsDeepUptoRow : OpenClaim := { program := "ytkjfflabapeidaa", sum := "a7f6daf6dfb0cb7fba4c5d5b22152105e78f40fa4b67b7e1c83a27bcac2475fe", func := "diapause/diapauselaw6.TargetsDeep", spec := "targetsDeep", apart := false, narrowed := true }
def TargetsDeepUptoSaid : Prop := targetsDeepUptoRow.holds Try.pinned (OpenSpec.upto targetsDeepSpec)

/-- 'diapauselaw6.MatchShape', WHERE WHAT IT READS IS OF BULK AT MOST 1048576: true; the input reads as it did. -/
def matchShapeUptoRow : OpenClaim := { program := "ytkjfflabapeidaa", sum := "a7f6daf6dfb0cb7fba4c5d5b22152105e78f40fa4b67b7e1c83a27bcac2475fe", func := "diapause/diapauselaw6.MatchShape", spec := "matchShape", apart := false, narrowed := true }
def MatchShapeUptoSaid : Prop := matchShapeUptoRow.holds Try.pinned (OpenSpec.upto matchShapeSpec)

end Rows
end Go.Proofs.Ytkjfflabapeidaa
