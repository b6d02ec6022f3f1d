/-
  No cell of these rows narrows 'for every input' (looked for: loops, veiled, ifaces, maps, wideKeys, modest, calm, conditions, laid).
  DERIVED. THE GIVEN ROWS OF THIS SEAT. 13 by the template 'for every input the law returns true; each argument reads behind the call as it read before'; 0 by the template 'total and deterministic' (their statements: YtggbekkinkggfaaTotals.lean).
  GIVEN WITH THE SEED: the statements are not yours to turn. If you find one false, say at which input.
  Laid BY PROGRAM, IN A SANDBOX (cutbox-rows.mjs): the forced cells as the released guide's own fill.sh prints them over the translation 17051b531aafe18a… (all of the seat's roots in one cut). By AI agents, Wed Nov 11 2026. No macro, syntax, notation, axiom, sorry.
-/
import Derived.Test.YtggbekkinkggfaaChecked
import GoSem.Claim
import GoSem.ClaimJoined
import GoSem.ClaimMapViews
import Derived.JoinedTies
import Derived.KernelRfl
namespace Go.Proofs.Ytggbekkinkggfaa
/- THE CELL 'sum', in the pinned program and in every row, IS THE sha256 OF THE DUMP (.gsa) THAT YtggbekkinkggfaaProg.lean LOADS. Nothing in Lean hashes anything: it is a label: what it is worth is what the hold of that sum in a sandbox is worth. -/
noncomputable def Try.pinned : Pinned := { name := "ytggbekkinkggfaa", sum := "17051b531aafe18a3afa567104553bae451b7044f3125c8c74bd27dd004ded77", checked := Try.checked }
namespace Rows
def none {H : Type} : Left H := { results := [], args := [] }

/-- 'laws.FnExactAreSigns': WHATEVER THE INPUT: true; the input reads as it did. -/
def fnExactAreSignsSpec : ChangeSpec := { name := "fnExactAreSigns", fn := fun _ => fun
  | [d] => { results := [.lit (.bool true)], args := [d] }
  | _ => none }
def fnExactAreSignsRow : OpenClaim := { program := "ytggbekkinkggfaa", sum := "17051b531aafe18a3afa567104553bae451b7044f3125c8c74bd27dd004ded77", func := "loop.example/g03104/laws.FnExactAreSigns", spec := "fnExactAreSigns", apart := false }
def FnExactAreSignsSaid : Prop := fnExactAreSignsRow.holds Try.pinned (OpenSpec.ofChange fnExactAreSignsSpec)

/-- ITS FALSE NEIGHBOUR: 'it returns false'. Refute it at one input. -/
def fnExactAreSignsWrong : ChangeSpec := { name := "fnExactAreSigns", fn := fun _ => fun
  | [d] => { results := [.lit (.bool false)], args := [d] }
  | _ => none }
def FnExactAreSignsWrongFalsely : Prop := fnExactAreSignsRow.holds Try.pinned (OpenSpec.ofChange fnExactAreSignsWrong)

/-- 'laws.FnExactOppositeSigns': WHATEVER THE INPUT: true; the input reads as it did. -/
def fnExactOppositeSignsSpec : ChangeSpec := { name := "fnExactOppositeSigns", fn := fun _ => fun
  | [d] => { results := [.lit (.bool true)], args := [d] }
  | _ => none }
def fnExactOppositeSignsRow : OpenClaim := { program := "ytggbekkinkggfaa", sum := "17051b531aafe18a3afa567104553bae451b7044f3125c8c74bd27dd004ded77", func := "loop.example/g03104/laws.FnExactOppositeSigns", spec := "fnExactOppositeSigns", apart := false }
def FnExactOppositeSignsSaid : Prop := fnExactOppositeSignsRow.holds Try.pinned (OpenSpec.ofChange fnExactOppositeSignsSpec)

/-- ITS FALSE NEIGHBOUR: 'it returns false'. Refute it at one input. -/
def fnExactOppositeSignsWrong : ChangeSpec := { name := "fnExactOppositeSigns", fn := fun _ => fun
  | [d] => { results := [.lit (.bool false)], args := [d] }
  | _ => none }
def FnExactOppositeSignsWrongFalsely : Prop := fnExactOppositeSignsRow.holds Try.pinned (OpenSpec.ofChange fnExactOppositeSignsWrong)

/-- 'laws.FnExactSignAt': WHATEVER THE INPUT: true; the input reads as it did. -/
def fnExactSignAtSpec : ChangeSpec := { name := "fnExactSignAt", fn := fun _ => fun
  | [d1, d2, d3, d4] => { results := [.lit (.bool true)], args := [d1, d2, d3, d4] }
  | _ => none }
def fnExactSignAtRow : OpenClaim := { program := "ytggbekkinkggfaa", sum := "17051b531aafe18a3afa567104553bae451b7044f3125c8c74bd27dd004ded77", func := "loop.example/g03104/laws.FnExactSignAt", spec := "fnExactSignAt", apart := false }
def FnExactSignAtSaid : Prop := fnExactSignAtRow.holds Try.pinned (OpenSpec.ofChange fnExactSignAtSpec)

/-- ITS FALSE NEIGHBOUR: 'it returns false'. Refute it at one input. -/
def fnExactSignAtWrong : ChangeSpec := { name := "fnExactSignAt", fn := fun _ => fun
  | [d1, d2, d3, d4] => { results := [.lit (.bool false)], args := [d1, d2, d3, d4] }
  | _ => none }
def FnExactSignAtWrongFalsely : Prop := fnExactSignAtRow.holds Try.pinned (OpenSpec.ofChange fnExactSignAtWrong)

/-- 'laws.FnExactWithoutElement': WHATEVER THE INPUT: true; the input reads as it did. -/
def fnExactWithoutElementSpec : ChangeSpec := { name := "fnExactWithoutElement", fn := fun _ => fun
  | [d1, d2] => { results := [.lit (.bool true)], args := [d1, d2] }
  | _ => none }
def fnExactWithoutElementRow : OpenClaim := { program := "ytggbekkinkggfaa", sum := "17051b531aafe18a3afa567104553bae451b7044f3125c8c74bd27dd004ded77", func := "loop.example/g03104/laws.FnExactWithoutElement", spec := "fnExactWithoutElement", apart := false }
def FnExactWithoutElementSaid : Prop := fnExactWithoutElementRow.holds Try.pinned (OpenSpec.ofChange fnExactWithoutElementSpec)

/-- ITS FALSE NEIGHBOUR: 'it returns false'. Refute it at one input. -/
def fnExactWithoutElementWrong : ChangeSpec := { name := "fnExactWithoutElement", fn := fun _ => fun
  | [d1, d2] => { results := [.lit (.bool false)], args := [d1, d2] }
  | _ => none }
def FnExactWithoutElementWrongFalsely : Prop := fnExactWithoutElementRow.holds Try.pinned (OpenSpec.ofChange fnExactWithoutElementWrong)

/-- 'laws.FnExactReverseElement': WHATEVER THE INPUT: true; the input reads as it did. -/
def fnExactReverseElementSpec : ChangeSpec := { name := "fnExactReverseElement", fn := fun _ => fun
  | [d1, d2] => { results := [.lit (.bool true)], args := [d1, d2] }
  | _ => none }
def fnExactReverseElementRow : OpenClaim := { program := "ytggbekkinkggfaa", sum := "17051b531aafe18a3afa567104553bae451b7044f3125c8c74bd27dd004ded77", func := "loop.example/g03104/laws.FnExactReverseElement", spec := "fnExactReverseElement", apart := false }
def FnExactReverseElementSaid : Prop := fnExactReverseElementRow.holds Try.pinned (OpenSpec.ofChange fnExactReverseElementSpec)

/-- ITS FALSE NEIGHBOUR: 'it returns false'. Refute it at one input. -/
def fnExactReverseElementWrong : ChangeSpec := { name := "fnExactReverseElement", fn := fun _ => fun
  | [d1, d2] => { results := [.lit (.bool false)], args := [d1, d2] }
  | _ => none }
def FnExactReverseElementWrongFalsely : Prop := fnExactReverseElementRow.holds Try.pinned (OpenSpec.ofChange fnExactReverseElementWrong)

/-- 'laws.FnExactIsMatroid': WHATEVER THE INPUT: true; the input reads as it did. -/
def fnExactIsMatroidSpec : ChangeSpec := { name := "fnExactIsMatroid", fn := fun _ => fun
  | [d] => { results := [.lit (.bool true)], args := [d] }
  | _ => none }
def fnExactIsMatroidRow : OpenClaim := { program := "ytggbekkinkggfaa", sum := "17051b531aafe18a3afa567104553bae451b7044f3125c8c74bd27dd004ded77", func := "loop.example/g03104/laws.FnExactIsMatroid", spec := "fnExactIsMatroid", apart := false }
def FnExactIsMatroidSaid : Prop := fnExactIsMatroidRow.holds Try.pinned (OpenSpec.ofChange fnExactIsMatroidSpec)

/-- ITS FALSE NEIGHBOUR: 'it returns false'. Refute it at one input. -/
def fnExactIsMatroidWrong : ChangeSpec := { name := "fnExactIsMatroid", fn := fun _ => fun
  | [d] => { results := [.lit (.bool false)], args := [d] }
  | _ => none }
def FnExactIsMatroidWrongFalsely : Prop := fnExactIsMatroidRow.holds Try.pinned (OpenSpec.ofChange fnExactIsMatroidWrong)

/-- 'laws.FnExactCircuitOf': WHATEVER THE INPUT: true; the input reads as it did. -/
def fnExactCircuitOfSpec : ChangeSpec := { name := "fnExactCircuitOf", fn := fun _ => fun
  | [d1, d2, d3, d4, d5] => { results := [.lit (.bool true)], args := [d1, d2, d3, d4, d5] }
  | _ => none }
def fnExactCircuitOfRow : OpenClaim := { program := "ytggbekkinkggfaa", sum := "17051b531aafe18a3afa567104553bae451b7044f3125c8c74bd27dd004ded77", func := "loop.example/g03104/laws.FnExactCircuitOf", spec := "fnExactCircuitOf", apart := false }
def FnExactCircuitOfSaid : Prop := fnExactCircuitOfRow.holds Try.pinned (OpenSpec.ofChange fnExactCircuitOfSpec)

/-- ITS FALSE NEIGHBOUR: 'it returns false'. Refute it at one input. -/
def fnExactCircuitOfWrong : ChangeSpec := { name := "fnExactCircuitOf", fn := fun _ => fun
  | [d1, d2, d3, d4, d5] => { results := [.lit (.bool false)], args := [d1, d2, d3, d4, d5] }
  | _ => none }
def FnExactCircuitOfWrongFalsely : Prop := fnExactCircuitOfRow.holds Try.pinned (OpenSpec.ofChange fnExactCircuitOfWrong)

/-- 'laws.FnExactFirstBreak': WHATEVER THE INPUT: true; the input reads as it did. -/
def fnExactFirstBreakSpec : ChangeSpec := { name := "fnExactFirstBreak", fn := fun _ => fun
  | [d] => { results := [.lit (.bool true)], args := [d] }
  | _ => none }
def fnExactFirstBreakRow : OpenClaim := { program := "ytggbekkinkggfaa", sum := "17051b531aafe18a3afa567104553bae451b7044f3125c8c74bd27dd004ded77", func := "loop.example/g03104/laws.FnExactFirstBreak", spec := "fnExactFirstBreak", apart := false }
def FnExactFirstBreakSaid : Prop := fnExactFirstBreakRow.holds Try.pinned (OpenSpec.ofChange fnExactFirstBreakSpec)

/-- ITS FALSE NEIGHBOUR: 'it returns false'. Refute it at one input. -/
def fnExactFirstBreakWrong : ChangeSpec := { name := "fnExactFirstBreak", fn := fun _ => fun
  | [d] => { results := [.lit (.bool false)], args := [d] }
  | _ => none }
def FnExactFirstBreakWrongFalsely : Prop := fnExactFirstBreakRow.holds Try.pinned (OpenSpec.ofChange fnExactFirstBreakWrong)

/-- 'laws.FnExactRenameSigns': WHATEVER THE INPUT: true; the input reads as it did. -/
def fnExactRenameSignsSpec : ChangeSpec := { name := "fnExactRenameSigns", fn := fun _ => fun
  | [d1, d2] => { results := [.lit (.bool true)], args := [d1, d2] }
  | _ => none }
def fnExactRenameSignsRow : OpenClaim := { program := "ytggbekkinkggfaa", sum := "17051b531aafe18a3afa567104553bae451b7044f3125c8c74bd27dd004ded77", func := "loop.example/g03104/laws.FnExactRenameSigns", spec := "fnExactRenameSigns", apart := false }
def FnExactRenameSignsSaid : Prop := fnExactRenameSignsRow.holds Try.pinned (OpenSpec.ofChange fnExactRenameSignsSpec)

/-- ITS FALSE NEIGHBOUR: 'it returns false'. Refute it at one input. -/
def fnExactRenameSignsWrong : ChangeSpec := { name := "fnExactRenameSigns", fn := fun _ => fun
  | [d1, d2] => { results := [.lit (.bool false)], args := [d1, d2] }
  | _ => none }
def FnExactRenameSignsWrongFalsely : Prop := fnExactRenameSignsRow.holds Try.pinned (OpenSpec.ofChange fnExactRenameSignsWrong)

/-- 'laws.FnExactIsAcyclic': WHATEVER THE INPUT: true; the input reads as it did. -/
def fnExactIsAcyclicSpec : ChangeSpec := { name := "fnExactIsAcyclic", fn := fun _ => fun
  | [d] => { results := [.lit (.bool true)], args := [d] }
  | _ => none }
def fnExactIsAcyclicRow : OpenClaim := { program := "ytggbekkinkggfaa", sum := "17051b531aafe18a3afa567104553bae451b7044f3125c8c74bd27dd004ded77", func := "loop.example/g03104/laws.FnExactIsAcyclic", spec := "fnExactIsAcyclic", apart := false }
def FnExactIsAcyclicSaid : Prop := fnExactIsAcyclicRow.holds Try.pinned (OpenSpec.ofChange fnExactIsAcyclicSpec)

/-- ITS FALSE NEIGHBOUR: 'it returns false'. Refute it at one input. -/
def fnExactIsAcyclicWrong : ChangeSpec := { name := "fnExactIsAcyclic", fn := fun _ => fun
  | [d] => { results := [.lit (.bool false)], args := [d] }
  | _ => none }
def FnExactIsAcyclicWrongFalsely : Prop := fnExactIsAcyclicRow.holds Try.pinned (OpenSpec.ofChange fnExactIsAcyclicWrong)

/-- 'laws.FnExactAcyclicSets': WHATEVER THE INPUT: true; the input reads as it did. -/
def fnExactAcyclicSetsSpec : ChangeSpec := { name := "fnExactAcyclicSets", fn := fun _ => fun
  | [d] => { results := [.lit (.bool true)], args := [d] }
  | _ => none }
def fnExactAcyclicSetsRow : OpenClaim := { program := "ytggbekkinkggfaa", sum := "17051b531aafe18a3afa567104553bae451b7044f3125c8c74bd27dd004ded77", func := "loop.example/g03104/laws.FnExactAcyclicSets", spec := "fnExactAcyclicSets", apart := false }
def FnExactAcyclicSetsSaid : Prop := fnExactAcyclicSetsRow.holds Try.pinned (OpenSpec.ofChange fnExactAcyclicSetsSpec)

/-- ITS FALSE NEIGHBOUR: 'it returns false'. Refute it at one input. -/
def fnExactAcyclicSetsWrong : ChangeSpec := { name := "fnExactAcyclicSets", fn := fun _ => fun
  | [d] => { results := [.lit (.bool false)], args := [d] }
  | _ => none }
def FnExactAcyclicSetsWrongFalsely : Prop := fnExactAcyclicSetsRow.holds Try.pinned (OpenSpec.ofChange fnExactAcyclicSetsWrong)

/-- 'laws.FnExactCapOf': WHATEVER THE INPUT: true; the input reads as it did. -/
def fnExactCapOfSpec : ChangeSpec := { name := "fnExactCapOf", fn := fun _ => fun
  | [d] => { results := [.lit (.bool true)], args := [d] }
  | _ => none }
def fnExactCapOfRow : OpenClaim := { program := "ytggbekkinkggfaa", sum := "17051b531aafe18a3afa567104553bae451b7044f3125c8c74bd27dd004ded77", func := "loop.example/g03104/laws.FnExactCapOf", spec := "fnExactCapOf", recurses := true, apart := false }
def FnExactCapOfSaid : Prop := fnExactCapOfRow.holds Try.pinned (OpenSpec.ofChange fnExactCapOfSpec)

/-- ITS FALSE NEIGHBOUR: 'it returns false'. Refute it at one input. -/
def fnExactCapOfWrong : ChangeSpec := { name := "fnExactCapOf", fn := fun _ => fun
  | [d] => { results := [.lit (.bool false)], args := [d] }
  | _ => none }
def FnExactCapOfWrongFalsely : Prop := fnExactCapOfRow.holds Try.pinned (OpenSpec.ofChange fnExactCapOfWrong)

/-- 'laws.FnExactCupOf': WHATEVER THE INPUT: true; the input reads as it did. -/
def fnExactCupOfSpec : ChangeSpec := { name := "fnExactCupOf", fn := fun _ => fun
  | [d] => { results := [.lit (.bool true)], args := [d] }
  | _ => none }
def fnExactCupOfRow : OpenClaim := { program := "ytggbekkinkggfaa", sum := "17051b531aafe18a3afa567104553bae451b7044f3125c8c74bd27dd004ded77", func := "loop.example/g03104/laws.FnExactCupOf", spec := "fnExactCupOf", recurses := true, apart := false }
def FnExactCupOfSaid : Prop := fnExactCupOfRow.holds Try.pinned (OpenSpec.ofChange fnExactCupOfSpec)

/-- ITS FALSE NEIGHBOUR: 'it returns false'. Refute it at one input. -/
def fnExactCupOfWrong : ChangeSpec := { name := "fnExactCupOf", fn := fun _ => fun
  | [d] => { results := [.lit (.bool false)], args := [d] }
  | _ => none }
def FnExactCupOfWrongFalsely : Prop := fnExactCupOfRow.holds Try.pinned (OpenSpec.ofChange fnExactCupOfWrong)

/- THE SECOND FORM. 'bulk': how many values and letters a reading holds, each counted each time it is reached (what is shared counts as often as it is met; a slice's spare places count too). A statement '..UptoSaid' is the law's where the arguments, and the package variables that the reading takes, are together of bulk at most 1048576: NARROWER than '..Said'. Prove '..Said' where nothing that the law and all that it calls make is longer than what came in: it says more and counts as full. Else prove '..UptoSaid'. A law counts once. -/
mutual
def uptoBulk {H : Type} : DataW H → Nat
  | .lit (.string bytes) => bytes.length + 1
  | .lit _ => 1
  | .nil => 1
  | .ptr d => uptoBulk d + 1
  | .slice elems spare => uptoBulkAll elems + uptoBulkAll spare + 1
  | .agg parts => uptoBulkAll parts + 1
  | .iface _ d => uptoBulk d + 1
  | .map entries => uptoBulkEntries entries + 1
  | .held _ => 1
def uptoBulkAll {H : Type} : List (DataW H) → Nat
  | [] => 0
  | d :: r => uptoBulk d + uptoBulkAll r
def uptoBulkEntries {H : Type} : List (Lit × DataW H) → Nat
  | [] => 0
  | x :: r => uptoBulkEntry x + uptoBulkEntries r
def uptoBulkEntry {H : Type} : Lit × DataW H → Nat
  | (.string bytes, d) => bytes.length + uptoBulk d + 1
  | (_, d) => uptoBulk d + 1
 end
def uptoSmall : (H : Type) → List (DataW H) → Bool := fun _ ds => decide (uptoBulkAll ds ≤ 1048576)
def OpenSpec.upto (s : _root_.Go.ChangeSpec) : _root_.Go.OpenSpec := { _root_.Go.OpenSpec.ofChange s with cond := some uptoSmall }

/-- 'laws.FnExactAreSigns', WHERE WHAT IT READS IS OF BULK AT MOST 1048576: true; the input reads as it did. -/
def fnExactAreSignsUptoRow : OpenClaim := { program := "ytggbekkinkggfaa", sum := "17051b531aafe18a3afa567104553bae451b7044f3125c8c74bd27dd004ded77", func := "loop.example/g03104/laws.FnExactAreSigns", spec := "fnExactAreSigns", apart := false, narrowed := true }
def FnExactAreSignsUptoSaid : Prop := fnExactAreSignsUptoRow.holds Try.pinned (OpenSpec.upto fnExactAreSignsSpec)

/-- 'laws.FnExactOppositeSigns', WHERE WHAT IT READS IS OF BULK AT MOST 1048576: true; the input reads as it did. -/
def fnExactOppositeSignsUptoRow : OpenClaim := { program := "ytggbekkinkggfaa", sum := "17051b531aafe18a3afa567104553bae451b7044f3125c8c74bd27dd004ded77", func := "loop.example/g03104/laws.FnExactOppositeSigns", spec := "fnExactOppositeSigns", apart := false, narrowed := true }
def FnExactOppositeSignsUptoSaid : Prop := fnExactOppositeSignsUptoRow.holds Try.pinned (OpenSpec.upto fnExactOppositeSignsSpec)

/-- 'laws.FnExactSignAt', WHERE WHAT IT READS IS OF BULK AT MOST 1048576: true; the input reads as it did. -/
def fnExactSignAtUptoRow : OpenClaim := { program := "ytggbekkinkggfaa", sum := "17051b531aafe18a3afa567104553bae451b7044f3125c8c74bd27dd004ded77", func := "loop.example/g03104/laws.FnExactSignAt", spec := "fnExactSignAt", apart := false, narrowed := true }
def FnExactSignAtUptoSaid : Prop := fnExactSignAtUptoRow.holds Try.pinned (OpenSpec.upto fnExactSignAtSpec)

/-- 'laws.FnExactWithoutElement', WHERE WHAT IT READS IS OF BULK AT MOST 1048576: true; the input reads as it did. -/
def fnExactWithoutElementUptoRow : OpenClaim := { program := "ytggbekkinkggfaa", sum := "17051b531aafe18a3afa567104553bae451b7044f3125c8c74bd27dd004ded77", func := "loop.example/g03104/laws.FnExactWithoutElement", spec := "fnExactWithoutElement", apart := false, narrowed := true }
def FnExactWithoutElementUptoSaid : Prop := fnExactWithoutElementUptoRow.holds Try.pinned (OpenSpec.upto fnExactWithoutElementSpec)

/-- 'laws.FnExactReverseElement', WHERE WHAT IT READS IS OF BULK AT MOST 1048576: true; the input reads as it did. -/
def fnExactReverseElementUptoRow : OpenClaim := { program := "ytggbekkinkggfaa", sum := "17051b531aafe18a3afa567104553bae451b7044f3125c8c74bd27dd004ded77", func := "loop.example/g03104/laws.FnExactReverseElement", spec := "fnExactReverseElement", apart := false, narrowed := true }
def FnExactReverseElementUptoSaid : Prop := fnExactReverseElementUptoRow.holds Try.pinned (OpenSpec.upto fnExactReverseElementSpec)

/-- 'laws.FnExactIsMatroid', WHERE WHAT IT READS IS OF BULK AT MOST 1048576: true; the input reads as it did. -/
def fnExactIsMatroidUptoRow : OpenClaim := { program := "ytggbekkinkggfaa", sum := "17051b531aafe18a3afa567104553bae451b7044f3125c8c74bd27dd004ded77", func := "loop.example/g03104/laws.FnExactIsMatroid", spec := "fnExactIsMatroid", apart := false, narrowed := true }
def FnExactIsMatroidUptoSaid : Prop := fnExactIsMatroidUptoRow.holds Try.pinned (OpenSpec.upto fnExactIsMatroidSpec)

/-- 'laws.FnExactCircuitOf', WHERE WHAT IT READS IS OF BULK AT MOST 1048576: true; the input reads as it did. -/
def fnExactCircuitOfUptoRow : OpenClaim := { program := "ytggbekkinkggfaa", sum := "17051b531aafe18a3afa567104553bae451b7044f3125c8c74bd27dd004ded77", func := "loop.example/g03104/laws.FnExactCircuitOf", spec := "fnExactCircuitOf", apart := false, narrowed := true }
def FnExactCircuitOfUptoSaid : Prop := fnExactCircuitOfUptoRow.holds Try.pinned (OpenSpec.upto fnExactCircuitOfSpec)

/-- 'laws.FnExactFirstBreak', WHERE WHAT IT READS IS OF BULK AT MOST 1048576: true; the input reads as it did. -/
def fnExactFirstBreakUptoRow : OpenClaim := { program := "ytggbekkinkggfaa", sum := "17051b531aafe18a3afa567104553bae451b7044f3125c8c74bd27dd004ded77", func := "loop.example/g03104/laws.FnExactFirstBreak", spec := "fnExactFirstBreak", apart := false, narrowed := true }
def FnExactFirstBreakUptoSaid : Prop := fnExactFirstBreakUptoRow.holds Try.pinned (OpenSpec.upto fnExactFirstBreakSpec)

/-- 'laws.FnExactRenameSigns', WHERE WHAT IT READS IS OF BULK AT MOST 1048576: true; the input reads as it did. -/
def fnExactRenameSignsUptoRow : OpenClaim := { program := "ytggbekkinkggfaa", sum := "17051b531aafe18a3afa567104553bae451b7044f3125c8c74bd27dd004ded77", func := "loop.example/g03104/laws.FnExactRenameSigns", spec := "fnExactRenameSigns", apart := false, narrowed := true }
def FnExactRenameSignsUptoSaid : Prop := fnExactRenameSignsUptoRow.holds Try.pinned (OpenSpec.upto fnExactRenameSignsSpec)

/-- 'laws.FnExactIsAcyclic', WHERE WHAT IT READS IS OF BULK AT MOST 1048576: true; the input reads as it did. -/
def fnExactIsAcyclicUptoRow : OpenClaim := { program := "ytggbekkinkggfaa", sum := "17051b531aafe18a3afa567104553bae451b7044f3125c8c74bd27dd004ded77", func := "loop.example/g03104/laws.FnExactIsAcyclic", spec := "fnExactIsAcyclic", apart := false, narrowed := true }
def FnExactIsAcyclicUptoSaid : Prop := fnExactIsAcyclicUptoRow.holds Try.pinned (OpenSpec.upto fnExactIsAcyclicSpec)

/-- 'laws.FnExactAcyclicSets', WHERE WHAT IT READS IS OF BULK AT MOST 1048576: true; the input reads as it did. -/
def fnExactAcyclicSetsUptoRow : OpenClaim := { program := "ytggbekkinkggfaa", sum := "17051b531aafe18a3afa567104553bae451b7044f3125c8c74bd27dd004ded77", func := "loop.example/g03104/laws.FnExactAcyclicSets", spec := "fnExactAcyclicSets", apart := false, narrowed := true }
def FnExactAcyclicSetsUptoSaid : Prop := fnExactAcyclicSetsUptoRow.holds Try.pinned (OpenSpec.upto fnExactAcyclicSetsSpec)

/-- 'laws.FnExactCapOf', WHERE WHAT IT READS IS OF BULK AT MOST 1048576: true; the input reads as it did. -/
def fnExactCapOfUptoRow : OpenClaim := { program := "ytggbekkinkggfaa", sum := "17051b531aafe18a3afa567104553bae451b7044f3125c8c74bd27dd004ded77", func := "loop.example/g03104/laws.FnExactCapOf", spec := "fnExactCapOf", recurses := true, apart := false, narrowed := true }
def FnExactCapOfUptoSaid : Prop := fnExactCapOfUptoRow.holds Try.pinned (OpenSpec.upto fnExactCapOfSpec)

/-- 'laws.FnExactCupOf', WHERE WHAT IT READS IS OF BULK AT MOST 1048576: true; the input reads as it did. -/
def fnExactCupOfUptoRow : OpenClaim := { program := "ytggbekkinkggfaa", sum := "17051b531aafe18a3afa567104553bae451b7044f3125c8c74bd27dd004ded77", func := "loop.example/g03104/laws.FnExactCupOf", spec := "fnExactCupOf", recurses := true, apart := false, narrowed := true }
def FnExactCupOfUptoSaid : Prop := fnExactCupOfUptoRow.holds Try.pinned (OpenSpec.upto fnExactCupOfSpec)

end Rows
end Go.Proofs.Ytggbekkinkggfaa
