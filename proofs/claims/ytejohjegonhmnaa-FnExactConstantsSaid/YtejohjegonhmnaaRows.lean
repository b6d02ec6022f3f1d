/-
  No cell of these rows narrows 'for every input' (looked for: loops, veiled, ifaces, maps, wideKeys, modest, calm, conditions, laid).
  DERIVED. THE GIVEN ROWS OF THIS SEAT. 6 by the template 'for every input the law returns true; each argument reads behind the call as it read before'; 0 by the template 'total and deterministic' (their statements: YtejohjegonhmnaaTotals.lean).
  GIVEN WITH THE SEED: the statements are not yours to turn. If you find one false, say at which input.
  Laid BY PROGRAM, IN A SANDBOX (cutbox-rows.mjs): the forced cells as the released guide's own fill.sh prints them over the translation 29b7cfc48fc53cb9… (all of the seat's roots in one cut). By AI agents, Wed Nov 11 2026. No macro, syntax, notation, axiom, sorry.
-/
import Derived.Test.YtejohjegonhmnaaChecked
import GoSem.Claim
import GoSem.ClaimJoined
import GoSem.ClaimMapViews
import Derived.JoinedTies
import Derived.KernelRfl
namespace Go.Proofs.Ytejohjegonhmnaa
/- THE CELL 'sum', in the pinned program and in every row, IS THE sha256 OF THE DUMP (.gsa) THAT YtejohjegonhmnaaProg.lean LOADS. Nothing in Lean hashes anything: it is a label: what it is worth is what the hold of that sum in a sandbox is worth. -/
noncomputable def Try.pinned : Pinned := { name := "ytejohjegonhmnaa", sum := "29b7cfc48fc53cb9b62b52294cfd813fcaaf72502036b7a4c6fcd1821d34337c", checked := Try.checked }
namespace Rows
def none {H : Type} : Left H := { results := [], args := [] }

/-- 'laws.FnExactConstants': WHATEVER THE INPUT: true; the input reads as it did. -/
def fnExactConstantsSpec : ChangeSpec := { name := "fnExactConstants", fn := fun _ => fun
  | [] => { results := [.lit (.bool true)], args := [] }
  | _ => none }
def fnExactConstantsRow : OpenClaim := { program := "ytejohjegonhmnaa", sum := "29b7cfc48fc53cb9b62b52294cfd813fcaaf72502036b7a4c6fcd1821d34337c", func := "loop.example/g03104/laws.FnExactConstants", spec := "fnExactConstants", apart := false }
def FnExactConstantsSaid : Prop := fnExactConstantsRow.holds Try.pinned (OpenSpec.ofChange fnExactConstantsSpec)

/-- ITS FALSE NEIGHBOUR: 'it returns false'. Refute it at one input. -/
def fnExactConstantsWrong : ChangeSpec := { name := "fnExactConstants", fn := fun _ => fun
  | [] => { results := [.lit (.bool false)], args := [] }
  | _ => none }
def FnExactConstantsWrongFalsely : Prop := fnExactConstantsRow.holds Try.pinned (OpenSpec.ofChange fnExactConstantsWrong)

/-- 'laws.FnExactAreSigns': WHATEVER THE INPUT: true; the input reads as it did. -/
def fnExactAreSignsSpec : ChangeSpec := { name := "fnExactAreSigns", fn := fun _ => fun
  | [d] => { results := [.lit (.bool true)], args := [d] }
  | _ => none }
def fnExactAreSignsRow : OpenClaim := { program := "ytejohjegonhmnaa", sum := "29b7cfc48fc53cb9b62b52294cfd813fcaaf72502036b7a4c6fcd1821d34337c", func := "loop.example/g03104/laws.FnExactAreSigns", spec := "fnExactAreSigns", apart := false }
def FnExactAreSignsSaid : Prop := fnExactAreSignsRow.holds Try.pinned (OpenSpec.ofChange fnExactAreSignsSpec)

/-- ITS FALSE NEIGHBOUR: 'it returns false'. Refute it at one input. -/
def fnExactAreSignsWrong : ChangeSpec := { name := "fnExactAreSigns", fn := fun _ => fun
  | [d] => { results := [.lit (.bool false)], args := [d] }
  | _ => none }
def FnExactAreSignsWrongFalsely : Prop := fnExactAreSignsRow.holds Try.pinned (OpenSpec.ofChange fnExactAreSignsWrong)

/-- 'laws.FnExactSplitByte': WHATEVER THE INPUT: true; the input reads as it did. -/
def fnExactSplitByteSpec : ChangeSpec := { name := "fnExactSplitByte", fn := fun _ => fun
  | [d1, d2] => { results := [.lit (.bool true)], args := [d1, d2] }
  | _ => none }
def fnExactSplitByteRow : OpenClaim := { program := "ytejohjegonhmnaa", sum := "29b7cfc48fc53cb9b62b52294cfd813fcaaf72502036b7a4c6fcd1821d34337c", func := "loop.example/g03104/laws.FnExactSplitByte", spec := "fnExactSplitByte", apart := false }
def FnExactSplitByteSaid : Prop := fnExactSplitByteRow.holds Try.pinned (OpenSpec.ofChange fnExactSplitByteSpec)

/-- ITS FALSE NEIGHBOUR: 'it returns false'. Refute it at one input. -/
def fnExactSplitByteWrong : ChangeSpec := { name := "fnExactSplitByte", fn := fun _ => fun
  | [d1, d2] => { results := [.lit (.bool false)], args := [d1, d2] }
  | _ => none }
def FnExactSplitByteWrongFalsely : Prop := fnExactSplitByteRow.holds Try.pinned (OpenSpec.ofChange fnExactSplitByteWrong)

/-- 'laws.FnExactOppositeSigns': WHATEVER THE INPUT: true; the input reads as it did. -/
def fnExactOppositeSignsSpec : ChangeSpec := { name := "fnExactOppositeSigns", fn := fun _ => fun
  | [d] => { results := [.lit (.bool true)], args := [d] }
  | _ => none }
def fnExactOppositeSignsRow : OpenClaim := { program := "ytejohjegonhmnaa", sum := "29b7cfc48fc53cb9b62b52294cfd813fcaaf72502036b7a4c6fcd1821d34337c", func := "loop.example/g03104/laws.FnExactOppositeSigns", spec := "fnExactOppositeSigns", apart := false }
def FnExactOppositeSignsSaid : Prop := fnExactOppositeSignsRow.holds Try.pinned (OpenSpec.ofChange fnExactOppositeSignsSpec)

/-- ITS FALSE NEIGHBOUR: 'it returns false'. Refute it at one input. -/
def fnExactOppositeSignsWrong : ChangeSpec := { name := "fnExactOppositeSigns", fn := fun _ => fun
  | [d] => { results := [.lit (.bool false)], args := [d] }
  | _ => none }
def FnExactOppositeSignsWrongFalsely : Prop := fnExactOppositeSignsRow.holds Try.pinned (OpenSpec.ofChange fnExactOppositeSignsWrong)

/-- 'laws.FnExactSignAt': WHATEVER THE INPUT: true; the input reads as it did. -/
def fnExactSignAtSpec : ChangeSpec := { name := "fnExactSignAt", fn := fun _ => fun
  | [d1, d2, d3, d4] => { results := [.lit (.bool true)], args := [d1, d2, d3, d4] }
  | _ => none }
def fnExactSignAtRow : OpenClaim := { program := "ytejohjegonhmnaa", sum := "29b7cfc48fc53cb9b62b52294cfd813fcaaf72502036b7a4c6fcd1821d34337c", func := "loop.example/g03104/laws.FnExactSignAt", spec := "fnExactSignAt", apart := false }
def FnExactSignAtSaid : Prop := fnExactSignAtRow.holds Try.pinned (OpenSpec.ofChange fnExactSignAtSpec)

/-- ITS FALSE NEIGHBOUR: 'it returns false'. Refute it at one input. -/
def fnExactSignAtWrong : ChangeSpec := { name := "fnExactSignAt", fn := fun _ => fun
  | [d1, d2, d3, d4] => { results := [.lit (.bool false)], args := [d1, d2, d3, d4] }
  | _ => none }
def FnExactSignAtWrongFalsely : Prop := fnExactSignAtRow.holds Try.pinned (OpenSpec.ofChange fnExactSignAtWrong)

/-- 'laws.FnSplit': WHATEVER THE INPUT: true; the input reads as it did. -/
def fnSplitSpec : ChangeSpec := { name := "fnSplit", fn := fun _ => fun
  | [d] => { results := [.lit (.bool true)], args := [d] }
  | _ => none }
def fnSplitRow : OpenClaim := { program := "ytejohjegonhmnaa", sum := "29b7cfc48fc53cb9b62b52294cfd813fcaaf72502036b7a4c6fcd1821d34337c", func := "loop.example/g03104/laws.FnSplit", spec := "fnSplit", inPlace := ["internal/abi.NoEscape", "internal/bytealg.MakeNoZero"], apart := false }
def FnSplitSaid : Prop := fnSplitRow.holds Try.pinned (OpenSpec.ofChange fnSplitSpec)

/-- ITS FALSE NEIGHBOUR: 'it returns false'. Refute it at one input. -/
def fnSplitWrong : ChangeSpec := { name := "fnSplit", fn := fun _ => fun
  | [d] => { results := [.lit (.bool false)], args := [d] }
  | _ => none }
def FnSplitWrongFalsely : Prop := fnSplitRow.holds Try.pinned (OpenSpec.ofChange fnSplitWrong)

/- THE SECOND FORM. 'bulk': how many values and letters a reading holds, each counted each time it is reached (what is shared counts as often as it is met; a slice's spare places count too). A statement '..UptoSaid' is the law's where the arguments, and the package variables that the reading takes, are together of bulk at most 1048576: NARROWER than '..Said'. Prove '..Said' where nothing that the law and all that it calls make is longer than what came in: it says more and counts as full. Else prove '..UptoSaid'. A law counts once. -/
mutual
def uptoBulk {H : Type} : DataW H → Nat
  | .lit (.string bytes) => bytes.length + 1
  | .lit _ => 1
  | .nil => 1
  | .ptr d => uptoBulk d + 1
  | .slice elems spare => uptoBulkAll elems + uptoBulkAll spare + 1
  | .agg parts => uptoBulkAll parts + 1
  | .iface _ d => uptoBulk d + 1
  | .map entries => uptoBulkEntries entries + 1
  | .held _ => 1
def uptoBulkAll {H : Type} : List (DataW H) → Nat
  | [] => 0
  | d :: r => uptoBulk d + uptoBulkAll r
def uptoBulkEntries {H : Type} : List (Lit × DataW H) → Nat
  | [] => 0
  | x :: r => uptoBulkEntry x + uptoBulkEntries r
def uptoBulkEntry {H : Type} : Lit × DataW H → Nat
  | (.string bytes, d) => bytes.length + uptoBulk d + 1
  | (_, d) => uptoBulk d + 1
 end
def uptoSmall : (H : Type) → List (DataW H) → Bool := fun _ ds => decide (uptoBulkAll ds ≤ 1048576)
def OpenSpec.upto (s : _root_.Go.ChangeSpec) : _root_.Go.OpenSpec := { _root_.Go.OpenSpec.ofChange s with cond := some uptoSmall }

/-- 'laws.FnExactConstants', WHERE WHAT IT READS IS OF BULK AT MOST 1048576: true; the input reads as it did. -/
def fnExactConstantsUptoRow : OpenClaim := { program := "ytejohjegonhmnaa", sum := "29b7cfc48fc53cb9b62b52294cfd813fcaaf72502036b7a4c6fcd1821d34337c", func := "loop.example/g03104/laws.FnExactConstants", spec := "fnExactConstants", apart := false, narrowed := true }
def FnExactConstantsUptoSaid : Prop := fnExactConstantsUptoRow.holds Try.pinned (OpenSpec.upto fnExactConstantsSpec)

/-- 'laws.FnExactAreSigns', WHERE WHAT IT READS IS OF BULK AT MOST 1048576: true; the input reads as it did. -/
def fnExactAreSignsUptoRow : OpenClaim := { program := "ytejohjegonhmnaa", sum := "29b7cfc48fc53cb9b62b52294cfd813fcaaf72502036b7a4c6fcd1821d34337c", func := "loop.example/g03104/laws.FnExactAreSigns", spec := "fnExactAreSigns", apart := false, narrowed := true }
def FnExactAreSignsUptoSaid : Prop := fnExactAreSignsUptoRow.holds Try.pinned (OpenSpec.upto fnExactAreSignsSpec)

/-- 'laws.FnExactSplitByte', WHERE WHAT IT READS IS OF BULK AT MOST 1048576: true; the input reads as it did. -/
def fnExactSplitByteUptoRow : OpenClaim := { program := "ytejohjegonhmnaa", sum := "29b7cfc48fc53cb9b62b52294cfd813fcaaf72502036b7a4c6fcd1821d34337c", func := "loop.example/g03104/laws.FnExactSplitByte", spec := "fnExactSplitByte", apart := false, narrowed := true }
def FnExactSplitByteUptoSaid : Prop := fnExactSplitByteUptoRow.holds Try.pinned (OpenSpec.upto fnExactSplitByteSpec)

/-- 'laws.FnExactOppositeSigns', WHERE WHAT IT READS IS OF BULK AT MOST 1048576: true; the input reads as it did. -/
def fnExactOppositeSignsUptoRow : OpenClaim := { program := "ytejohjegonhmnaa", sum := "29b7cfc48fc53cb9b62b52294cfd813fcaaf72502036b7a4c6fcd1821d34337c", func := "loop.example/g03104/laws.FnExactOppositeSigns", spec := "fnExactOppositeSigns", apart := false, narrowed := true }
def FnExactOppositeSignsUptoSaid : Prop := fnExactOppositeSignsUptoRow.holds Try.pinned (OpenSpec.upto fnExactOppositeSignsSpec)

/-- 'laws.FnExactSignAt', WHERE WHAT IT READS IS OF BULK AT MOST 1048576: true; the input reads as it did. -/
def fnExactSignAtUptoRow : OpenClaim := { program := "ytejohjegonhmnaa", sum := "29b7cfc48fc53cb9b62b52294cfd813fcaaf72502036b7a4c6fcd1821d34337c", func := "loop.example/g03104/laws.FnExactSignAt", spec := "fnExactSignAt", apart := false, narrowed := true }
def FnExactSignAtUptoSaid : Prop := fnExactSignAtUptoRow.holds Try.pinned (OpenSpec.upto fnExactSignAtSpec)

/-- 'laws.FnSplit', WHERE WHAT IT READS IS OF BULK AT MOST 1048576: true; the input reads as it did. -/
def fnSplitUptoRow : OpenClaim := { program := "ytejohjegonhmnaa", sum := "29b7cfc48fc53cb9b62b52294cfd813fcaaf72502036b7a4c6fcd1821d34337c", func := "loop.example/g03104/laws.FnSplit", spec := "fnSplit", inPlace := ["internal/abi.NoEscape", "internal/bytealg.MakeNoZero"], apart := false, narrowed := true }
def FnSplitUptoSaid : Prop := fnSplitUptoRow.holds Try.pinned (OpenSpec.upto fnSplitSpec)

end Rows
end Go.Proofs.Ytejohjegonhmnaa
