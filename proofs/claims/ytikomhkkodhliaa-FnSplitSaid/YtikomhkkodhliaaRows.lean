/-
  No cell of these rows narrows 'for every input' (looked for: loops, veiled, ifaces, maps, wideKeys, modest, calm, conditions, laid).
  DERIVED. THE GIVEN ROWS OF THIS SEAT. 10 by the template 'for every input the law returns true; each argument reads behind the call as it read before'; 0 by the template 'total and deterministic' (their statements: YtikomhkkodhliaaTotals.lean).
  GIVEN WITH THE SEED: the statements are not yours to turn. If you find one false, say at which input.
  Laid BY PROGRAM, IN A SANDBOX (cutbox-rows.mjs): the forced cells as the released guide's own fill.sh prints them over the translation 2f2628d726b4a557… (all of the seat's roots in one cut). By AI agents, Wed Nov 11 2026. No macro, syntax, notation, axiom, sorry.
-/
import Derived.Test.YtikomhkkodhliaaChecked
import GoSem.Claim
import GoSem.ClaimJoined
import GoSem.ClaimMapViews
import Derived.JoinedTies
import Derived.KernelRfl
namespace Go.Proofs.Ytikomhkkodhliaa
/- THE CELL 'sum', in the pinned program and in every row, IS THE sha256 OF THE DUMP (.gsa) THAT YtikomhkkodhliaaProg.lean LOADS. Nothing in Lean hashes anything: it is a label: what it is worth is what the hold of that sum in a sandbox is worth. -/
noncomputable def Try.pinned : Pinned := { name := "ytikomhkkodhliaa", sum := "2f2628d726b4a55781ae85de4a6824ac0feed71eec59514f7391e7e98bf35ad7", checked := Try.checked }
namespace Rows
def none {H : Type} : Left H := { results := [], args := [] }

/-- 'laws.FnExactSplitByte': WHATEVER THE INPUT: true; the input reads as it did. -/
def fnExactSplitByteSpec : ChangeSpec := { name := "fnExactSplitByte", fn := fun _ => fun
  | [d1, d2] => { results := [.lit (.bool true)], args := [d1, d2] }
  | _ => none }
def fnExactSplitByteRow : OpenClaim := { program := "ytikomhkkodhliaa", sum := "2f2628d726b4a55781ae85de4a6824ac0feed71eec59514f7391e7e98bf35ad7", func := "loop.example/g03104/laws.FnExactSplitByte", spec := "fnExactSplitByte", apart := false }
def FnExactSplitByteSaid : Prop := fnExactSplitByteRow.holds Try.pinned (OpenSpec.ofChange fnExactSplitByteSpec)

/-- ITS FALSE NEIGHBOUR: 'it returns false'. Refute it at one input. -/
def fnExactSplitByteWrong : ChangeSpec := { name := "fnExactSplitByte", fn := fun _ => fun
  | [d1, d2] => { results := [.lit (.bool false)], args := [d1, d2] }
  | _ => none }
def FnExactSplitByteWrongFalsely : Prop := fnExactSplitByteRow.holds Try.pinned (OpenSpec.ofChange fnExactSplitByteWrong)

/-- 'laws.FnExactEqualPoints': WHATEVER THE INPUT: true; the input reads as it did. -/
def fnExactEqualPointsSpec : ChangeSpec := { name := "fnExactEqualPoints", fn := fun _ => fun
  | [d1, d2] => { results := [.lit (.bool true)], args := [d1, d2] }
  | _ => none }
def fnExactEqualPointsRow : OpenClaim := { program := "ytikomhkkodhliaa", sum := "2f2628d726b4a55781ae85de4a6824ac0feed71eec59514f7391e7e98bf35ad7", func := "loop.example/g03104/laws.FnExactEqualPoints", spec := "fnExactEqualPoints", apart := false }
def FnExactEqualPointsSaid : Prop := fnExactEqualPointsRow.holds Try.pinned (OpenSpec.ofChange fnExactEqualPointsSpec)

/-- ITS FALSE NEIGHBOUR: 'it returns false'. Refute it at one input. -/
def fnExactEqualPointsWrong : ChangeSpec := { name := "fnExactEqualPoints", fn := fun _ => fun
  | [d1, d2] => { results := [.lit (.bool false)], args := [d1, d2] }
  | _ => none }
def FnExactEqualPointsWrongFalsely : Prop := fnExactEqualPointsRow.holds Try.pinned (OpenSpec.ofChange fnExactEqualPointsWrong)

/-- 'laws.FnExactAreaOf': WHATEVER THE INPUT: true; the input reads as it did. -/
def fnExactAreaOfSpec : ChangeSpec := { name := "fnExactAreaOf", fn := fun _ => fun
  | [d1, d2, d3] => { results := [.lit (.bool true)], args := [d1, d2, d3] }
  | _ => none }
def fnExactAreaOfRow : OpenClaim := { program := "ytikomhkkodhliaa", sum := "2f2628d726b4a55781ae85de4a6824ac0feed71eec59514f7391e7e98bf35ad7", func := "loop.example/g03104/laws.FnExactAreaOf", spec := "fnExactAreaOf", unfollowed := true, recurses := true, apart := false }
def FnExactAreaOfSaid : Prop := fnExactAreaOfRow.holds Try.pinned (OpenSpec.ofChange fnExactAreaOfSpec)

/-- ITS FALSE NEIGHBOUR: 'it returns false'. Refute it at one input. -/
def fnExactAreaOfWrong : ChangeSpec := { name := "fnExactAreaOf", fn := fun _ => fun
  | [d1, d2, d3] => { results := [.lit (.bool false)], args := [d1, d2, d3] }
  | _ => none }
def FnExactAreaOfWrongFalsely : Prop := fnExactAreaOfRow.holds Try.pinned (OpenSpec.ofChange fnExactAreaOfWrong)

/-- 'laws.FnExactTurnOf': WHATEVER THE INPUT: true; the input reads as it did. -/
def fnExactTurnOfSpec : ChangeSpec := { name := "fnExactTurnOf", fn := fun _ => fun
  | [d1, d2, d3] => { results := [.lit (.bool true)], args := [d1, d2, d3] }
  | _ => none }
def fnExactTurnOfRow : OpenClaim := { program := "ytikomhkkodhliaa", sum := "2f2628d726b4a55781ae85de4a6824ac0feed71eec59514f7391e7e98bf35ad7", func := "loop.example/g03104/laws.FnExactTurnOf", spec := "fnExactTurnOf", unfollowed := true, recurses := true, apart := false }
def FnExactTurnOfSaid : Prop := fnExactTurnOfRow.holds Try.pinned (OpenSpec.ofChange fnExactTurnOfSpec)

/-- ITS FALSE NEIGHBOUR: 'it returns false'. Refute it at one input. -/
def fnExactTurnOfWrong : ChangeSpec := { name := "fnExactTurnOf", fn := fun _ => fun
  | [d1, d2, d3] => { results := [.lit (.bool false)], args := [d1, d2, d3] }
  | _ => none }
def FnExactTurnOfWrongFalsely : Prop := fnExactTurnOfRow.holds Try.pinned (OpenSpec.ofChange fnExactTurnOfWrong)

/-- 'laws.FnExactJoin': WHATEVER THE INPUT: true; the input reads as it did. -/
def fnExactJoinSpec : ChangeSpec := { name := "fnExactJoin", fn := fun _ => fun
  | [d1, d2] => { results := [.lit (.bool true)], args := [d1, d2] }
  | _ => none }
def fnExactJoinRow : OpenClaim := { program := "ytikomhkkodhliaa", sum := "2f2628d726b4a55781ae85de4a6824ac0feed71eec59514f7391e7e98bf35ad7", func := "loop.example/g03104/laws.FnExactJoin", spec := "fnExactJoin", inPlace := ["internal/abi.NoEscape", "internal/bytealg.MakeNoZero"], apart := false }
def FnExactJoinSaid : Prop := fnExactJoinRow.holds Try.pinned (OpenSpec.ofChange fnExactJoinSpec)

/-- ITS FALSE NEIGHBOUR: 'it returns false'. Refute it at one input. -/
def fnExactJoinWrong : ChangeSpec := { name := "fnExactJoin", fn := fun _ => fun
  | [d1, d2] => { results := [.lit (.bool false)], args := [d1, d2] }
  | _ => none }
def FnExactJoinWrongFalsely : Prop := fnExactJoinRow.holds Try.pinned (OpenSpec.ofChange fnExactJoinWrong)

/-- 'laws.FnSplit': WHATEVER THE INPUT: true; the input reads as it did. -/
def fnSplitSpec : ChangeSpec := { name := "fnSplit", fn := fun _ => fun
  | [d] => { results := [.lit (.bool true)], args := [d] }
  | _ => none }
def fnSplitRow : OpenClaim := { program := "ytikomhkkodhliaa", sum := "2f2628d726b4a55781ae85de4a6824ac0feed71eec59514f7391e7e98bf35ad7", func := "loop.example/g03104/laws.FnSplit", spec := "fnSplit", inPlace := ["internal/abi.NoEscape", "internal/bytealg.MakeNoZero"], apart := false }
def FnSplitSaid : Prop := fnSplitRow.holds Try.pinned (OpenSpec.ofChange fnSplitSpec)

/-- ITS FALSE NEIGHBOUR: 'it returns false'. Refute it at one input. -/
def fnSplitWrong : ChangeSpec := { name := "fnSplit", fn := fun _ => fun
  | [d] => { results := [.lit (.bool false)], args := [d] }
  | _ => none }
def FnSplitWrongFalsely : Prop := fnSplitRow.holds Try.pinned (OpenSpec.ofChange fnSplitWrong)

/-- 'laws.FnExactArePoints': WHATEVER THE INPUT: true; the input reads as it did. -/
def fnExactArePointsSpec : ChangeSpec := { name := "fnExactArePoints", fn := fun _ => fun
  | [d] => { results := [.lit (.bool true)], args := [d] }
  | _ => none }
def fnExactArePointsRow : OpenClaim := { program := "ytikomhkkodhliaa", sum := "2f2628d726b4a55781ae85de4a6824ac0feed71eec59514f7391e7e98bf35ad7", func := "loop.example/g03104/laws.FnExactArePoints", spec := "fnExactArePoints", unfollowed := true, recurses := true, apart := false }
def FnExactArePointsSaid : Prop := fnExactArePointsRow.holds Try.pinned (OpenSpec.ofChange fnExactArePointsSpec)

/-- ITS FALSE NEIGHBOUR: 'it returns false'. Refute it at one input. -/
def fnExactArePointsWrong : ChangeSpec := { name := "fnExactArePoints", fn := fun _ => fun
  | [d] => { results := [.lit (.bool false)], args := [d] }
  | _ => none }
def FnExactArePointsWrongFalsely : Prop := fnExactArePointsRow.holds Try.pinned (OpenSpec.ofChange fnExactArePointsWrong)

/-- 'laws.FnExactShearPoints': WHATEVER THE INPUT: true; the input reads as it did. -/
def fnExactShearPointsSpec : ChangeSpec := { name := "fnExactShearPoints", fn := fun _ => fun
  | [d1, d2] => { results := [.lit (.bool true)], args := [d1, d2] }
  | _ => none }
def fnExactShearPointsRow : OpenClaim := { program := "ytikomhkkodhliaa", sum := "2f2628d726b4a55781ae85de4a6824ac0feed71eec59514f7391e7e98bf35ad7", func := "loop.example/g03104/laws.FnExactShearPoints", spec := "fnExactShearPoints", unfollowed := true, recurses := true, apart := false }
def FnExactShearPointsSaid : Prop := fnExactShearPointsRow.holds Try.pinned (OpenSpec.ofChange fnExactShearPointsSpec)

/-- ITS FALSE NEIGHBOUR: 'it returns false'. Refute it at one input. -/
def fnExactShearPointsWrong : ChangeSpec := { name := "fnExactShearPoints", fn := fun _ => fun
  | [d1, d2] => { results := [.lit (.bool false)], args := [d1, d2] }
  | _ => none }
def FnExactShearPointsWrongFalsely : Prop := fnExactShearPointsRow.holds Try.pinned (OpenSpec.ofChange fnExactShearPointsWrong)

/-- 'laws.FnExactSignsOf': WHATEVER THE INPUT: true; the input reads as it did. -/
def fnExactSignsOfSpec : ChangeSpec := { name := "fnExactSignsOf", fn := fun _ => fun
  | [d] => { results := [.lit (.bool true)], args := [d] }
  | _ => none }
def fnExactSignsOfRow : OpenClaim := { program := "ytikomhkkodhliaa", sum := "2f2628d726b4a55781ae85de4a6824ac0feed71eec59514f7391e7e98bf35ad7", func := "loop.example/g03104/laws.FnExactSignsOf", spec := "fnExactSignsOf", unfollowed := true, recurses := true, apart := false }
def FnExactSignsOfSaid : Prop := fnExactSignsOfRow.holds Try.pinned (OpenSpec.ofChange fnExactSignsOfSpec)

/-- ITS FALSE NEIGHBOUR: 'it returns false'. Refute it at one input. -/
def fnExactSignsOfWrong : ChangeSpec := { name := "fnExactSignsOf", fn := fun _ => fun
  | [d] => { results := [.lit (.bool false)], args := [d] }
  | _ => none }
def FnExactSignsOfWrongFalsely : Prop := fnExactSignsOfRow.holds Try.pinned (OpenSpec.ofChange fnExactSignsOfWrong)

/-- 'laws.FnExactSortPoints': WHATEVER THE INPUT: true; the input reads as it did. -/
def fnExactSortPointsSpec : ChangeSpec := { name := "fnExactSortPoints", fn := fun _ => fun
  | [d] => { results := [.lit (.bool true)], args := [d] }
  | _ => none }
def fnExactSortPointsRow : OpenClaim := { program := "ytikomhkkodhliaa", sum := "2f2628d726b4a55781ae85de4a6824ac0feed71eec59514f7391e7e98bf35ad7", func := "loop.example/g03104/laws.FnExactSortPoints", spec := "fnExactSortPoints", unfollowed := true, recurses := true, apart := false }
def FnExactSortPointsSaid : Prop := fnExactSortPointsRow.holds Try.pinned (OpenSpec.ofChange fnExactSortPointsSpec)

/-- ITS FALSE NEIGHBOUR: 'it returns false'. Refute it at one input. -/
def fnExactSortPointsWrong : ChangeSpec := { name := "fnExactSortPoints", fn := fun _ => fun
  | [d] => { results := [.lit (.bool false)], args := [d] }
  | _ => none }
def FnExactSortPointsWrongFalsely : Prop := fnExactSortPointsRow.holds Try.pinned (OpenSpec.ofChange fnExactSortPointsWrong)

/- THE SECOND FORM. 'bulk': how many values and letters a reading holds, each counted each time it is reached (what is shared counts as often as it is met; a slice's spare places count too). A statement '..UptoSaid' is the law's where the arguments, and the package variables that the reading takes, are together of bulk at most 1048576: NARROWER than '..Said'. Prove '..Said' where nothing that the law and all that it calls make is longer than what came in: it says more and counts as full. Else prove '..UptoSaid'. A law counts once. -/
mutual
def uptoBulk {H : Type} : DataW H → Nat
  | .lit (.string bytes) => bytes.length + 1
  | .lit _ => 1
  | .nil => 1
  | .ptr d => uptoBulk d + 1
  | .slice elems spare => uptoBulkAll elems + uptoBulkAll spare + 1
  | .agg parts => uptoBulkAll parts + 1
  | .iface _ d => uptoBulk d + 1
  | .map entries => uptoBulkEntries entries + 1
  | .held _ => 1
def uptoBulkAll {H : Type} : List (DataW H) → Nat
  | [] => 0
  | d :: r => uptoBulk d + uptoBulkAll r
def uptoBulkEntries {H : Type} : List (Lit × DataW H) → Nat
  | [] => 0
  | x :: r => uptoBulkEntry x + uptoBulkEntries r
def uptoBulkEntry {H : Type} : Lit × DataW H → Nat
  | (.string bytes, d) => bytes.length + uptoBulk d + 1
  | (_, d) => uptoBulk d + 1
 end
def uptoSmall : (H : Type) → List (DataW H) → Bool := fun _ ds => decide (uptoBulkAll ds ≤ 1048576)
def OpenSpec.upto (s : _root_.Go.ChangeSpec) : _root_.Go.OpenSpec := { _root_.Go.OpenSpec.ofChange s with cond := some uptoSmall }

/-- 'laws.FnExactSplitByte', WHERE WHAT IT READS IS OF BULK AT MOST 1048576: true; the input reads as it did. -/
def fnExactSplitByteUptoRow : OpenClaim := { program := "ytikomhkkodhliaa", sum := "2f2628d726b4a55781ae85de4a6824ac0feed71eec59514f7391e7e98bf35ad7", func := "loop.example/g03104/laws.FnExactSplitByte", spec := "fnExactSplitByte", apart := false, narrowed := true }
def FnExactSplitByteUptoSaid : Prop := fnExactSplitByteUptoRow.holds Try.pinned (OpenSpec.upto fnExactSplitByteSpec)

/-- 'laws.FnExactEqualPoints', WHERE WHAT IT READS IS OF BULK AT MOST 1048576: true; the input reads as it did. -/
def fnExactEqualPointsUptoRow : OpenClaim := { program := "ytikomhkkodhliaa", sum := "2f2628d726b4a55781ae85de4a6824ac0feed71eec59514f7391e7e98bf35ad7", func := "loop.example/g03104/laws.FnExactEqualPoints", spec := "fnExactEqualPoints", apart := false, narrowed := true }
def FnExactEqualPointsUptoSaid : Prop := fnExactEqualPointsUptoRow.holds Try.pinned (OpenSpec.upto fnExactEqualPointsSpec)

/-- 'laws.FnExactAreaOf', WHERE WHAT IT READS IS OF BULK AT MOST 1048576: true; the input reads as it did. -/
def fnExactAreaOfUptoRow : OpenClaim := { program := "ytikomhkkodhliaa", sum := "2f2628d726b4a55781ae85de4a6824ac0feed71eec59514f7391e7e98bf35ad7", func := "loop.example/g03104/laws.FnExactAreaOf", spec := "fnExactAreaOf", unfollowed := true, recurses := true, apart := false, narrowed := true }
def FnExactAreaOfUptoSaid : Prop := fnExactAreaOfUptoRow.holds Try.pinned (OpenSpec.upto fnExactAreaOfSpec)

/-- 'laws.FnExactTurnOf', WHERE WHAT IT READS IS OF BULK AT MOST 1048576: true; the input reads as it did. -/
def fnExactTurnOfUptoRow : OpenClaim := { program := "ytikomhkkodhliaa", sum := "2f2628d726b4a55781ae85de4a6824ac0feed71eec59514f7391e7e98bf35ad7", func := "loop.example/g03104/laws.FnExactTurnOf", spec := "fnExactTurnOf", unfollowed := true, recurses := true, apart := false, narrowed := true }
def FnExactTurnOfUptoSaid : Prop := fnExactTurnOfUptoRow.holds Try.pinned (OpenSpec.upto fnExactTurnOfSpec)

/-- 'laws.FnExactJoin', WHERE WHAT IT READS IS OF BULK AT MOST 1048576: true; the input reads as it did. -/
def fnExactJoinUptoRow : OpenClaim := { program := "ytikomhkkodhliaa", sum := "2f2628d726b4a55781ae85de4a6824ac0feed71eec59514f7391e7e98bf35ad7", func := "loop.example/g03104/laws.FnExactJoin", spec := "fnExactJoin", inPlace := ["internal/abi.NoEscape", "internal/bytealg.MakeNoZero"], apart := false, narrowed := true }
def FnExactJoinUptoSaid : Prop := fnExactJoinUptoRow.holds Try.pinned (OpenSpec.upto fnExactJoinSpec)

/-- 'laws.FnSplit', WHERE WHAT IT READS IS OF BULK AT MOST 1048576: true; the input reads as it did. -/
def fnSplitUptoRow : OpenClaim := { program := "ytikomhkkodhliaa", sum := "2f2628d726b4a55781ae85de4a6824ac0feed71eec59514f7391e7e98bf35ad7", func := "loop.example/g03104/laws.FnSplit", spec := "fnSplit", inPlace := ["internal/abi.NoEscape", "internal/bytealg.MakeNoZero"], apart := false, narrowed := true }
def FnSplitUptoSaid : Prop := fnSplitUptoRow.holds Try.pinned (OpenSpec.upto fnSplitSpec)

/-- 'laws.FnExactArePoints', WHERE WHAT IT READS IS OF BULK AT MOST 1048576: true; the input reads as it did. -/
def fnExactArePointsUptoRow : OpenClaim := { program := "ytikomhkkodhliaa", sum := "2f2628d726b4a55781ae85de4a6824ac0feed71eec59514f7391e7e98bf35ad7", func := "loop.example/g03104/laws.FnExactArePoints", spec := "fnExactArePoints", unfollowed := true, recurses := true, apart := false, narrowed := true }
def FnExactArePointsUptoSaid : Prop := fnExactArePointsUptoRow.holds Try.pinned (OpenSpec.upto fnExactArePointsSpec)

/-- 'laws.FnExactShearPoints', WHERE WHAT IT READS IS OF BULK AT MOST 1048576: true; the input reads as it did. -/
def fnExactShearPointsUptoRow : OpenClaim := { program := "ytikomhkkodhliaa", sum := "2f2628d726b4a55781ae85de4a6824ac0feed71eec59514f7391e7e98bf35ad7", func := "loop.example/g03104/laws.FnExactShearPoints", spec := "fnExactShearPoints", unfollowed := true, recurses := true, apart := false, narrowed := true }
def FnExactShearPointsUptoSaid : Prop := fnExactShearPointsUptoRow.holds Try.pinned (OpenSpec.upto fnExactShearPointsSpec)

/-- 'laws.FnExactSignsOf', WHERE WHAT IT READS IS OF BULK AT MOST 1048576: true; the input reads as it did. -/
def fnExactSignsOfUptoRow : OpenClaim := { program := "ytikomhkkodhliaa", sum := "2f2628d726b4a55781ae85de4a6824ac0feed71eec59514f7391e7e98bf35ad7", func := "loop.example/g03104/laws.FnExactSignsOf", spec := "fnExactSignsOf", unfollowed := true, recurses := true, apart := false, narrowed := true }
def FnExactSignsOfUptoSaid : Prop := fnExactSignsOfUptoRow.holds Try.pinned (OpenSpec.upto fnExactSignsOfSpec)

/-- 'laws.FnExactSortPoints', WHERE WHAT IT READS IS OF BULK AT MOST 1048576: true; the input reads as it did. -/
def fnExactSortPointsUptoRow : OpenClaim := { program := "ytikomhkkodhliaa", sum := "2f2628d726b4a55781ae85de4a6824ac0feed71eec59514f7391e7e98bf35ad7", func := "loop.example/g03104/laws.FnExactSortPoints", spec := "fnExactSortPoints", unfollowed := true, recurses := true, apart := false, narrowed := true }
def FnExactSortPointsUptoSaid : Prop := fnExactSortPointsUptoRow.holds Try.pinned (OpenSpec.upto fnExactSortPointsSpec)

end Rows
end Go.Proofs.Ytikomhkkodhliaa
