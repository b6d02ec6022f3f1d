/-
  No cell of these rows narrows 'for every input' (looked for: loops, veiled, ifaces, maps, wideKeys, modest, calm, conditions, laid).
  DERIVED. THE GIVEN ROWS OF THIS SEAT. 9 by the template 'for every input the law returns true; each argument reads behind the call as it read before'; 0 by the template 'total and deterministic' (their statements: YtbjncemaeagjjaaTotals.lean).
  GIVEN WITH THE SEED: the statements are not yours to turn. If you find one false, say at which input.
  Laid BY PROGRAM, IN A SANDBOX (cutbox-rows.mjs): the forced cells as the released guide's own fill.sh prints them over the translation aebe4e2b063c552a… (all of the seat's roots in one cut). By AI agents, Wed Nov 11 2026. No macro, syntax, notation, axiom, sorry.
-/
import Derived.Test.YtbjncemaeagjjaaChecked
import GoSem.Claim
import GoSem.ClaimJoined
import GoSem.ClaimMapViews
import Derived.JoinedTies
import Derived.KernelRfl
namespace Go.Proofs.Ytbjncemaeagjjaa
/- THE CELL 'sum', in the pinned program and in every row, IS THE sha256 OF THE DUMP (.gsa) THAT YtbjncemaeagjjaaProg.lean LOADS. Nothing in Lean hashes anything: it is a label: what it is worth is what the hold of that sum in a sandbox is worth. -/
noncomputable def Try.pinned : Pinned := { name := "ytbjncemaeagjjaa", sum := "aebe4e2b063c552a4c4cadf7cc6ff5f3a6ba63131ca182bc113c21a427285b0e", checked := Try.checked }
namespace Rows
def none {H : Type} : Left H := { results := [], args := [] }

/-- 'laws.FnExactLeftCount': WHATEVER THE INPUT: true; the input reads as it did. -/
def fnExactLeftCountSpec : ChangeSpec := { name := "fnExactLeftCount", fn := fun _ => fun
  | [d1, d2, d3] => { results := [.lit (.bool true)], args := [d1, d2, d3] }
  | _ => none }
def fnExactLeftCountRow : OpenClaim := { program := "ytbjncemaeagjjaa", sum := "aebe4e2b063c552a4c4cadf7cc6ff5f3a6ba63131ca182bc113c21a427285b0e", func := "loop.example/g03104/laws.FnExactLeftCount", spec := "fnExactLeftCount", apart := false }
def FnExactLeftCountSaid : Prop := fnExactLeftCountRow.holds Try.pinned (OpenSpec.ofChange fnExactLeftCountSpec)

/-- ITS FALSE NEIGHBOUR: 'it returns false'. Refute it at one input. -/
def fnExactLeftCountWrong : ChangeSpec := { name := "fnExactLeftCount", fn := fun _ => fun
  | [d1, d2, d3] => { results := [.lit (.bool false)], args := [d1, d2, d3] }
  | _ => none }
def FnExactLeftCountWrongFalsely : Prop := fnExactLeftCountRow.holds Try.pinned (OpenSpec.ofChange fnExactLeftCountWrong)

/-- 'laws.FnExactLeftTable': WHATEVER THE INPUT: true; the input reads as it did. -/
def fnExactLeftTableSpec : ChangeSpec := { name := "fnExactLeftTable", fn := fun _ => fun
  | [d] => { results := [.lit (.bool true)], args := [d] }
  | _ => none }
def fnExactLeftTableRow : OpenClaim := { program := "ytbjncemaeagjjaa", sum := "aebe4e2b063c552a4c4cadf7cc6ff5f3a6ba63131ca182bc113c21a427285b0e", func := "loop.example/g03104/laws.FnExactLeftTable", spec := "fnExactLeftTable", apart := false }
def FnExactLeftTableSaid : Prop := fnExactLeftTableRow.holds Try.pinned (OpenSpec.ofChange fnExactLeftTableSpec)

/-- ITS FALSE NEIGHBOUR: 'it returns false'. Refute it at one input. -/
def fnExactLeftTableWrong : ChangeSpec := { name := "fnExactLeftTable", fn := fun _ => fun
  | [d] => { results := [.lit (.bool false)], args := [d] }
  | _ => none }
def FnExactLeftTableWrongFalsely : Prop := fnExactLeftTableRow.holds Try.pinned (OpenSpec.ofChange fnExactLeftTableWrong)

/-- 'laws.FnExactLeftRow': WHATEVER THE INPUT: true; the input reads as it did. -/
def fnExactLeftRowSpec : ChangeSpec := { name := "fnExactLeftRow", fn := fun _ => fun
  | [d] => { results := [.lit (.bool true)], args := [d] }
  | _ => none }
def fnExactLeftRowRow : OpenClaim := { program := "ytbjncemaeagjjaa", sum := "aebe4e2b063c552a4c4cadf7cc6ff5f3a6ba63131ca182bc113c21a427285b0e", func := "loop.example/g03104/laws.FnExactLeftRow", spec := "fnExactLeftRow", apart := false }
def FnExactLeftRowSaid : Prop := fnExactLeftRowRow.holds Try.pinned (OpenSpec.ofChange fnExactLeftRowSpec)

/-- ITS FALSE NEIGHBOUR: 'it returns false'. Refute it at one input. -/
def fnExactLeftRowWrong : ChangeSpec := { name := "fnExactLeftRow", fn := fun _ => fun
  | [d] => { results := [.lit (.bool false)], args := [d] }
  | _ => none }
def FnExactLeftRowWrongFalsely : Prop := fnExactLeftRowRow.holds Try.pinned (OpenSpec.ofChange fnExactLeftRowWrong)

/-- 'laws.FnExactCrossingSum': WHATEVER THE INPUT: true; the input reads as it did. -/
def fnExactCrossingSumSpec : ChangeSpec := { name := "fnExactCrossingSum", fn := fun _ => fun
  | [d] => { results := [.lit (.bool true)], args := [d] }
  | _ => none }
def fnExactCrossingSumRow : OpenClaim := { program := "ytbjncemaeagjjaa", sum := "aebe4e2b063c552a4c4cadf7cc6ff5f3a6ba63131ca182bc113c21a427285b0e", func := "loop.example/g03104/laws.FnExactCrossingSum", spec := "fnExactCrossingSum", apart := false }
def FnExactCrossingSumSaid : Prop := fnExactCrossingSumRow.holds Try.pinned (OpenSpec.ofChange fnExactCrossingSumSpec)

/-- ITS FALSE NEIGHBOUR: 'it returns false'. Refute it at one input. -/
def fnExactCrossingSumWrong : ChangeSpec := { name := "fnExactCrossingSum", fn := fun _ => fun
  | [d] => { results := [.lit (.bool false)], args := [d] }
  | _ => none }
def FnExactCrossingSumWrongFalsely : Prop := fnExactCrossingSumRow.holds Try.pinned (OpenSpec.ofChange fnExactCrossingSumWrong)

/-- 'laws.FnExactHalvingPairs': WHATEVER THE INPUT: true; the input reads as it did. -/
def fnExactHalvingPairsSpec : ChangeSpec := { name := "fnExactHalvingPairs", fn := fun _ => fun
  | [d] => { results := [.lit (.bool true)], args := [d] }
  | _ => none }
def fnExactHalvingPairsRow : OpenClaim := { program := "ytbjncemaeagjjaa", sum := "aebe4e2b063c552a4c4cadf7cc6ff5f3a6ba63131ca182bc113c21a427285b0e", func := "loop.example/g03104/laws.FnExactHalvingPairs", spec := "fnExactHalvingPairs", apart := false }
def FnExactHalvingPairsSaid : Prop := fnExactHalvingPairsRow.holds Try.pinned (OpenSpec.ofChange fnExactHalvingPairsSpec)

/-- ITS FALSE NEIGHBOUR: 'it returns false'. Refute it at one input. -/
def fnExactHalvingPairsWrong : ChangeSpec := { name := "fnExactHalvingPairs", fn := fun _ => fun
  | [d] => { results := [.lit (.bool false)], args := [d] }
  | _ => none }
def FnExactHalvingPairsWrongFalsely : Prop := fnExactHalvingPairsRow.holds Try.pinned (OpenSpec.ofChange fnExactHalvingPairsWrong)

/-- 'laws.FnExactLayersOf': WHATEVER THE INPUT: true; the input reads as it did. -/
def fnExactLayersOfSpec : ChangeSpec := { name := "fnExactLayersOf", fn := fun _ => fun
  | [d] => { results := [.lit (.bool true)], args := [d] }
  | _ => none }
def fnExactLayersOfRow : OpenClaim := { program := "ytbjncemaeagjjaa", sum := "aebe4e2b063c552a4c4cadf7cc6ff5f3a6ba63131ca182bc113c21a427285b0e", func := "loop.example/g03104/laws.FnExactLayersOf", spec := "fnExactLayersOf", apart := false }
def FnExactLayersOfSaid : Prop := fnExactLayersOfRow.holds Try.pinned (OpenSpec.ofChange fnExactLayersOfSpec)

/-- ITS FALSE NEIGHBOUR: 'it returns false'. Refute it at one input. -/
def fnExactLayersOfWrong : ChangeSpec := { name := "fnExactLayersOf", fn := fun _ => fun
  | [d] => { results := [.lit (.bool false)], args := [d] }
  | _ => none }
def FnExactLayersOfWrongFalsely : Prop := fnExactLayersOfRow.holds Try.pinned (OpenSpec.ofChange fnExactLayersOfWrong)

/-- 'laws.FnExactHullOf': WHATEVER THE INPUT: true; the input reads as it did. -/
def fnExactHullOfSpec : ChangeSpec := { name := "fnExactHullOf", fn := fun _ => fun
  | [d] => { results := [.lit (.bool true)], args := [d] }
  | _ => none }
def fnExactHullOfRow : OpenClaim := { program := "ytbjncemaeagjjaa", sum := "aebe4e2b063c552a4c4cadf7cc6ff5f3a6ba63131ca182bc113c21a427285b0e", func := "loop.example/g03104/laws.FnExactHullOf", spec := "fnExactHullOf", apart := false }
def FnExactHullOfSaid : Prop := fnExactHullOfRow.holds Try.pinned (OpenSpec.ofChange fnExactHullOfSpec)

/-- ITS FALSE NEIGHBOUR: 'it returns false'. Refute it at one input. -/
def fnExactHullOfWrong : ChangeSpec := { name := "fnExactHullOf", fn := fun _ => fun
  | [d] => { results := [.lit (.bool false)], args := [d] }
  | _ => none }
def FnExactHullOfWrongFalsely : Prop := fnExactHullOfRow.holds Try.pinned (OpenSpec.ofChange fnExactHullOfWrong)

/-- 'laws.FnExactLargestConvex': WHATEVER THE INPUT: true; the input reads as it did. -/
def fnExactLargestConvexSpec : ChangeSpec := { name := "fnExactLargestConvex", fn := fun _ => fun
  | [d] => { results := [.lit (.bool true)], args := [d] }
  | _ => none }
def fnExactLargestConvexRow : OpenClaim := { program := "ytbjncemaeagjjaa", sum := "aebe4e2b063c552a4c4cadf7cc6ff5f3a6ba63131ca182bc113c21a427285b0e", func := "loop.example/g03104/laws.FnExactLargestConvex", spec := "fnExactLargestConvex", apart := false }
def FnExactLargestConvexSaid : Prop := fnExactLargestConvexRow.holds Try.pinned (OpenSpec.ofChange fnExactLargestConvexSpec)

/-- ITS FALSE NEIGHBOUR: 'it returns false'. Refute it at one input. -/
def fnExactLargestConvexWrong : ChangeSpec := { name := "fnExactLargestConvex", fn := fun _ => fun
  | [d] => { results := [.lit (.bool false)], args := [d] }
  | _ => none }
def FnExactLargestConvexWrongFalsely : Prop := fnExactLargestConvexRow.holds Try.pinned (OpenSpec.ofChange fnExactLargestConvexWrong)

/-- 'laws.FnExactCutSets': WHATEVER THE INPUT: true; the input reads as it did. -/
def fnExactCutSetsSpec : ChangeSpec := { name := "fnExactCutSets", fn := fun _ => fun
  | [d1, d2] => { results := [.lit (.bool true)], args := [d1, d2] }
  | _ => none }
def fnExactCutSetsRow : OpenClaim := { program := "ytbjncemaeagjjaa", sum := "aebe4e2b063c552a4c4cadf7cc6ff5f3a6ba63131ca182bc113c21a427285b0e", func := "loop.example/g03104/laws.FnExactCutSets", spec := "fnExactCutSets", apart := false }
def FnExactCutSetsSaid : Prop := fnExactCutSetsRow.holds Try.pinned (OpenSpec.ofChange fnExactCutSetsSpec)

/-- ITS FALSE NEIGHBOUR: 'it returns false'. Refute it at one input. -/
def fnExactCutSetsWrong : ChangeSpec := { name := "fnExactCutSets", fn := fun _ => fun
  | [d1, d2] => { results := [.lit (.bool false)], args := [d1, d2] }
  | _ => none }
def FnExactCutSetsWrongFalsely : Prop := fnExactCutSetsRow.holds Try.pinned (OpenSpec.ofChange fnExactCutSetsWrong)

/- THE SECOND FORM. 'bulk': how many values and letters a reading holds, each counted each time it is reached (what is shared counts as often as it is met; a slice's spare places count too). A statement '..UptoSaid' is the law's where the arguments, and the package variables that the reading takes, are together of bulk at most 1048576: NARROWER than '..Said'. Prove '..Said' where nothing that the law and all that it calls make is longer than what came in: it says more and counts as full. Else prove '..UptoSaid'. A law counts once. -/
mutual
def uptoBulk {H : Type} : DataW H → Nat
  | .lit (.string bytes) => bytes.length + 1
  | .lit _ => 1
  | .nil => 1
  | .ptr d => uptoBulk d + 1
  | .slice elems spare => uptoBulkAll elems + uptoBulkAll spare + 1
  | .agg parts => uptoBulkAll parts + 1
  | .iface _ d => uptoBulk d + 1
  | .map entries => uptoBulkEntries entries + 1
  | .held _ => 1
def uptoBulkAll {H : Type} : List (DataW H) → Nat
  | [] => 0
  | d :: r => uptoBulk d + uptoBulkAll r
def uptoBulkEntries {H : Type} : List (Lit × DataW H) → Nat
  | [] => 0
  | x :: r => uptoBulkEntry x + uptoBulkEntries r
def uptoBulkEntry {H : Type} : Lit × DataW H → Nat
  | (.string bytes, d) => bytes.length + uptoBulk d + 1
  | (_, d) => uptoBulk d + 1
 end
def uptoSmall : (H : Type) → List (DataW H) → Bool := fun _ ds => decide (uptoBulkAll ds ≤ 1048576)
def OpenSpec.upto (s : _root_.Go.ChangeSpec) : _root_.Go.OpenSpec := { _root_.Go.OpenSpec.ofChange s with cond := some uptoSmall }

/-- 'laws.FnExactLeftCount', WHERE WHAT IT READS IS OF BULK AT MOST 1048576: true; the input reads as it did. -/
def fnExactLeftCountUptoRow : OpenClaim := { program := "ytbjncemaeagjjaa", sum := "aebe4e2b063c552a4c4cadf7cc6ff5f3a6ba63131ca182bc113c21a427285b0e", func := "loop.example/g03104/laws.FnExactLeftCount", spec := "fnExactLeftCount", apart := false, narrowed := true }
def FnExactLeftCountUptoSaid : Prop := fnExactLeftCountUptoRow.holds Try.pinned (OpenSpec.upto fnExactLeftCountSpec)

/-- 'laws.FnExactLeftTable', WHERE WHAT IT READS IS OF BULK AT MOST 1048576: true; the input reads as it did. -/
def fnExactLeftTableUptoRow : OpenClaim := { program := "ytbjncemaeagjjaa", sum := "aebe4e2b063c552a4c4cadf7cc6ff5f3a6ba63131ca182bc113c21a427285b0e", func := "loop.example/g03104/laws.FnExactLeftTable", spec := "fnExactLeftTable", apart := false, narrowed := true }
def FnExactLeftTableUptoSaid : Prop := fnExactLeftTableUptoRow.holds Try.pinned (OpenSpec.upto fnExactLeftTableSpec)

/-- 'laws.FnExactLeftRow', WHERE WHAT IT READS IS OF BULK AT MOST 1048576: true; the input reads as it did. -/
def fnExactLeftRowUptoRow : OpenClaim := { program := "ytbjncemaeagjjaa", sum := "aebe4e2b063c552a4c4cadf7cc6ff5f3a6ba63131ca182bc113c21a427285b0e", func := "loop.example/g03104/laws.FnExactLeftRow", spec := "fnExactLeftRow", apart := false, narrowed := true }
def FnExactLeftRowUptoSaid : Prop := fnExactLeftRowUptoRow.holds Try.pinned (OpenSpec.upto fnExactLeftRowSpec)

/-- 'laws.FnExactCrossingSum', WHERE WHAT IT READS IS OF BULK AT MOST 1048576: true; the input reads as it did. -/
def fnExactCrossingSumUptoRow : OpenClaim := { program := "ytbjncemaeagjjaa", sum := "aebe4e2b063c552a4c4cadf7cc6ff5f3a6ba63131ca182bc113c21a427285b0e", func := "loop.example/g03104/laws.FnExactCrossingSum", spec := "fnExactCrossingSum", apart := false, narrowed := true }
def FnExactCrossingSumUptoSaid : Prop := fnExactCrossingSumUptoRow.holds Try.pinned (OpenSpec.upto fnExactCrossingSumSpec)

/-- 'laws.FnExactHalvingPairs', WHERE WHAT IT READS IS OF BULK AT MOST 1048576: true; the input reads as it did. -/
def fnExactHalvingPairsUptoRow : OpenClaim := { program := "ytbjncemaeagjjaa", sum := "aebe4e2b063c552a4c4cadf7cc6ff5f3a6ba63131ca182bc113c21a427285b0e", func := "loop.example/g03104/laws.FnExactHalvingPairs", spec := "fnExactHalvingPairs", apart := false, narrowed := true }
def FnExactHalvingPairsUptoSaid : Prop := fnExactHalvingPairsUptoRow.holds Try.pinned (OpenSpec.upto fnExactHalvingPairsSpec)

/-- 'laws.FnExactLayersOf', WHERE WHAT IT READS IS OF BULK AT MOST 1048576: true; the input reads as it did. -/
def fnExactLayersOfUptoRow : OpenClaim := { program := "ytbjncemaeagjjaa", sum := "aebe4e2b063c552a4c4cadf7cc6ff5f3a6ba63131ca182bc113c21a427285b0e", func := "loop.example/g03104/laws.FnExactLayersOf", spec := "fnExactLayersOf", apart := false, narrowed := true }
def FnExactLayersOfUptoSaid : Prop := fnExactLayersOfUptoRow.holds Try.pinned (OpenSpec.upto fnExactLayersOfSpec)

/-- 'laws.FnExactHullOf', WHERE WHAT IT READS IS OF BULK AT MOST 1048576: true; the input reads as it did. -/
def fnExactHullOfUptoRow : OpenClaim := { program := "ytbjncemaeagjjaa", sum := "aebe4e2b063c552a4c4cadf7cc6ff5f3a6ba63131ca182bc113c21a427285b0e", func := "loop.example/g03104/laws.FnExactHullOf", spec := "fnExactHullOf", apart := false, narrowed := true }
def FnExactHullOfUptoSaid : Prop := fnExactHullOfUptoRow.holds Try.pinned (OpenSpec.upto fnExactHullOfSpec)

/-- 'laws.FnExactLargestConvex', WHERE WHAT IT READS IS OF BULK AT MOST 1048576: true; the input reads as it did. -/
def fnExactLargestConvexUptoRow : OpenClaim := { program := "ytbjncemaeagjjaa", sum := "aebe4e2b063c552a4c4cadf7cc6ff5f3a6ba63131ca182bc113c21a427285b0e", func := "loop.example/g03104/laws.FnExactLargestConvex", spec := "fnExactLargestConvex", apart := false, narrowed := true }
def FnExactLargestConvexUptoSaid : Prop := fnExactLargestConvexUptoRow.holds Try.pinned (OpenSpec.upto fnExactLargestConvexSpec)

/-- 'laws.FnExactCutSets', WHERE WHAT IT READS IS OF BULK AT MOST 1048576: true; the input reads as it did. -/
def fnExactCutSetsUptoRow : OpenClaim := { program := "ytbjncemaeagjjaa", sum := "aebe4e2b063c552a4c4cadf7cc6ff5f3a6ba63131ca182bc113c21a427285b0e", func := "loop.example/g03104/laws.FnExactCutSets", spec := "fnExactCutSets", apart := false, narrowed := true }
def FnExactCutSetsUptoSaid : Prop := fnExactCutSetsUptoRow.holds Try.pinned (OpenSpec.upto fnExactCutSetsSpec)

end Rows
end Go.Proofs.Ytbjncemaeagjjaa
