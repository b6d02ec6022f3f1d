/-
  No cell of these rows narrows 'for every input' (looked for: loops, veiled, ifaces, maps, wideKeys, modest, calm, conditions, laid).
  DERIVED. THE GIVEN ROWS OF THIS SEAT. 12 by the template 'for every input the law returns true; each argument reads behind the call as it read before'; 0 by the template 'total and deterministic' (their statements: YtgnghhelalablaaTotals.lean).
  GIVEN WITH THE SEED: the statements are not yours to turn. If you find one false, say at which input.
  Laid BY PROGRAM, IN A SANDBOX (cutbox-rows.mjs): the forced cells as the released guide's own fill.sh prints them over the translation 6fec9dfdb0ad07df… (all of the seat's roots in one cut). By AI agents, Wed Nov 11 2026. No macro, syntax, notation, axiom, sorry.
-/
import Derived.Test.YtgnghhelalablaaChecked
import GoSem.Claim
import GoSem.ClaimJoined
import GoSem.ClaimMapViews
import Derived.JoinedTies
import Derived.KernelRfl
namespace Go.Proofs.Ytgnghhelalablaa
/- THE CELL 'sum', in the pinned program and in every row, IS THE sha256 OF THE DUMP (.gsa) THAT YtgnghhelalablaaProg.lean LOADS. Nothing in Lean hashes anything: it is a label: what it is worth is what the hold of that sum in a sandbox is worth. -/
noncomputable def Try.pinned : Pinned := { name := "ytgnghhelalablaa", sum := "6fec9dfdb0ad07df67d594ddfc9750a2881fe1976ee92e46c8fda12f4e49ce7c", checked := Try.checked }
namespace Rows
def none {H : Type} : Left H := { results := [], args := [] }

/-- 'laws.FnExactSplitOf': WHATEVER THE INPUT: true; the input reads as it did. -/
def fnExactSplitOfSpec : ChangeSpec := { name := "fnExactSplitOf", fn := fun _ => fun
  | [d1, d2, d3, d4, d5] => { results := [.lit (.bool true)], args := [d1, d2, d3, d4, d5] }
  | _ => none }
def fnExactSplitOfRow : OpenClaim := { program := "ytgnghhelalablaa", sum := "6fec9dfdb0ad07df67d594ddfc9750a2881fe1976ee92e46c8fda12f4e49ce7c", func := "loop.example/g03104/laws.FnExactSplitOf", spec := "fnExactSplitOf", apart := false }
def FnExactSplitOfSaid : Prop := fnExactSplitOfRow.holds Try.pinned (OpenSpec.ofChange fnExactSplitOfSpec)

/-- ITS FALSE NEIGHBOUR: 'it returns false'. Refute it at one input. -/
def fnExactSplitOfWrong : ChangeSpec := { name := "fnExactSplitOf", fn := fun _ => fun
  | [d1, d2, d3, d4, d5] => { results := [.lit (.bool false)], args := [d1, d2, d3, d4, d5] }
  | _ => none }
def FnExactSplitOfWrongFalsely : Prop := fnExactSplitOfRow.holds Try.pinned (OpenSpec.ofChange fnExactSplitOfWrong)

/-- 'laws.FnExactInnerOf': WHATEVER THE INPUT: true; the input reads as it did. -/
def fnExactInnerOfSpec : ChangeSpec := { name := "fnExactInnerOf", fn := fun _ => fun
  | [d1, d2, d3, d4, d5] => { results := [.lit (.bool true)], args := [d1, d2, d3, d4, d5] }
  | _ => none }
def fnExactInnerOfRow : OpenClaim := { program := "ytgnghhelalablaa", sum := "6fec9dfdb0ad07df67d594ddfc9750a2881fe1976ee92e46c8fda12f4e49ce7c", func := "loop.example/g03104/laws.FnExactInnerOf", spec := "fnExactInnerOf", apart := false }
def FnExactInnerOfSaid : Prop := fnExactInnerOfRow.holds Try.pinned (OpenSpec.ofChange fnExactInnerOfSpec)

/-- ITS FALSE NEIGHBOUR: 'it returns false'. Refute it at one input. -/
def fnExactInnerOfWrong : ChangeSpec := { name := "fnExactInnerOf", fn := fun _ => fun
  | [d1, d2, d3, d4, d5] => { results := [.lit (.bool false)], args := [d1, d2, d3, d4, d5] }
  | _ => none }
def FnExactInnerOfWrongFalsely : Prop := fnExactInnerOfRow.holds Try.pinned (OpenSpec.ofChange fnExactInnerOfWrong)

/-- 'laws.FnExactCountQuads': WHATEVER THE INPUT: true; the input reads as it did. -/
def fnExactCountQuadsSpec : ChangeSpec := { name := "fnExactCountQuads", fn := fun _ => fun
  | [d] => { results := [.lit (.bool true)], args := [d] }
  | _ => none }
def fnExactCountQuadsRow : OpenClaim := { program := "ytgnghhelalablaa", sum := "6fec9dfdb0ad07df67d594ddfc9750a2881fe1976ee92e46c8fda12f4e49ce7c", func := "loop.example/g03104/laws.FnExactCountQuads", spec := "fnExactCountQuads", apart := false }
def FnExactCountQuadsSaid : Prop := fnExactCountQuadsRow.holds Try.pinned (OpenSpec.ofChange fnExactCountQuadsSpec)

/-- ITS FALSE NEIGHBOUR: 'it returns false'. Refute it at one input. -/
def fnExactCountQuadsWrong : ChangeSpec := { name := "fnExactCountQuads", fn := fun _ => fun
  | [d] => { results := [.lit (.bool false)], args := [d] }
  | _ => none }
def FnExactCountQuadsWrongFalsely : Prop := fnExactCountQuadsRow.holds Try.pinned (OpenSpec.ofChange fnExactCountQuadsWrong)

/-- 'laws.FnExactQuadsOf': WHATEVER THE INPUT: true; the input reads as it did. -/
def fnExactQuadsOfSpec : ChangeSpec := { name := "fnExactQuadsOf", fn := fun _ => fun
  | [d] => { results := [.lit (.bool true)], args := [d] }
  | _ => none }
def fnExactQuadsOfRow : OpenClaim := { program := "ytgnghhelalablaa", sum := "6fec9dfdb0ad07df67d594ddfc9750a2881fe1976ee92e46c8fda12f4e49ce7c", func := "loop.example/g03104/laws.FnExactQuadsOf", spec := "fnExactQuadsOf", apart := false }
def FnExactQuadsOfSaid : Prop := fnExactQuadsOfRow.holds Try.pinned (OpenSpec.ofChange fnExactQuadsOfSpec)

/-- ITS FALSE NEIGHBOUR: 'it returns false'. Refute it at one input. -/
def fnExactQuadsOfWrong : ChangeSpec := { name := "fnExactQuadsOf", fn := fun _ => fun
  | [d] => { results := [.lit (.bool false)], args := [d] }
  | _ => none }
def FnExactQuadsOfWrongFalsely : Prop := fnExactQuadsOfRow.holds Try.pinned (OpenSpec.ofChange fnExactQuadsOfWrong)

/-- 'laws.FnExactIsInside': WHATEVER THE INPUT: true; the input reads as it did. -/
def fnExactIsInsideSpec : ChangeSpec := { name := "fnExactIsInside", fn := fun _ => fun
  | [d1, d2, d3, d4, d5] => { results := [.lit (.bool true)], args := [d1, d2, d3, d4, d5] }
  | _ => none }
def fnExactIsInsideRow : OpenClaim := { program := "ytgnghhelalablaa", sum := "6fec9dfdb0ad07df67d594ddfc9750a2881fe1976ee92e46c8fda12f4e49ce7c", func := "loop.example/g03104/laws.FnExactIsInside", spec := "fnExactIsInside", apart := false }
def FnExactIsInsideSaid : Prop := fnExactIsInsideRow.holds Try.pinned (OpenSpec.ofChange fnExactIsInsideSpec)

/-- ITS FALSE NEIGHBOUR: 'it returns false'. Refute it at one input. -/
def fnExactIsInsideWrong : ChangeSpec := { name := "fnExactIsInside", fn := fun _ => fun
  | [d1, d2, d3, d4, d5] => { results := [.lit (.bool false)], args := [d1, d2, d3, d4, d5] }
  | _ => none }
def FnExactIsInsideWrongFalsely : Prop := fnExactIsInsideRow.holds Try.pinned (OpenSpec.ofChange fnExactIsInsideWrong)

/-- 'laws.FnExactCountInside': WHATEVER THE INPUT: true; the input reads as it did. -/
def fnExactCountInsideSpec : ChangeSpec := { name := "fnExactCountInside", fn := fun _ => fun
  | [d1, d2, d3, d4] => { results := [.lit (.bool true)], args := [d1, d2, d3, d4] }
  | _ => none }
def fnExactCountInsideRow : OpenClaim := { program := "ytgnghhelalablaa", sum := "6fec9dfdb0ad07df67d594ddfc9750a2881fe1976ee92e46c8fda12f4e49ce7c", func := "loop.example/g03104/laws.FnExactCountInside", spec := "fnExactCountInside", apart := false }
def FnExactCountInsideSaid : Prop := fnExactCountInsideRow.holds Try.pinned (OpenSpec.ofChange fnExactCountInsideSpec)

/-- ITS FALSE NEIGHBOUR: 'it returns false'. Refute it at one input. -/
def fnExactCountInsideWrong : ChangeSpec := { name := "fnExactCountInside", fn := fun _ => fun
  | [d1, d2, d3, d4] => { results := [.lit (.bool false)], args := [d1, d2, d3, d4] }
  | _ => none }
def FnExactCountInsideWrongFalsely : Prop := fnExactCountInsideRow.holds Try.pinned (OpenSpec.ofChange fnExactCountInsideWrong)

/-- 'laws.FnExactEmptyTriangles': WHATEVER THE INPUT: true; the input reads as it did. -/
def fnExactEmptyTrianglesSpec : ChangeSpec := { name := "fnExactEmptyTriangles", fn := fun _ => fun
  | [d] => { results := [.lit (.bool true)], args := [d] }
  | _ => none }
def fnExactEmptyTrianglesRow : OpenClaim := { program := "ytgnghhelalablaa", sum := "6fec9dfdb0ad07df67d594ddfc9750a2881fe1976ee92e46c8fda12f4e49ce7c", func := "loop.example/g03104/laws.FnExactEmptyTriangles", spec := "fnExactEmptyTriangles", apart := false }
def FnExactEmptyTrianglesSaid : Prop := fnExactEmptyTrianglesRow.holds Try.pinned (OpenSpec.ofChange fnExactEmptyTrianglesSpec)

/-- ITS FALSE NEIGHBOUR: 'it returns false'. Refute it at one input. -/
def fnExactEmptyTrianglesWrong : ChangeSpec := { name := "fnExactEmptyTriangles", fn := fun _ => fun
  | [d] => { results := [.lit (.bool false)], args := [d] }
  | _ => none }
def FnExactEmptyTrianglesWrongFalsely : Prop := fnExactEmptyTrianglesRow.holds Try.pinned (OpenSpec.ofChange fnExactEmptyTrianglesWrong)

/-- 'laws.FnExactInHull': WHATEVER THE INPUT: true; the input reads as it did. -/
def fnExactInHullSpec : ChangeSpec := { name := "fnExactInHull", fn := fun _ => fun
  | [d1, d2, d3] => { results := [.lit (.bool true)], args := [d1, d2, d3] }
  | _ => none }
def fnExactInHullRow : OpenClaim := { program := "ytgnghhelalablaa", sum := "6fec9dfdb0ad07df67d594ddfc9750a2881fe1976ee92e46c8fda12f4e49ce7c", func := "loop.example/g03104/laws.FnExactInHull", spec := "fnExactInHull", apart := false }
def FnExactInHullSaid : Prop := fnExactInHullRow.holds Try.pinned (OpenSpec.ofChange fnExactInHullSpec)

/-- ITS FALSE NEIGHBOUR: 'it returns false'. Refute it at one input. -/
def fnExactInHullWrong : ChangeSpec := { name := "fnExactInHull", fn := fun _ => fun
  | [d1, d2, d3] => { results := [.lit (.bool false)], args := [d1, d2, d3] }
  | _ => none }
def FnExactInHullWrongFalsely : Prop := fnExactInHullRow.holds Try.pinned (OpenSpec.ofChange fnExactInHullWrong)

/-- 'laws.FnExactIsExtreme': WHATEVER THE INPUT: true; the input reads as it did. -/
def fnExactIsExtremeSpec : ChangeSpec := { name := "fnExactIsExtreme", fn := fun _ => fun
  | [d1, d2] => { results := [.lit (.bool true)], args := [d1, d2] }
  | _ => none }
def fnExactIsExtremeRow : OpenClaim := { program := "ytgnghhelalablaa", sum := "6fec9dfdb0ad07df67d594ddfc9750a2881fe1976ee92e46c8fda12f4e49ce7c", func := "loop.example/g03104/laws.FnExactIsExtreme", spec := "fnExactIsExtreme", apart := false }
def FnExactIsExtremeSaid : Prop := fnExactIsExtremeRow.holds Try.pinned (OpenSpec.ofChange fnExactIsExtremeSpec)

/-- ITS FALSE NEIGHBOUR: 'it returns false'. Refute it at one input. -/
def fnExactIsExtremeWrong : ChangeSpec := { name := "fnExactIsExtreme", fn := fun _ => fun
  | [d1, d2] => { results := [.lit (.bool false)], args := [d1, d2] }
  | _ => none }
def FnExactIsExtremeWrongFalsely : Prop := fnExactIsExtremeRow.holds Try.pinned (OpenSpec.ofChange fnExactIsExtremeWrong)

/-- 'laws.FnExactHullSize': WHATEVER THE INPUT: true; the input reads as it did. -/
def fnExactHullSizeSpec : ChangeSpec := { name := "fnExactHullSize", fn := fun _ => fun
  | [d] => { results := [.lit (.bool true)], args := [d] }
  | _ => none }
def fnExactHullSizeRow : OpenClaim := { program := "ytgnghhelalablaa", sum := "6fec9dfdb0ad07df67d594ddfc9750a2881fe1976ee92e46c8fda12f4e49ce7c", func := "loop.example/g03104/laws.FnExactHullSize", spec := "fnExactHullSize", apart := false }
def FnExactHullSizeSaid : Prop := fnExactHullSizeRow.holds Try.pinned (OpenSpec.ofChange fnExactHullSizeSpec)

/-- ITS FALSE NEIGHBOUR: 'it returns false'. Refute it at one input. -/
def fnExactHullSizeWrong : ChangeSpec := { name := "fnExactHullSize", fn := fun _ => fun
  | [d] => { results := [.lit (.bool false)], args := [d] }
  | _ => none }
def FnExactHullSizeWrongFalsely : Prop := fnExactHullSizeRow.holds Try.pinned (OpenSpec.ofChange fnExactHullSizeWrong)

/-- 'laws.FnExactIsConvex': WHATEVER THE INPUT: true; the input reads as it did. -/
def fnExactIsConvexSpec : ChangeSpec := { name := "fnExactIsConvex", fn := fun _ => fun
  | [d] => { results := [.lit (.bool true)], args := [d] }
  | _ => none }
def fnExactIsConvexRow : OpenClaim := { program := "ytgnghhelalablaa", sum := "6fec9dfdb0ad07df67d594ddfc9750a2881fe1976ee92e46c8fda12f4e49ce7c", func := "loop.example/g03104/laws.FnExactIsConvex", spec := "fnExactIsConvex", apart := false }
def FnExactIsConvexSaid : Prop := fnExactIsConvexRow.holds Try.pinned (OpenSpec.ofChange fnExactIsConvexSpec)

/-- ITS FALSE NEIGHBOUR: 'it returns false'. Refute it at one input. -/
def fnExactIsConvexWrong : ChangeSpec := { name := "fnExactIsConvex", fn := fun _ => fun
  | [d] => { results := [.lit (.bool false)], args := [d] }
  | _ => none }
def FnExactIsConvexWrongFalsely : Prop := fnExactIsConvexRow.holds Try.pinned (OpenSpec.ofChange fnExactIsConvexWrong)

/-- 'laws.FnExactIsConvexSet': WHATEVER THE INPUT: true; the input reads as it did. -/
def fnExactIsConvexSetSpec : ChangeSpec := { name := "fnExactIsConvexSet", fn := fun _ => fun
  | [d1, d2] => { results := [.lit (.bool true)], args := [d1, d2] }
  | _ => none }
def fnExactIsConvexSetRow : OpenClaim := { program := "ytgnghhelalablaa", sum := "6fec9dfdb0ad07df67d594ddfc9750a2881fe1976ee92e46c8fda12f4e49ce7c", func := "loop.example/g03104/laws.FnExactIsConvexSet", spec := "fnExactIsConvexSet", apart := false }
def FnExactIsConvexSetSaid : Prop := fnExactIsConvexSetRow.holds Try.pinned (OpenSpec.ofChange fnExactIsConvexSetSpec)

/-- ITS FALSE NEIGHBOUR: 'it returns false'. Refute it at one input. -/
def fnExactIsConvexSetWrong : ChangeSpec := { name := "fnExactIsConvexSet", fn := fun _ => fun
  | [d1, d2] => { results := [.lit (.bool false)], args := [d1, d2] }
  | _ => none }
def FnExactIsConvexSetWrongFalsely : Prop := fnExactIsConvexSetRow.holds Try.pinned (OpenSpec.ofChange fnExactIsConvexSetWrong)

/- THE SECOND FORM. 'bulk': how many values and letters a reading holds, each counted each time it is reached (what is shared counts as often as it is met; a slice's spare places count too). A statement '..UptoSaid' is the law's where the arguments, and the package variables that the reading takes, are together of bulk at most 1048576: NARROWER than '..Said'. Prove '..Said' where nothing that the law and all that it calls make is longer than what came in: it says more and counts as full. Else prove '..UptoSaid'. A law counts once. -/
mutual
def uptoBulk {H : Type} : DataW H → Nat
  | .lit (.string bytes) => bytes.length + 1
  | .lit _ => 1
  | .nil => 1
  | .ptr d => uptoBulk d + 1
  | .slice elems spare => uptoBulkAll elems + uptoBulkAll spare + 1
  | .agg parts => uptoBulkAll parts + 1
  | .iface _ d => uptoBulk d + 1
  | .map entries => uptoBulkEntries entries + 1
  | .held _ => 1
def uptoBulkAll {H : Type} : List (DataW H) → Nat
  | [] => 0
  | d :: r => uptoBulk d + uptoBulkAll r
def uptoBulkEntries {H : Type} : List (Lit × DataW H) → Nat
  | [] => 0
  | x :: r => uptoBulkEntry x + uptoBulkEntries r
def uptoBulkEntry {H : Type} : Lit × DataW H → Nat
  | (.string bytes, d) => bytes.length + uptoBulk d + 1
  | (_, d) => uptoBulk d + 1
 end
def uptoSmall : (H : Type) → List (DataW H) → Bool := fun _ ds => decide (uptoBulkAll ds ≤ 1048576)
def OpenSpec.upto (s : _root_.Go.ChangeSpec) : _root_.Go.OpenSpec := { _root_.Go.OpenSpec.ofChange s with cond := some uptoSmall }

/-- 'laws.FnExactSplitOf', WHERE WHAT IT READS IS OF BULK AT MOST 1048576: true; the input reads as it did. -/
def fnExactSplitOfUptoRow : OpenClaim := { program := "ytgnghhelalablaa", sum := "6fec9dfdb0ad07df67d594ddfc9750a2881fe1976ee92e46c8fda12f4e49ce7c", func := "loop.example/g03104/laws.FnExactSplitOf", spec := "fnExactSplitOf", apart := false, narrowed := true }
def FnExactSplitOfUptoSaid : Prop := fnExactSplitOfUptoRow.holds Try.pinned (OpenSpec.upto fnExactSplitOfSpec)

/-- 'laws.FnExactInnerOf', WHERE WHAT IT READS IS OF BULK AT MOST 1048576: true; the input reads as it did. -/
def fnExactInnerOfUptoRow : OpenClaim := { program := "ytgnghhelalablaa", sum := "6fec9dfdb0ad07df67d594ddfc9750a2881fe1976ee92e46c8fda12f4e49ce7c", func := "loop.example/g03104/laws.FnExactInnerOf", spec := "fnExactInnerOf", apart := false, narrowed := true }
def FnExactInnerOfUptoSaid : Prop := fnExactInnerOfUptoRow.holds Try.pinned (OpenSpec.upto fnExactInnerOfSpec)

/-- 'laws.FnExactCountQuads', WHERE WHAT IT READS IS OF BULK AT MOST 1048576: true; the input reads as it did. -/
def fnExactCountQuadsUptoRow : OpenClaim := { program := "ytgnghhelalablaa", sum := "6fec9dfdb0ad07df67d594ddfc9750a2881fe1976ee92e46c8fda12f4e49ce7c", func := "loop.example/g03104/laws.FnExactCountQuads", spec := "fnExactCountQuads", apart := false, narrowed := true }
def FnExactCountQuadsUptoSaid : Prop := fnExactCountQuadsUptoRow.holds Try.pinned (OpenSpec.upto fnExactCountQuadsSpec)

/-- 'laws.FnExactQuadsOf', WHERE WHAT IT READS IS OF BULK AT MOST 1048576: true; the input reads as it did. -/
def fnExactQuadsOfUptoRow : OpenClaim := { program := "ytgnghhelalablaa", sum := "6fec9dfdb0ad07df67d594ddfc9750a2881fe1976ee92e46c8fda12f4e49ce7c", func := "loop.example/g03104/laws.FnExactQuadsOf", spec := "fnExactQuadsOf", apart := false, narrowed := true }
def FnExactQuadsOfUptoSaid : Prop := fnExactQuadsOfUptoRow.holds Try.pinned (OpenSpec.upto fnExactQuadsOfSpec)

/-- 'laws.FnExactIsInside', WHERE WHAT IT READS IS OF BULK AT MOST 1048576: true; the input reads as it did. -/
def fnExactIsInsideUptoRow : OpenClaim := { program := "ytgnghhelalablaa", sum := "6fec9dfdb0ad07df67d594ddfc9750a2881fe1976ee92e46c8fda12f4e49ce7c", func := "loop.example/g03104/laws.FnExactIsInside", spec := "fnExactIsInside", apart := false, narrowed := true }
def FnExactIsInsideUptoSaid : Prop := fnExactIsInsideUptoRow.holds Try.pinned (OpenSpec.upto fnExactIsInsideSpec)

/-- 'laws.FnExactCountInside', WHERE WHAT IT READS IS OF BULK AT MOST 1048576: true; the input reads as it did. -/
def fnExactCountInsideUptoRow : OpenClaim := { program := "ytgnghhelalablaa", sum := "6fec9dfdb0ad07df67d594ddfc9750a2881fe1976ee92e46c8fda12f4e49ce7c", func := "loop.example/g03104/laws.FnExactCountInside", spec := "fnExactCountInside", apart := false, narrowed := true }
def FnExactCountInsideUptoSaid : Prop := fnExactCountInsideUptoRow.holds Try.pinned (OpenSpec.upto fnExactCountInsideSpec)

/-- 'laws.FnExactEmptyTriangles', WHERE WHAT IT READS IS OF BULK AT MOST 1048576: true; the input reads as it did. -/
def fnExactEmptyTrianglesUptoRow : OpenClaim := { program := "ytgnghhelalablaa", sum := "6fec9dfdb0ad07df67d594ddfc9750a2881fe1976ee92e46c8fda12f4e49ce7c", func := "loop.example/g03104/laws.FnExactEmptyTriangles", spec := "fnExactEmptyTriangles", apart := false, narrowed := true }
def FnExactEmptyTrianglesUptoSaid : Prop := fnExactEmptyTrianglesUptoRow.holds Try.pinned (OpenSpec.upto fnExactEmptyTrianglesSpec)

/-- 'laws.FnExactInHull', WHERE WHAT IT READS IS OF BULK AT MOST 1048576: true; the input reads as it did. -/
def fnExactInHullUptoRow : OpenClaim := { program := "ytgnghhelalablaa", sum := "6fec9dfdb0ad07df67d594ddfc9750a2881fe1976ee92e46c8fda12f4e49ce7c", func := "loop.example/g03104/laws.FnExactInHull", spec := "fnExactInHull", apart := false, narrowed := true }
def FnExactInHullUptoSaid : Prop := fnExactInHullUptoRow.holds Try.pinned (OpenSpec.upto fnExactInHullSpec)

/-- 'laws.FnExactIsExtreme', WHERE WHAT IT READS IS OF BULK AT MOST 1048576: true; the input reads as it did. -/
def fnExactIsExtremeUptoRow : OpenClaim := { program := "ytgnghhelalablaa", sum := "6fec9dfdb0ad07df67d594ddfc9750a2881fe1976ee92e46c8fda12f4e49ce7c", func := "loop.example/g03104/laws.FnExactIsExtreme", spec := "fnExactIsExtreme", apart := false, narrowed := true }
def FnExactIsExtremeUptoSaid : Prop := fnExactIsExtremeUptoRow.holds Try.pinned (OpenSpec.upto fnExactIsExtremeSpec)

/-- 'laws.FnExactHullSize', WHERE WHAT IT READS IS OF BULK AT MOST 1048576: true; the input reads as it did. -/
def fnExactHullSizeUptoRow : OpenClaim := { program := "ytgnghhelalablaa", sum := "6fec9dfdb0ad07df67d594ddfc9750a2881fe1976ee92e46c8fda12f4e49ce7c", func := "loop.example/g03104/laws.FnExactHullSize", spec := "fnExactHullSize", apart := false, narrowed := true }
def FnExactHullSizeUptoSaid : Prop := fnExactHullSizeUptoRow.holds Try.pinned (OpenSpec.upto fnExactHullSizeSpec)

/-- 'laws.FnExactIsConvex', WHERE WHAT IT READS IS OF BULK AT MOST 1048576: true; the input reads as it did. -/
def fnExactIsConvexUptoRow : OpenClaim := { program := "ytgnghhelalablaa", sum := "6fec9dfdb0ad07df67d594ddfc9750a2881fe1976ee92e46c8fda12f4e49ce7c", func := "loop.example/g03104/laws.FnExactIsConvex", spec := "fnExactIsConvex", apart := false, narrowed := true }
def FnExactIsConvexUptoSaid : Prop := fnExactIsConvexUptoRow.holds Try.pinned (OpenSpec.upto fnExactIsConvexSpec)

/-- 'laws.FnExactIsConvexSet', WHERE WHAT IT READS IS OF BULK AT MOST 1048576: true; the input reads as it did. -/
def fnExactIsConvexSetUptoRow : OpenClaim := { program := "ytgnghhelalablaa", sum := "6fec9dfdb0ad07df67d594ddfc9750a2881fe1976ee92e46c8fda12f4e49ce7c", func := "loop.example/g03104/laws.FnExactIsConvexSet", spec := "fnExactIsConvexSet", apart := false, narrowed := true }
def FnExactIsConvexSetUptoSaid : Prop := fnExactIsConvexSetUptoRow.holds Try.pinned (OpenSpec.upto fnExactIsConvexSetSpec)

end Rows
end Go.Proofs.Ytgnghhelalablaa
