/-
  No cell of these rows narrows 'for every input' (looked for: loops, veiled, ifaces, maps, wideKeys, modest, calm, conditions, laid).
  DERIVED. THE GIVEN ROWS OF THIS SEAT. 4 by the template 'for every input the law returns true; each argument reads behind the call as it read before'; 0 by the template 'total and deterministic' (their statements: YtckkfjdkaimmhaaTotals.lean).
  GIVEN WITH THE SEED: the statements are not yours to turn. If you find one false, say at which input.
  Laid BY PROGRAM, IN A SANDBOX (cutbox-rows.mjs): the forced cells as the released guide's own fill.sh prints them over the translation 5d70160ef93dcab8… (all of the seat's roots in one cut). By AI agents, Wed Nov 11 2026. No macro, syntax, notation, axiom, sorry.
-/
import Derived.Test.YtckkfjdkaimmhaaChecked
import GoSem.Claim
import GoSem.ClaimJoined
import GoSem.ClaimMapViews
import Derived.JoinedTies
import Derived.KernelRfl
namespace Go.Proofs.Ytckkfjdkaimmhaa
/- THE CELL 'sum', in the pinned program and in every row, IS THE sha256 OF THE DUMP (.gsa) THAT YtckkfjdkaimmhaaProg.lean LOADS. Nothing in Lean hashes anything: it is a label: what it is worth is what the hold of that sum in a sandbox is worth. -/
noncomputable def Try.pinned : Pinned := { name := "ytckkfjdkaimmhaa", sum := "5d70160ef93dcab813c2143694f851cbdeb4ec9b9c8baff97dc0213269d5c84f", checked := Try.checked }
namespace Rows
def none {H : Type} : Left H := { results := [], args := [] }

/-- 'laws.FnRule': WHATEVER THE INPUT: true; the input reads as it did. -/
def fnRuleSpec : ChangeSpec := { name := "fnRule", fn := fun _ => fun
  | [d] => { results := [.lit (.bool true)], args := [d] }
  | _ => none }
def fnRuleRow : OpenClaim := { program := "ytckkfjdkaimmhaa", sum := "5d70160ef93dcab813c2143694f851cbdeb4ec9b9c8baff97dc0213269d5c84f", func := "loop.example/g03104/laws.FnRule", spec := "fnRule", apart := false }
def FnRuleSaid : Prop := fnRuleRow.holds Try.pinned (OpenSpec.ofChange fnRuleSpec)

/-- ITS FALSE NEIGHBOUR: 'it returns false'. Refute it at one input. -/
def fnRuleWrong : ChangeSpec := { name := "fnRule", fn := fun _ => fun
  | [d] => { results := [.lit (.bool false)], args := [d] }
  | _ => none }
def FnRuleWrongFalsely : Prop := fnRuleRow.holds Try.pinned (OpenSpec.ofChange fnRuleWrong)

/-- 'laws.FnQuads': WHATEVER THE INPUT: true; the input reads as it did. -/
def fnQuadsSpec : ChangeSpec := { name := "fnQuads", fn := fun _ => fun
  | [d] => { results := [.lit (.bool true)], args := [d] }
  | _ => none }
def fnQuadsRow : OpenClaim := { program := "ytckkfjdkaimmhaa", sum := "5d70160ef93dcab813c2143694f851cbdeb4ec9b9c8baff97dc0213269d5c84f", func := "loop.example/g03104/laws.FnQuads", spec := "fnQuads", apart := false }
def FnQuadsSaid : Prop := fnQuadsRow.holds Try.pinned (OpenSpec.ofChange fnQuadsSpec)

/-- ITS FALSE NEIGHBOUR: 'it returns false'. Refute it at one input. -/
def fnQuadsWrong : ChangeSpec := { name := "fnQuads", fn := fun _ => fun
  | [d] => { results := [.lit (.bool false)], args := [d] }
  | _ => none }
def FnQuadsWrongFalsely : Prop := fnQuadsRow.holds Try.pinned (OpenSpec.ofChange fnQuadsWrong)

/-- 'laws.FnHulls': WHATEVER THE INPUT: true; the input reads as it did. -/
def fnHullsSpec : ChangeSpec := { name := "fnHulls", fn := fun _ => fun
  | [d] => { results := [.lit (.bool true)], args := [d] }
  | _ => none }
def fnHullsRow : OpenClaim := { program := "ytckkfjdkaimmhaa", sum := "5d70160ef93dcab813c2143694f851cbdeb4ec9b9c8baff97dc0213269d5c84f", func := "loop.example/g03104/laws.FnHulls", spec := "fnHulls", apart := false }
def FnHullsSaid : Prop := fnHullsRow.holds Try.pinned (OpenSpec.ofChange fnHullsSpec)

/-- ITS FALSE NEIGHBOUR: 'it returns false'. Refute it at one input. -/
def fnHullsWrong : ChangeSpec := { name := "fnHulls", fn := fun _ => fun
  | [d] => { results := [.lit (.bool false)], args := [d] }
  | _ => none }
def FnHullsWrongFalsely : Prop := fnHullsRow.holds Try.pinned (OpenSpec.ofChange fnHullsWrong)

/-- 'laws.FnLefts': WHATEVER THE INPUT: true; the input reads as it did. -/
def fnLeftsSpec : ChangeSpec := { name := "fnLefts", fn := fun _ => fun
  | [d] => { results := [.lit (.bool true)], args := [d] }
  | _ => none }
def fnLeftsRow : OpenClaim := { program := "ytckkfjdkaimmhaa", sum := "5d70160ef93dcab813c2143694f851cbdeb4ec9b9c8baff97dc0213269d5c84f", func := "loop.example/g03104/laws.FnLefts", spec := "fnLefts", apart := false }
def FnLeftsSaid : Prop := fnLeftsRow.holds Try.pinned (OpenSpec.ofChange fnLeftsSpec)

/-- ITS FALSE NEIGHBOUR: 'it returns false'. Refute it at one input. -/
def fnLeftsWrong : ChangeSpec := { name := "fnLefts", fn := fun _ => fun
  | [d] => { results := [.lit (.bool false)], args := [d] }
  | _ => none }
def FnLeftsWrongFalsely : Prop := fnLeftsRow.holds Try.pinned (OpenSpec.ofChange fnLeftsWrong)

/- THE SECOND FORM. 'bulk': how many values and letters a reading holds, each counted each time it is reached (what is shared counts as often as it is met; a slice's spare places count too). A statement '..UptoSaid' is the law's where the arguments, and the package variables that the reading takes, are together of bulk at most 1048576: NARROWER than '..Said'. Prove '..Said' where nothing that the law and all that it calls make is longer than what came in: it says more and counts as full. Else prove '..UptoSaid'. A law counts once. -/
mutual
def uptoBulk {H : Type} : DataW H → Nat
  | .lit (.string bytes) => bytes.length + 1
  | .lit _ => 1
  | .nil => 1
  | .ptr d => uptoBulk d + 1
  | .slice elems spare => uptoBulkAll elems + uptoBulkAll spare + 1
  | .agg parts => uptoBulkAll parts + 1
  | .iface _ d => uptoBulk d + 1
  | .map entries => uptoBulkEntries entries + 1
  | .held _ => 1
def uptoBulkAll {H : Type} : List (DataW H) → Nat
  | [] => 0
  | d :: r => uptoBulk d + uptoBulkAll r
def uptoBulkEntries {H : Type} : List (Lit × DataW H) → Nat
  | [] => 0
  | x :: r => uptoBulkEntry x + uptoBulkEntries r
def uptoBulkEntry {H : Type} : Lit × DataW H → Nat
  | (.string bytes, d) => bytes.length + uptoBulk d + 1
  | (_, d) => uptoBulk d + 1
 end
def uptoSmall : (H : Type) → List (DataW H) → Bool := fun _ ds => decide (uptoBulkAll ds ≤ 1048576)
def OpenSpec.upto (s : _root_.Go.ChangeSpec) : _root_.Go.OpenSpec := { _root_.Go.OpenSpec.ofChange s with cond := some uptoSmall }

/-- 'laws.FnRule', WHERE WHAT IT READS IS OF BULK AT MOST 1048576: true; the input reads as it did. -/
def fnRuleUptoRow : OpenClaim := { program := "ytckkfjdkaimmhaa", sum := "5d70160ef93dcab813c2143694f851cbdeb4ec9b9c8baff97dc0213269d5c84f", func := "loop.example/g03104/laws.FnRule", spec := "fnRule", apart := false, narrowed := true }
def FnRuleUptoSaid : Prop := fnRuleUptoRow.holds Try.pinned (OpenSpec.upto fnRuleSpec)

/-- 'laws.FnQuads', WHERE WHAT IT READS IS OF BULK AT MOST 1048576: true; the input reads as it did. -/
def fnQuadsUptoRow : OpenClaim := { program := "ytckkfjdkaimmhaa", sum := "5d70160ef93dcab813c2143694f851cbdeb4ec9b9c8baff97dc0213269d5c84f", func := "loop.example/g03104/laws.FnQuads", spec := "fnQuads", apart := false, narrowed := true }
def FnQuadsUptoSaid : Prop := fnQuadsUptoRow.holds Try.pinned (OpenSpec.upto fnQuadsSpec)

/-- 'laws.FnHulls', WHERE WHAT IT READS IS OF BULK AT MOST 1048576: true; the input reads as it did. -/
def fnHullsUptoRow : OpenClaim := { program := "ytckkfjdkaimmhaa", sum := "5d70160ef93dcab813c2143694f851cbdeb4ec9b9c8baff97dc0213269d5c84f", func := "loop.example/g03104/laws.FnHulls", spec := "fnHulls", apart := false, narrowed := true }
def FnHullsUptoSaid : Prop := fnHullsUptoRow.holds Try.pinned (OpenSpec.upto fnHullsSpec)

/-- 'laws.FnLefts', WHERE WHAT IT READS IS OF BULK AT MOST 1048576: true; the input reads as it did. -/
def fnLeftsUptoRow : OpenClaim := { program := "ytckkfjdkaimmhaa", sum := "5d70160ef93dcab813c2143694f851cbdeb4ec9b9c8baff97dc0213269d5c84f", func := "loop.example/g03104/laws.FnLefts", spec := "fnLefts", apart := false, narrowed := true }
def FnLeftsUptoSaid : Prop := fnLeftsUptoRow.holds Try.pinned (OpenSpec.upto fnLeftsSpec)

end Rows
end Go.Proofs.Ytckkfjdkaimmhaa
