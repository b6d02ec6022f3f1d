/-
  No cell of these rows narrows 'for every input' (looked for: loops, veiled, ifaces, maps, wideKeys, modest, calm, conditions, laid).
  DERIVED. THE GIVEN ROWS OF THIS SEAT. 3 by the template 'for every input the law returns true; each argument reads behind the call as it read before'; 0 by the template 'total and deterministic' (their statements: YthhgcdfdjlijjaaTotals.lean).
  GIVEN WITH THE SEED: the statements are not yours to turn. If you find one false, say at which input.
  Laid BY PROGRAM, IN A SANDBOX (cutbox-rows.mjs): the forced cells as the released guide's own fill.sh prints them over the translation 497a7dfaa0893672… (all of the seat's roots in one cut). By AI agents, Wed Nov 11 2026. No macro, syntax, notation, axiom, sorry.
-/
import Derived.Test.YthhgcdfdjlijjaaChecked
import GoSem.Claim
import GoSem.ClaimJoined
import GoSem.ClaimMapViews
import Derived.JoinedTies
import Derived.KernelRfl
namespace Go.Proofs.Ythhgcdfdjlijjaa
/- THE CELL 'sum', in the pinned program and in every row, IS THE sha256 OF THE DUMP (.gsa) THAT YthhgcdfdjlijjaaProg.lean LOADS. Nothing in Lean hashes anything: it is a label: what it is worth is what the hold of that sum in a sandbox is worth. -/
noncomputable def Try.pinned : Pinned := { name := "ythhgcdfdjlijjaa", sum := "497a7dfaa089367261db9fd8de0ca219c32f3164157cd4da8feb47842db35d75", checked := Try.checked }
namespace Rows
def none {H : Type} : Left H := { results := [], args := [] }

/-- 'laws.FnExactSortPoints': WHATEVER THE INPUT: true; the input reads as it did. -/
def fnExactSortPointsSpec : ChangeSpec := { name := "fnExactSortPoints", fn := fun _ => fun
  | [d] => { results := [.lit (.bool true)], args := [d] }
  | _ => none }
def fnExactSortPointsRow : OpenClaim := { program := "ythhgcdfdjlijjaa", sum := "497a7dfaa089367261db9fd8de0ca219c32f3164157cd4da8feb47842db35d75", func := "loop.example/g03104/laws.FnExactSortPoints", spec := "fnExactSortPoints", unfollowed := true, recurses := true, apart := false }
def FnExactSortPointsSaid : Prop := fnExactSortPointsRow.holds Try.pinned (OpenSpec.ofChange fnExactSortPointsSpec)

/-- ITS FALSE NEIGHBOUR: 'it returns false'. Refute it at one input. -/
def fnExactSortPointsWrong : ChangeSpec := { name := "fnExactSortPoints", fn := fun _ => fun
  | [d] => { results := [.lit (.bool false)], args := [d] }
  | _ => none }
def FnExactSortPointsWrongFalsely : Prop := fnExactSortPointsRow.holds Try.pinned (OpenSpec.ofChange fnExactSortPointsWrong)

/-- 'laws.FnExactCapOf': WHATEVER THE INPUT: true; the input reads as it did. -/
def fnExactCapOfSpec : ChangeSpec := { name := "fnExactCapOf", fn := fun _ => fun
  | [d] => { results := [.lit (.bool true)], args := [d] }
  | _ => none }
def fnExactCapOfRow : OpenClaim := { program := "ythhgcdfdjlijjaa", sum := "497a7dfaa089367261db9fd8de0ca219c32f3164157cd4da8feb47842db35d75", func := "loop.example/g03104/laws.FnExactCapOf", spec := "fnExactCapOf", recurses := true, apart := false }
def FnExactCapOfSaid : Prop := fnExactCapOfRow.holds Try.pinned (OpenSpec.ofChange fnExactCapOfSpec)

/-- ITS FALSE NEIGHBOUR: 'it returns false'. Refute it at one input. -/
def fnExactCapOfWrong : ChangeSpec := { name := "fnExactCapOf", fn := fun _ => fun
  | [d] => { results := [.lit (.bool false)], args := [d] }
  | _ => none }
def FnExactCapOfWrongFalsely : Prop := fnExactCapOfRow.holds Try.pinned (OpenSpec.ofChange fnExactCapOfWrong)

/-- 'laws.FnExactCupOf': WHATEVER THE INPUT: true; the input reads as it did. -/
def fnExactCupOfSpec : ChangeSpec := { name := "fnExactCupOf", fn := fun _ => fun
  | [d] => { results := [.lit (.bool true)], args := [d] }
  | _ => none }
def fnExactCupOfRow : OpenClaim := { program := "ythhgcdfdjlijjaa", sum := "497a7dfaa089367261db9fd8de0ca219c32f3164157cd4da8feb47842db35d75", func := "loop.example/g03104/laws.FnExactCupOf", spec := "fnExactCupOf", recurses := true, apart := false }
def FnExactCupOfSaid : Prop := fnExactCupOfRow.holds Try.pinned (OpenSpec.ofChange fnExactCupOfSpec)

/-- ITS FALSE NEIGHBOUR: 'it returns false'. Refute it at one input. -/
def fnExactCupOfWrong : ChangeSpec := { name := "fnExactCupOf", fn := fun _ => fun
  | [d] => { results := [.lit (.bool false)], args := [d] }
  | _ => none }
def FnExactCupOfWrongFalsely : Prop := fnExactCupOfRow.holds Try.pinned (OpenSpec.ofChange fnExactCupOfWrong)

/- THE SECOND FORM. 'bulk': how many values and letters a reading holds, each counted each time it is reached (what is shared counts as often as it is met; a slice's spare places count too). A statement '..UptoSaid' is the law's where the arguments, and the package variables that the reading takes, are together of bulk at most 1048576: NARROWER than '..Said'. Prove '..Said' where nothing that the law and all that it calls make is longer than what came in: it says more and counts as full. Else prove '..UptoSaid'. A law counts once. -/
mutual
def uptoBulk {H : Type} : DataW H → Nat
  | .lit (.string bytes) => bytes.length + 1
  | .lit _ => 1
  | .nil => 1
  | .ptr d => uptoBulk d + 1
  | .slice elems spare => uptoBulkAll elems + uptoBulkAll spare + 1
  | .agg parts => uptoBulkAll parts + 1
  | .iface _ d => uptoBulk d + 1
  | .map entries => uptoBulkEntries entries + 1
  | .held _ => 1
def uptoBulkAll {H : Type} : List (DataW H) → Nat
  | [] => 0
  | d :: r => uptoBulk d + uptoBulkAll r
def uptoBulkEntries {H : Type} : List (Lit × DataW H) → Nat
  | [] => 0
  | x :: r => uptoBulkEntry x + uptoBulkEntries r
def uptoBulkEntry {H : Type} : Lit × DataW H → Nat
  | (.string bytes, d) => bytes.length + uptoBulk d + 1
  | (_, d) => uptoBulk d + 1
 end
def uptoSmall : (H : Type) → List (DataW H) → Bool := fun _ ds => decide (uptoBulkAll ds ≤ 1048576)
def OpenSpec.upto (s : _root_.Go.ChangeSpec) : _root_.Go.OpenSpec := { _root_.Go.OpenSpec.ofChange s with cond := some uptoSmall }

/-- 'laws.FnExactSortPoints', WHERE WHAT IT READS IS OF BULK AT MOST 1048576: true; the input reads as it did. -/
def fnExactSortPointsUptoRow : OpenClaim := { program := "ythhgcdfdjlijjaa", sum := "497a7dfaa089367261db9fd8de0ca219c32f3164157cd4da8feb47842db35d75", func := "loop.example/g03104/laws.FnExactSortPoints", spec := "fnExactSortPoints", unfollowed := true, recurses := true, apart := false, narrowed := true }
def FnExactSortPointsUptoSaid : Prop := fnExactSortPointsUptoRow.holds Try.pinned (OpenSpec.upto fnExactSortPointsSpec)

/-- 'laws.FnExactCapOf', WHERE WHAT IT READS IS OF BULK AT MOST 1048576: true; the input reads as it did. -/
def fnExactCapOfUptoRow : OpenClaim := { program := "ythhgcdfdjlijjaa", sum := "497a7dfaa089367261db9fd8de0ca219c32f3164157cd4da8feb47842db35d75", func := "loop.example/g03104/laws.FnExactCapOf", spec := "fnExactCapOf", recurses := true, apart := false, narrowed := true }
def FnExactCapOfUptoSaid : Prop := fnExactCapOfUptoRow.holds Try.pinned (OpenSpec.upto fnExactCapOfSpec)

/-- 'laws.FnExactCupOf', WHERE WHAT IT READS IS OF BULK AT MOST 1048576: true; the input reads as it did. -/
def fnExactCupOfUptoRow : OpenClaim := { program := "ythhgcdfdjlijjaa", sum := "497a7dfaa089367261db9fd8de0ca219c32f3164157cd4da8feb47842db35d75", func := "loop.example/g03104/laws.FnExactCupOf", spec := "fnExactCupOf", recurses := true, apart := false, narrowed := true }
def FnExactCupOfUptoSaid : Prop := fnExactCupOfUptoRow.holds Try.pinned (OpenSpec.upto fnExactCupOfSpec)

end Rows
end Go.Proofs.Ythhgcdfdjlijjaa
