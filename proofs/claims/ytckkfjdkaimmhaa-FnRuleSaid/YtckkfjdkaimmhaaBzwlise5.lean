/- A part of proofs about signs and points: what some functions answer, and that their calls answer so. No condition. -/
import Derived.Test.YtckkfjdkaimmhaaProg
import Derived.Laws.Bits128
import Derived.Test.YtckkfjdkaimmhaaV1
import Derived.Test.YtckkfjdkaimmhaaBzwlise1
import Derived.Test.YtckkfjdkaimmhaaBzwlise2
import Derived.Test.YtckkfjdkaimmhaaBzwlise3
import Derived.Test.YtckkfjdkaimmhaaBzwlise4
set_option linter.unusedVariables false
set_option linter.unusedSimpArgs false
namespace Go.Proofs.Ytckkfjdkaimmhaa.PX
open Go.RowKit Go.Proofs.Ytckkfjdkaimmhaa.G Go.Proofs.YtckkfjdkaimmhaaW.PrintWords Go.Proofs.YtckkfjdkaimmhaaW.PrintLast Go.Proofs.YtckkfjdkaimmhaaW.PrintMore
attribute [local go_sem] max2_int min2_int max_two min_two max_three min_three max_four min_four   -- for this text's walks alone
set_option linter.unusedVariables false
set_option linter.unusedSimpArgs false
attribute [local go_sem high] eqA25
/-! ### laws_FnRule: function 3 -/
mutual
def laws_FnRule.j0 : Nat → List Int → List Int → Bool → Int → Int → Int → Int → List Int → Bool → Int → ByteArray → Int → ByteArray → Int → ByteArray → Int → ByteArray → Int → ByteArray → Option (Bool)
 | 0, _, _, _, _, _, _, _, _, _, _, _, _, _, _, _, _, _, _, _ => none
 | k + 1, x0, x4, x8, x12, x13, x14, x15, x17, x107, x606000, x606001, x613000, x613001, x617000, x617001, x628000, x628001, x631000, x631001 => if x107 = true then (some false) else ((impl_IsMatroid.f x606000 x606001).bind fun t648 => ((spec_AreSigns.f k x606000 x606001).bind fun t649 => (if t649 = true then (if (t648 != ((x4.length : Int) == 0)) = true then (laws_FnRule.j1 k x0 x8 x12 x13 x14 x15 x17 true x613000 x613001 x617000 x617001 x628000 x628001 x631000 x631001) else ((impl_IsAcyclic.f k x606000 x606001).bind fun t650 => (if t650 = true then ((impl_IsMatroid.f x606000 x606001).bind fun t651 => (laws_FnRule.j1 k x0 x8 x12 x13 x14 x15 x17 (!t651) x613000 x613001 x617000 x617001 x628000 x628001 x631000 x631001)) else (laws_FnRule.j1 k x0 x8 x12 x13 x14 x15 x17 false x613000 x613001 x617000 x617001 x628000 x628001 x631000 x631001)))) else (if (t648 != false) = true then (laws_FnRule.j1 k x0 x8 x12 x13 x14 x15 x17 true x613000 x613001 x617000 x617001 x628000 x628001 x631000 x631001) else ((impl_IsAcyclic.f k x606000 x606001).bind fun t652 => (if t652 = true then ((impl_IsMatroid.f x606000 x606001).bind fun t653 => (laws_FnRule.j1 k x0 x8 x12 x13 x14 x15 x17 (!t653) x613000 x613001 x617000 x617001 x628000 x628001 x631000 x631001)) else (laws_FnRule.j1 k x0 x8 x12 x13 x14 x15 x17 false x613000 x613001 x617000 x617001 x628000 x628001 x631000 x631001)))))))
def laws_FnRule.j1 : Nat → List Int → Bool → Int → Int → Int → Int → List Int → Bool → Int → ByteArray → Int → ByteArray → Int → ByteArray → Int → ByteArray → Option (Bool)
 | 0, _, _, _, _, _, _, _, _, _, _, _, _, _, _, _, _ => none
 | k + 1, x0, x8, x12, x13, x14, x15, x17, x126, x613000, x613001, x617000, x617001, x628000, x628001, x631000, x631001 => if x126 = true then (some false) else (if x8 = true then ((impl_IsMatroid.f x617000 x617001).bind fun t654 => ((impl_IsMatroid.f x613000 x613001).bind fun t655 => (laws_FnRule.j2 k x0 x12 x13 x14 x15 x17 (t654 != t655) x628000 x628001 x631000 x631001))) else (laws_FnRule.j2 k x0 x12 x13 x14 x15 x17 false x628000 x628001 x631000 x631001))
def laws_FnRule.j2 : Nat → List Int → Int → Int → Int → Int → List Int → Bool → Int → ByteArray → Int → ByteArray → Option (Bool)
 | 0, _, _, _, _, _, _, _, _, _, _, _ => none
 | k + 1, x0, x12, x13, x14, x15, x17, x134, x628000, x628001, x631000, x631001 => if x134 = true then (some false) else ((spec_DrawSignsOf.f k x0).bind fun t656 => ((spec_SignsOf.f k t656).bind fun bt659 => (if bt659.2.2 = true then ((impl_IsAcyclic.f k bt659.1 bt659.2.1).bind fun t663 => (laws_FnRule.j3 k x12 x13 x14 x15 x17 (!t663) x628000 x628001 x631000 x631001)) else (laws_FnRule.j3 k x12 x13 x14 x15 x17 false x628000 x628001 x631000 x631001))))
def laws_FnRule.j3 : Nat → Int → Int → Int → Int → List Int → Bool → Int → ByteArray → Int → ByteArray → Option (Bool)
 | 0, _, _, _, _, _, _, _, _, _, _ => none
 | k + 1, x12, x13, x14, x15, x17, x147, x628000, x628001, x631000, x631001 => if x147 = true then (some false) else ((impl_IsMatroid.f x631000 x631001).bind fun t664 => (if t664 = true then (if (x17.length : Int) = (wrap64 ((wrap64 (x631000 * (wrap64 (x631000 - 1)))) + 2)) then ((impl_IsAcyclic.f k x631000 x631001).bind fun t665 => (if t665 = true then ((laws_hasInt.f k x17 0).bind fun t666 => (laws_FnRule.j4 k x12 x13 x14 x15 (!t666) x628000 x628001)) else (laws_FnRule.j4 k x12 x13 x14 x15 false x628000 x628001))) else (laws_FnRule.j4 k x12 x13 x14 x15 true x628000 x628001)) else ((impl_IsAcyclic.f k x631000 x631001).bind fun t667 => (if t667 = true then ((laws_hasInt.f k x17 0).bind fun t668 => (laws_FnRule.j4 k x12 x13 x14 x15 (!t668) x628000 x628001)) else (laws_FnRule.j4 k x12 x13 x14 x15 false x628000 x628001)))))
def laws_FnRule.j4 : Nat → Int → Int → Int → Int → Bool → Int → ByteArray → Option (Bool)
 | 0, _, _, _, _, _, _, _ => none
 | k + 1, x12, x13, x14, x15, x170, x628000, x628001 => if x170 = true then (some false) else ((impl_CircuitOf.f k x628000 x628001 x12 x13 x14 x15).bind fun t669 => (if t669.toList = ([] : List UInt8) then (some true) else (if (t669.size : Int) = 4 then (if 0 < (t669.size : Int) then (if (bt t669 0) = 43 then ((impl_CircuitOf.f k x628000 x628001 x13 x12 x14 x15).bind fun t670 => (some ((t670.size : Int) == 4))) else (some false)) else (none)) else (some false))))
end
def laws_FnRule.f (k : Nat) (l0 : List Int) : Option (Bool) := (laws_big.f l0).bind fun t602 => (if t602 = true then (some true) else ((spec_DrawFirstBreak.f k l0).bind fun bt603 => ((impl_FirstBreak.f k bt603.1 bt603.2).bind fun t606 => ((spec_DrawReverseElement.f k l0).bind fun bt609 => ((impl_ReverseElement.f k bt609.1 bt609.2.1 bt609.2.2).bind fun bt613 => ((spec_ReverseElement.f k bt609.1 bt609.2.1 bt609.2.2).bind fun bt617 => ((spec_DrawCircuitOf.f k l0).bind fun bt621 => ((spec_DrawAcyclicSets.f k l0).bind fun bt628 => ((impl_AcyclicSets.f k bt628.1 bt628.2).bind fun t631 => ((spec_FirstBreak.f k bt603.1 bt603.2).bind fun t634 => ((laws_sameInts.f k t606 t634).bind fun t637 => (if t637 = true then (if (bt613.2.2 != bt617.2.2) = true then (laws_FnRule.j0 k l0 t606 bt613.2.2 bt621.2.2.1 bt621.2.2.2.1 bt621.2.2.2.2.1 bt621.2.2.2.2.2 t631 true bt603.1 bt603.2 bt609.1 bt609.2.1 bt613.1 bt613.2.1 bt621.1 bt621.2.1 bt628.1 bt628.2) else (if (!(bt613.1 == bt617.1) || (!(bt613.2.1.toList == bt617.2.1.toList))) = true then (laws_FnRule.j0 k l0 t606 bt613.2.2 bt621.2.2.1 bt621.2.2.2.1 bt621.2.2.2.2.1 bt621.2.2.2.2.2 t631 true bt603.1 bt603.2 bt609.1 bt609.2.1 bt613.1 bt613.2.1 bt621.1 bt621.2.1 bt628.1 bt628.2) else ((impl_CircuitOf.f k bt621.1 bt621.2.1 bt621.2.2.1 bt621.2.2.2.1 bt621.2.2.2.2.1 bt621.2.2.2.2.2).bind fun t638 => ((spec_CircuitOf.f k bt621.1 bt621.2.1 bt621.2.2.1 bt621.2.2.2.1 bt621.2.2.2.2.1 bt621.2.2.2.2.2).bind fun t639 => (if t638.toList = t639.toList then ((spec_AcyclicSets.f k bt628.1 bt628.2).bind fun t640 => ((laws_sameInts.f k t631 t640).bind fun t643 => (if t643 = true then ((impl_IsMatroid.f bt603.1 bt603.2).bind fun t644 => ((spec_IsMatroid.f k bt603.1 bt603.2).bind fun t645 => (if (t644 != t645) = true then (laws_FnRule.j0 k l0 t606 bt613.2.2 bt621.2.2.1 bt621.2.2.2.1 bt621.2.2.2.2.1 bt621.2.2.2.2.2 t631 true bt603.1 bt603.2 bt609.1 bt609.2.1 bt613.1 bt613.2.1 bt621.1 bt621.2.1 bt628.1 bt628.2) else ((impl_IsAcyclic.f k bt603.1 bt603.2).bind fun t646 => ((spec_IsAcyclic.f k bt603.1 bt603.2).bind fun t647 => (laws_FnRule.j0 k l0 t606 bt613.2.2 bt621.2.2.1 bt621.2.2.2.1 bt621.2.2.2.2.1 bt621.2.2.2.2.2 t631 (t646 != t647) bt603.1 bt603.2 bt609.1 bt609.2.1 bt613.1 bt613.2.1 bt621.1 bt621.2.1 bt628.1 bt628.2)))))) else (laws_FnRule.j0 k l0 t606 bt613.2.2 bt621.2.2.1 bt621.2.2.2.1 bt621.2.2.2.2.1 bt621.2.2.2.2.2 t631 true bt603.1 bt603.2 bt609.1 bt609.2.1 bt613.1 bt613.2.1 bt621.1 bt621.2.1 bt628.1 bt628.2)))) else (laws_FnRule.j0 k l0 t606 bt613.2.2 bt621.2.2.1 bt621.2.2.2.1 bt621.2.2.2.2.1 bt621.2.2.2.2.2 t631 true bt603.1 bt603.2 bt609.1 bt609.2.1 bt613.1 bt613.2.1 bt621.1 bt621.2.1 bt628.1 bt628.2)))))) else (laws_FnRule.j0 k l0 t606 bt613.2.2 bt621.2.2.1 bt621.2.2.2.1 bt621.2.2.2.2.1 bt621.2.2.2.2.2 t631 true bt603.1 bt603.2 bt609.1 bt609.2.1 bt613.1 bt613.2.1 bt621.1 bt621.2.1 bt628.1 bt628.2)))))))))))))
def laws_FnRule.T11 : Bool × List (List Nat × List Nat) := (true, [([], []), ([], []), ([1], [1]), ([0, 2, 2], [0, 2]), ([3], [3]), ([4, 3], [4]), ([5], [5]), ([5], [5]), ([6, 7, 5], [5, 6, 7]), ([5, 8], [5, 8]), ([9, 5], [9]), ([10], [10]), ([10], [10]), ([11, 12, 10], [10, 11, 12]), ([10, 13], [10, 13]), ([14, 10], [14]), ([15], [15]), ([15], [15]), ([15], [15]), ([15], [15]), ([15], [15]), ([16, 17, 18, 19, 20, 15, 15], [15, 16, 17, 18, 19, 20]), ([15], [15]), ([15], [15]), ([15], [15]), ([15], [15]), ([15], [15]), ([22, 23, 24, 25, 26, 21, 15], [15, 22, 23, 24, 25, 26]), ([21, 27, 15], [15, 21, 27]), ([15, 28], [15, 28]), ([29, 27], [29]), ([30], [30]), ([30], [30]), ([32, 30, 30], [30, 32]), ([31, 33, 33, 30], [30, 31, 33]), ([34, 30], [30, 34]), ([30, 35], [30, 35]), ([36, 34], [36]), ([37], [37]), ([38, 37, 37], [37, 38]), ([37], [37]), ([40, 39, 37], [37, 40]), ([39, 41, 37], [37, 39, 41]), ([37, 42], [37, 42]), ([43, 41], [43]), ([44], [44]), ([45, 44, 44], [44, 45]), ([44], [44]), ([47, 46, 44], [44, 47]), ([46, 48, 44], [44, 46, 48]), ([44, 49], [44, 49])])
def laws_FnRule.B11 : List Nat := [0, 0, 2, 7, 15, 31, 63, 63, 255, 511, 1023, 2047, 2047, 8191, 16383, 32767, 65535, 65535, 65535, 65535, 65535, 2097151, 65535, 65535, 65535, 65535, 65535, 134217727, 268435455, 536870911, 1073741823, 2147483647, 2147483647, 6442450943, 17179869183, 34359738367, 68719476735, 137438953471, 274877906943, 549755813887, 274877906943, 2199023255551, 4398046511103, 8796093022207, 17592186044415, 35184372088831, 70368744177663, 35184372088831, 281474976710655, 562949953421311, 1125899906842623]
theorem laws_FnRule.tab11 : rtab .any (opsOf Try.f3 11) = laws_FnRule.T11 := by kernel_rfl
theorem laws_FnRule.bits11 : waitsOk laws_FnRule.T11.2 laws_FnRule.B11 = true := by kernel_rfl
def laws_FnRule.T13 : Bool × List (List Nat × List Nat) := (true, [([], []), ([0], [0]), ([], []), ([2, 1], [2]), ([3, 3], [3]), ([4], [4]), ([5, 4], [4, 5]), ([6, 4], [4, 6]), ([4, 7], [4, 7]), ([1, 8], [1, 8]), ([9, 4], [9]), ([10], [10]), ([11, 10, 10], [10, 11]), ([12, 12, 10], [10, 12]), ([13], [13]), ([14, 13, 13], [13, 14]), ([15, 13], [13, 15]), ([13, 16, 10], [10, 13, 16]), ([10, 17], [10, 17])])
def laws_FnRule.B13 : List Nat := [0, 1, 0, 7, 15, 31, 63, 127, 255, 511, 1023, 2047, 4095, 8191, 16383, 32767, 65535, 131071, 262143]
theorem laws_FnRule.tab13 : rtab .any (opsOf Try.f3 13) = laws_FnRule.T13 := by kernel_rfl
theorem laws_FnRule.bits13 : waitsOk laws_FnRule.T13.2 laws_FnRule.B13 = true := by kernel_rfl
def laws_FnRule.T15 : Bool × List (List Nat × List Nat) := (true, [([], []), ([0], [0]), ([1], [1]), ([2, 1, 1], [1, 2]), ([1], [1]), ([4, 3, 1], [1, 4]), ([3, 5, 1], [1, 3, 5]), ([1, 6], [1, 6])])
def laws_FnRule.B15 : List Nat := [0, 1, 3, 7, 3, 31, 63, 127]
theorem laws_FnRule.tab15 : rtab .any (opsOf Try.f3 15) = laws_FnRule.T15 := by kernel_rfl
theorem laws_FnRule.bits15 : waitsOk laws_FnRule.T15.2 laws_FnRule.B15 = true := by kernel_rfl
theorem laws_FnRule.j0_no (k : Nat) (y0 : List Int) (y1 : List Int) (y2 : Bool) (y3 : Int) (y4 : Int) (y5 : Int) (y6 : Int) (y7 : List Int) (y9 : Int) (y10 : ByteArray) (y11 : Int) (y12 : ByteArray) (y13 : Int) (y14 : ByteArray) (y15 : Int) (y16 : ByteArray) (y17 : Int) (y18 : ByteArray) (r : Bool) (h_ : r = true) : ¬ laws_FnRule.j0 k y0 y1 y2 y3 y4 y5 y6 y7 true y9 y10 y11 y12 y13 y14 y15 y16 y17 y18 = some r := by
 subst h_
 cases k <;> simp [laws_FnRule.j0]
theorem laws_FnRule.j1_no (k : Nat) (y0 : List Int) (y1 : Bool) (y2 : Int) (y3 : Int) (y4 : Int) (y5 : Int) (y6 : List Int) (y8 : Int) (y9 : ByteArray) (y10 : Int) (y11 : ByteArray) (y12 : Int) (y13 : ByteArray) (y14 : Int) (y15 : ByteArray) (r : Bool) (h_ : r = true) : ¬ laws_FnRule.j1 k y0 y1 y2 y3 y4 y5 y6 true y8 y9 y10 y11 y12 y13 y14 y15 = some r := by
 subst h_
 cases k <;> simp [laws_FnRule.j1]
theorem laws_FnRule.j4_no (k : Nat) (y0 : Int) (y1 : Int) (y2 : Int) (y3 : Int) (y5 : Int) (y6 : ByteArray) (r : Bool) (h_ : r = true) : ¬ laws_FnRule.j4 k y0 y1 y2 y3 true y5 y6 = some r := by
 subst h_
 cases k <;> simp [laws_FnRule.j4]
set_option maxHeartbeats 8000000 in
set_option maxRecDepth 100000 in
theorem laws_FnRule.calls (k : Nat) (A0 : Option Addr) (c0 : Nat) (l0 : List Int) (r : Bool) (w : World) (hr0 : Kd.C (Kd.int .u8) w A0 l0.length l0) (hc0 : l0.length ≤ c0) (h : laws_FnRule.f k l0 = some r) (hr_ : r = true) :
  Calls Try.prog 3 #[.slice A0 l0.length c0] w fun e w' => e = .returned (.bool r) ∧ Below w.heap.size w w' := by
 have hu25 := Try.underlying25
 have HR0 := Aside0.mk hr0
 have HC0 := Aside0.mk hc0
 clear hr0 hc0
 have HB := Aside0.mk (Below.refl w.heap.size w)
 have H : ((laws_big.f l0).bind fun t602 => (if t602 = true then (some true) else ((spec_DrawFirstBreak.f k l0).bind fun bt603 => ((impl_FirstBreak.f k bt603.1 bt603.2).bind fun t606 => ((spec_DrawReverseElement.f k l0).bind fun bt609 => ((impl_ReverseElement.f k bt609.1 bt609.2.1 bt609.2.2).bind fun bt613 => ((spec_ReverseElement.f k bt609.1 bt609.2.1 bt609.2.2).bind fun bt617 => ((spec_DrawCircuitOf.f k l0).bind fun bt621 => ((spec_DrawAcyclicSets.f k l0).bind fun bt628 => ((impl_AcyclicSets.f k bt628.1 bt628.2).bind fun t631 => ((spec_FirstBreak.f k bt603.1 bt603.2).bind fun t634 => ((laws_sameInts.f k t606 t634).bind fun t637 => (if t637 = true then (if (bt613.2.2 != bt617.2.2) = true then (laws_FnRule.j0 k l0 t606 bt613.2.2 bt621.2.2.1 bt621.2.2.2.1 bt621.2.2.2.2.1 bt621.2.2.2.2.2 t631 true bt603.1 bt603.2 bt609.1 bt609.2.1 bt613.1 bt613.2.1 bt621.1 bt621.2.1 bt628.1 bt628.2) else (if (!(bt613.1 == bt617.1) || (!(bt613.2.1.toList == bt617.2.1.toList))) = true then (laws_FnRule.j0 k l0 t606 bt613.2.2 bt621.2.2.1 bt621.2.2.2.1 bt621.2.2.2.2.1 bt621.2.2.2.2.2 t631 true bt603.1 bt603.2 bt609.1 bt609.2.1 bt613.1 bt613.2.1 bt621.1 bt621.2.1 bt628.1 bt628.2) else ((impl_CircuitOf.f k bt621.1 bt621.2.1 bt621.2.2.1 bt621.2.2.2.1 bt621.2.2.2.2.1 bt621.2.2.2.2.2).bind fun t638 => ((spec_CircuitOf.f k bt621.1 bt621.2.1 bt621.2.2.1 bt621.2.2.2.1 bt621.2.2.2.2.1 bt621.2.2.2.2.2).bind fun t639 => (if t638.toList = t639.toList then ((spec_AcyclicSets.f k bt628.1 bt628.2).bind fun t640 => ((laws_sameInts.f k t631 t640).bind fun t643 => (if t643 = true then ((impl_IsMatroid.f bt603.1 bt603.2).bind fun t644 => ((spec_IsMatroid.f k bt603.1 bt603.2).bind fun t645 => (if (t644 != t645) = true then (laws_FnRule.j0 k l0 t606 bt613.2.2 bt621.2.2.1 bt621.2.2.2.1 bt621.2.2.2.2.1 bt621.2.2.2.2.2 t631 true bt603.1 bt603.2 bt609.1 bt609.2.1 bt613.1 bt613.2.1 bt621.1 bt621.2.1 bt628.1 bt628.2) else ((impl_IsAcyclic.f k bt603.1 bt603.2).bind fun t646 => ((spec_IsAcyclic.f k bt603.1 bt603.2).bind fun t647 => (laws_FnRule.j0 k l0 t606 bt613.2.2 bt621.2.2.1 bt621.2.2.2.1 bt621.2.2.2.2.1 bt621.2.2.2.2.2 t631 (t646 != t647) bt603.1 bt603.2 bt609.1 bt609.2.1 bt613.1 bt613.2.1 bt621.1 bt621.2.1 bt628.1 bt628.2)))))) else (laws_FnRule.j0 k l0 t606 bt613.2.2 bt621.2.2.1 bt621.2.2.2.1 bt621.2.2.2.2.1 bt621.2.2.2.2.2 t631 true bt603.1 bt603.2 bt609.1 bt609.2.1 bt613.1 bt613.2.1 bt621.1 bt621.2.1 bt628.1 bt628.2)))) else (laws_FnRule.j0 k l0 t606 bt613.2.2 bt621.2.2.1 bt621.2.2.2.1 bt621.2.2.2.2.1 bt621.2.2.2.2.2 t631 true bt603.1 bt603.2 bt609.1 bt609.2.1 bt613.1 bt613.2.1 bt621.1 bt621.2.1 bt628.1 bt628.2)))))) else (laws_FnRule.j0 k l0 t606 bt613.2.2 bt621.2.2.1 bt621.2.2.2.1 bt621.2.2.2.2.1 bt621.2.2.2.2.2 t631 true bt603.1 bt603.2 bt609.1 bt609.2.1 bt613.1 bt613.2.1 bt621.1 bt621.2.1 bt628.1 bt628.2)))))))))))))) = some r := h
 clear h
 obtain ⟨t602, A2, H⟩ := zO H
 by_cases c3 : t602 = true
 ·subst c3
  replace H := (if_pos rfl).symm.trans H
  obtain rfl := Option.some.inj H
  go_enter Try.func3, Try.ntmps3
  go_wp2_with (first | ((with_reducible refine gate_callee (f := 7) rfl ?_); refine zD (some 23) Try.func7 #[.slice A0 l0.length c0] ?_; (with_reducible refine (laws_big.calls _ _ l0 true _ ?side1 ?side2 A2.out).mono ?_); (case side1 => repeat (first | exact HR0.out | (with_reducible refine Kd.C_alloc ?_ _) | (with_reducible refine Kd.C_drewN ?_ _) | (with_reducible refine Kd.C_drew ?_))); (case side2 => exact HC0.out); rintro e w' ⟨rfl, ⟨nd, rfl⟩⟩; refine ⟨_, rfl, ?_⟩))
  go_ret
  exact ⟨zE, zB⟩
 replace c3 := Bool.eq_false_iff.mpr c3
 subst c3
 replace H := (if_neg zFf).symm.trans H
 obtain ⟨⟨t603, t604⟩, A4, H⟩ := zO H
 dsimp only at H
 obtain ⟨t606, A5, H⟩ := zO H
 obtain ⟨⟨t609, t610, t611⟩, A6, H⟩ := zO H
 dsimp only at H
 obtain ⟨⟨t613, t614, t615⟩, A7, H⟩ := zO H
 dsimp only at H
 obtain ⟨⟨t617, t618, t619⟩, A8, H⟩ := zO H
 dsimp only at H
 obtain ⟨⟨t621, t622, t623, t624, t625, t626⟩, A9, H⟩ := zO H
 dsimp only at H
 obtain ⟨⟨t628, t629⟩, A10, H⟩ := zO H
 dsimp only at H
 obtain ⟨t631, A11, H⟩ := zO H
 have HC12 := Aside0.mk H
 clear H
 go_enter Try.func3, Try.ntmps3
 go_upto_region 11 with (first | ((with_reducible refine gate_callee (f := 7) rfl ?_); refine zD (some 23) Try.func7 #[.slice A0 l0.length c0] ?_; (with_reducible refine (laws_big.calls _ _ l0 false _ ?side1 ?side2 A2.out).mono ?_); (case side1 => repeat (first | exact HR0.out | (with_reducible refine Kd.C_alloc ?_ _) | (with_reducible refine Kd.C_drewN ?_ _) | (with_reducible refine Kd.C_drew ?_))); (case side2 => exact HC0.out); rintro e w' ⟨rfl, ⟨nd, rfl⟩⟩; refine ⟨_, rfl, ?_⟩) | ((with_reducible refine gate_callee (f := 8) rfl ?_); refine zD (some 25) Try.func8 #[.slice A0 l0.length c0] ?_; (with_reducible refine (spec_DrawFirstBreak.calls k _ _ l0 t603 t604 _ ?side1 ?side2 A4.out).mono ?_); (case side1 => repeat (first | exact HR0.out | (with_reducible refine Kd.C_alloc ?_ _) | (with_reducible refine Kd.C_drewN ?_ _) | (with_reducible refine Kd.C_drew ?_))); (case side2 => exact HC0.out); rintro e w13 ⟨rfl, hb⟩; refine ⟨_, rfl, ?_⟩; replace HB := zX hb; (try clear hb)) | ((with_reducible refine gate_dst (N := 3) rfl ?_); (try (refine gate_guard (by rfl) ?_; dsimp only)); refine zBx (N := 3) #[.int .i64 0, .string (⟨#[]⟩ : ByteArray)] 25 ?_; intro gb605 hg w14 hbox hb; have BK605 := Aside0.mk (hbox); have GW605 := zS hg; have GE605 := zS hg; replace HB := zX hb; clear hb hbox hg; obtain ⟨hcz15_0, hcz15_1, hfz15_0, hfz15_1⟩ := zq2 BK605.out) | ((with_reducible refine gate_callee (f := 9) rfl ?_); refine zD (some 27) Try.func9 #[.agg #[.int .i64 t603, .string t604]] ?_; (with_reducible refine (impl_FirstBreak.calls k t603 t604 t606 _ A5.out).mono ?_); rintro e w16 ⟨v607, rfl, ho0, hb⟩; refine ⟨_, rfl, ?_⟩; have HO608 := Aside0.mk (Kd.R_lower ho0 (below_size (zG GE605.out))); replace BK605 := Aside0.mk (blk_below (g := gb605) (o := .cells #[.int .i64 t603, .string t604] 25 (0, 0)) (zk0 BK605.out) hb); replace HB := zX1 GE605.out hb; (try clear hb); (try clear ho0)) | ((with_reducible refine gate_callee (f := 10) rfl ?_); refine zD (some 30) Try.func10 #[.slice A0 l0.length c0] ?_; (with_reducible refine (spec_DrawReverseElement.calls k _ _ l0 t609 t610 t611 _ ?side1 ?side2 A6.out).mono ?_); (case side1 => repeat (first | exact (Kd.C_below HR0.out HB.out) | (with_reducible refine Kd.C_alloc ?_ _) | (with_reducible refine Kd.C_drewN ?_ _) | (with_reducible refine Kd.C_drew ?_))); (case side2 => exact HC0.out); rintro e w17 ⟨rfl, hb⟩; refine ⟨_, rfl, ?_⟩; replace HO608 := zW HO608.out hb; replace BK605 := zV BK605.out hb; replace HB := zX1 GE605.out hb; (try clear hb)) | ((with_reducible refine gate_dst (N := 5) rfl ?_); (try (refine gate_guard (by rfl) ?_; dsimp only)); refine zBx (N := 5) #[.int .i64 0, .string (⟨#[]⟩ : ByteArray)] 25 ?_; intro gb612 hg w18 hbox hb; replace HO608 := zW HO608.out hb; have BK612 := Aside0.mk (hbox); have GW612 := zSg hg (zG GE605.out); have GE612 := zSg hg (zG GE605.out); have NB605_612 := zL hg BK605.out; have NB612_605 := zLg hg BK605.out; replace BK605 := zV BK605.out hb; replace HB := zX1 GE605.out hb; clear hb hbox hg; have hnb19 := NB612_605.out; have hnc19 := NB605_612.out; obtain ⟨hcz20_0, hcz20_1, hfz20_0, hfz20_1⟩ := zq2 BK612.out) | ((with_reducible refine gate_callee (f := 11) rfl ?_); refine zD (some 36) Try.func11 #[.agg #[.int .i64 t609, .string t610], .int .i64 t611] ?_; (with_reducible refine (impl_ReverseElement.calls k t609 t610 t611 t613 t614 t615 _ A7.out).mono ?_); rintro e w21 ⟨rfl, hb⟩; refine ⟨_, rfl, ?_⟩; replace HO608 := Aside0.mk (Kd.R_below (by (with_reducible repeat (first | apply Kd.R_alloc | apply Kd.R_drewN | apply Kd.R_drew)); exact (Kd.R_mono (Kd.R_far (p := ⟨gb612, 1, none⟩) (Kd.R_far (p := ⟨gb612, 0, none⟩) (Kd.R_types HO608.out BK612.out (by decide)) (fun _ hk => hk.2) (.int .i64 t609)) (fun _ hk => hk.2) (.string t610)) (fun _ h_ => h_.1))) hb); replace BK605 := Aside0.mk (blk_below (g := gb605) (o := .cells #[.int .i64 t603, .string t604] 25 (0, 0)) (zk2 BK605.out NB605_612.out NB605_612.out) hb); replace BK612 := Aside0.mk (blk_below (g := gb612) (o := .cells #[.int .i64 t609, .string t610] 25 (0, 0)) (zk0 BK612.out) hb); replace HB := Aside0.mk (below_step (zG2 GE605.out GE612.out) hb); (try clear hb)) | ((with_reducible refine gate_dst (N := 7) rfl ?_); (try (refine gate_guard (by rfl) ?_; dsimp only)); refine zBx (N := 7) #[.int .i64 0, .string (⟨#[]⟩ : ByteArray)] 25 ?_; intro gb616 hg w22 hbox hb; replace HO608 := zW HO608.out hb; have BK616 := Aside0.mk (hbox); have GW616 := zSg hg (zG2 GE605.out GE612.out); have GE616 := zSg hg (zG2 GE605.out GE612.out); have NB605_616 := zL hg BK605.out; have NB616_605 := zLg hg BK605.out; replace BK605 := zV BK605.out hb; have NB612_616 := zL hg BK612.out; have NB616_612 := zLg hg BK612.out; replace BK612 := zV BK612.out hb; replace HB := Aside0.mk (below_step (zG2 GE605.out GE612.out) hb); clear hb hbox hg; have hnb23 := NB616_605.out; have hnc23 := NB605_616.out; have hnb24 := NB616_612.out; have hnc24 := NB612_616.out; obtain ⟨hcz25_0, hcz25_1, hfz25_0, hfz25_1⟩ := zq2 BK616.out; obtain ⟨hcz26_0, hcz26_1, hfz26_0, hfz26_1⟩ := zq2 BK612.out) | ((with_reducible refine gate_callee (f := 12) rfl ?_); refine zD (some 42) Try.func12 #[.agg #[.int .i64 t609, .string t610], .int .i64 t611] ?_; (with_reducible refine (spec_ReverseElement.calls k t609 t610 t611 t617 t618 t619 _ A8.out).mono ?_); rintro e w27 ⟨rfl, hb⟩; refine ⟨_, rfl, ?_⟩; replace HO608 := Aside0.mk (Kd.R_below (by (with_reducible repeat (first | apply Kd.R_alloc | apply Kd.R_drewN | apply Kd.R_drew)); exact (Kd.R_mono (Kd.R_far (p := ⟨gb616, 1, none⟩) (Kd.R_far (p := ⟨gb616, 0, none⟩) (Kd.R_types HO608.out BK616.out (by decide)) (fun _ hk => hk.2) (.int .i64 t613)) (fun _ hk => hk.2) (.string t614)) (fun _ h_ => h_.1))) hb); replace BK605 := Aside0.mk (blk_below (g := gb605) (o := .cells #[.int .i64 t603, .string t604] 25 (0, 0)) (zk2 BK605.out NB605_616.out NB605_616.out) hb); replace BK612 := Aside0.mk (blk_below (g := gb612) (o := .cells #[.int .i64 t609, .string t610] 25 (0, 0)) (zk2 BK612.out NB612_616.out NB612_616.out) hb); replace BK616 := Aside0.mk (blk_below (g := gb616) (o := .cells #[.int .i64 t613, .string t614] 25 (0, 0)) (zk0 BK616.out) hb); replace HB := Aside0.mk (below_step (zG3 GE605.out GE612.out GE616.out) hb); (try clear hb)) | ((with_reducible refine gate_dst (N := 9) rfl ?_); (try (refine gate_guard (by rfl) ?_; dsimp only)); refine zBx (N := 9) #[.int .i64 0, .string (⟨#[]⟩ : ByteArray)] 25 ?_; intro gb620 hg w28 hbox hb; replace HO608 := zW HO608.out hb; have BK620 := Aside0.mk (hbox); have GW620 := zSg hg (zG3 GE605.out GE612.out GE616.out); have GE620 := zSg hg (zG3 GE605.out GE612.out GE616.out); have NB605_620 := zL hg BK605.out; have NB620_605 := zLg hg BK605.out; replace BK605 := zV BK605.out hb; have NB612_620 := zL hg BK612.out; have NB620_612 := zLg hg BK612.out; replace BK612 := zV BK612.out hb; have NB616_620 := zL hg BK616.out; have NB620_616 := zLg hg BK616.out; replace BK616 := zV BK616.out hb; replace HB := Aside0.mk (below_step (zG3 GE605.out GE612.out GE616.out) hb); clear hb hbox hg; have hnb29 := NB620_605.out; have hnc29 := NB605_620.out; have hnb30 := NB620_612.out; have hnc30 := NB612_620.out; have hnb31 := NB620_616.out; have hnc31 := NB616_620.out; obtain ⟨hcz32_0, hcz32_1, hfz32_0, hfz32_1⟩ := zq2 BK620.out) | ((with_reducible refine gate_callee (f := 13) rfl ?_); refine zD (some 47) Try.func13 #[.slice A0 l0.length c0] ?_; (with_reducible refine (spec_DrawCircuitOf.calls k _ _ l0 t621 t622 t623 t624 t625 t626 _ ?side1 ?side2 A9.out).mono ?_); (case side1 => exact Kd.C_below HR0.out (zG4 GE605.out GE612.out GE616.out GE620.out)); (case side2 => exact HC0.out); rintro e w33 ⟨rfl, hb⟩; refine ⟨_, rfl, ?_⟩; replace HO608 := Aside0.mk (Kd.R_below (by (with_reducible repeat (first | apply Kd.R_alloc | apply Kd.R_drewN | apply Kd.R_drew)); exact (Kd.R_mono (Kd.R_far (p := ⟨gb620, 1, none⟩) (Kd.R_far (p := ⟨gb620, 0, none⟩) (Kd.R_types HO608.out BK620.out (by decide)) (fun _ hk => hk.2) (.int .i64 t617)) (fun _ hk => hk.2) (.string t618)) (fun _ h_ => h_.1))) hb); replace BK605 := Aside0.mk (blk_below (g := gb605) (o := .cells #[.int .i64 t603, .string t604] 25 (0, 0)) (zk2 BK605.out NB605_620.out NB605_620.out) hb); replace BK612 := Aside0.mk (blk_below (g := gb612) (o := .cells #[.int .i64 t609, .string t610] 25 (0, 0)) (zk2 BK612.out NB612_620.out NB612_620.out) hb); replace BK616 := Aside0.mk (blk_below (g := gb616) (o := .cells #[.int .i64 t613, .string t614] 25 (0, 0)) (zk2 BK616.out NB616_620.out NB616_620.out) hb); replace BK620 := Aside0.mk (blk_below (g := gb620) (o := .cells #[.int .i64 t617, .string t618] 25 (0, 0)) (zk0 BK620.out) hb); replace HB := Aside0.mk (below_step (zG4 GE605.out GE612.out GE616.out GE620.out) hb); (try clear hb)) | ((with_reducible refine gate_dst (N := 11) rfl ?_); (try (refine gate_guard (by rfl) ?_; dsimp only)); refine zBx (N := 11) #[.int .i64 0, .string (⟨#[]⟩ : ByteArray)] 25 ?_; intro gb627 hg w34 hbox hb; replace HO608 := zW HO608.out hb; have BK627 := Aside0.mk (hbox); have GW627 := zSg hg (zG4 GE605.out GE612.out GE616.out GE620.out); have GE627 := zSg hg (zG4 GE605.out GE612.out GE616.out GE620.out); have NB605_627 := zL hg BK605.out; have NB627_605 := zLg hg BK605.out; replace BK605 := zV BK605.out hb; have NB612_627 := zL hg BK612.out; have NB627_612 := zLg hg BK612.out; replace BK612 := zV BK612.out hb; have NB616_627 := zL hg BK616.out; have NB627_616 := zLg hg BK616.out; replace BK616 := zV BK616.out hb; have NB620_627 := zL hg BK620.out; have NB627_620 := zLg hg BK620.out; replace BK620 := zV BK620.out hb; replace HB := Aside0.mk (below_step (zG4 GE605.out GE612.out GE616.out GE620.out) hb); clear hb hbox hg; have hnb35 := NB627_605.out; have hnc35 := NB605_627.out; have hnb36 := NB627_612.out; have hnc36 := NB612_627.out; have hnb37 := NB627_616.out; have hnc37 := NB616_627.out; have hnb38 := NB627_620.out; have hnc38 := NB620_627.out; obtain ⟨hcz39_0, hcz39_1, hfz39_0, hfz39_1⟩ := zq2 BK627.out) | ((with_reducible refine gate_callee (f := 14) rfl ?_); refine zD (some 54) Try.func14 #[.slice A0 l0.length c0] ?_; (with_reducible refine (spec_DrawAcyclicSets.calls k _ _ l0 t628 t629 _ ?side1 ?side2 A10.out).mono ?_); (case side1 => exact Kd.C_below HR0.out (zG5 GE605.out GE612.out GE616.out GE620.out GE627.out)); (case side2 => exact HC0.out); rintro e w40 ⟨rfl, hb⟩; refine ⟨_, rfl, ?_⟩; replace HO608 := Aside0.mk (Kd.R_below (by (with_reducible repeat (first | apply Kd.R_alloc | apply Kd.R_drewN | apply Kd.R_drew)); exact (Kd.R_mono (Kd.R_far (p := ⟨gb627, 1, none⟩) (Kd.R_far (p := ⟨gb627, 0, none⟩) (Kd.R_types HO608.out BK627.out (by decide)) (fun _ hk => hk.2) (.int .i64 t621)) (fun _ hk => hk.2) (.string t622)) (fun _ h_ => h_.1))) hb); replace BK605 := Aside0.mk (blk_below (g := gb605) (o := .cells #[.int .i64 t603, .string t604] 25 (0, 0)) (zk2 BK605.out NB605_627.out NB605_627.out) hb); replace BK612 := Aside0.mk (blk_below (g := gb612) (o := .cells #[.int .i64 t609, .string t610] 25 (0, 0)) (zk2 BK612.out NB612_627.out NB612_627.out) hb); replace BK616 := Aside0.mk (blk_below (g := gb616) (o := .cells #[.int .i64 t613, .string t614] 25 (0, 0)) (zk2 BK616.out NB616_627.out NB616_627.out) hb); replace BK620 := Aside0.mk (blk_below (g := gb620) (o := .cells #[.int .i64 t617, .string t618] 25 (0, 0)) (zk2 BK620.out NB620_627.out NB620_627.out) hb); replace BK627 := Aside0.mk (blk_below (g := gb627) (o := .cells #[.int .i64 t621, .string t622] 25 (0, 0)) (zk0 BK627.out) hb); replace HB := Aside0.mk (below_step (zG5 GE605.out GE612.out GE616.out GE620.out GE627.out) hb); (try clear hb)) | ((with_reducible refine gate_dst (N := 16) rfl ?_); (try (refine gate_guard (by rfl) ?_; dsimp only)); refine zBx (N := 16) #[.int .i64 0, .string (⟨#[]⟩ : ByteArray)] 25 ?_; intro gb630 hg w41 hbox hb; replace HO608 := zW HO608.out hb; have BK630 := Aside0.mk (hbox); have GW630 := zSg hg (zG5 GE605.out GE612.out GE616.out GE620.out GE627.out); have GE630 := zSg hg (zG5 GE605.out GE612.out GE616.out GE620.out GE627.out); have NB605_630 := zL hg BK605.out; have NB630_605 := zLg hg BK605.out; replace BK605 := zV BK605.out hb; have NB612_630 := zL hg BK612.out; have NB630_612 := zLg hg BK612.out; replace BK612 := zV BK612.out hb; have NB616_630 := zL hg BK616.out; have NB630_616 := zLg hg BK616.out; replace BK616 := zV BK616.out hb; have NB620_630 := zL hg BK620.out; have NB630_620 := zLg hg BK620.out; replace BK620 := zV BK620.out hb; have NB627_630 := zL hg BK627.out; have NB630_627 := zLg hg BK627.out; replace BK627 := zV BK627.out hb; replace HB := Aside0.mk (below_step (zG5 GE605.out GE612.out GE616.out GE620.out GE627.out) hb); clear hb hbox hg; have hnb42 := NB630_605.out; have hnc42 := NB605_630.out; have hnb43 := NB630_612.out; have hnc43 := NB612_630.out; have hnb44 := NB630_616.out; have hnc44 := NB616_630.out; have hnb45 := NB630_620.out; have hnc45 := NB620_630.out; have hnb46 := NB630_627.out; have hnc46 := NB627_630.out; obtain ⟨hcz47_0, hcz47_1, hfz47_0, hfz47_1⟩ := zq2 BK630.out) | ((with_reducible refine gate_callee (f := 15) rfl ?_); refine zD (some 56) Try.func15 #[.agg #[.int .i64 t628, .string t629]] ?_; (with_reducible refine (impl_AcyclicSets.calls k t628 t629 t631 _ A11.out).mono ?_); rintro e w48 ⟨v632, rfl, ho0, hb⟩; refine ⟨_, rfl, ?_⟩; have HO633 := Aside0.mk (Kd.R_lower (Kd.R_new' ho0 (Kd.R_lt (by (with_reducible repeat (first | apply Kd.R_alloc | apply Kd.R_drewN | apply Kd.R_drew)); exact (Kd.R_mono (Kd.R_far (p := ⟨gb630, 1, none⟩) (Kd.R_far (p := ⟨gb630, 0, none⟩) (Kd.R_types HO608.out BK630.out (by decide)) (fun _ hk => hk.2) (.int .i64 t628)) (fun _ hk => hk.2) (.string t629)) (fun _ h_ => h_.1))))) (below_size (zG6 GE605.out GE612.out GE616.out GE620.out GE627.out GE630.out))); replace HO608 := Aside0.mk (Kd.R_elder' (by (with_reducible repeat (first | apply Kd.R_alloc | apply Kd.R_drewN | apply Kd.R_drew)); exact (Kd.R_mono (Kd.R_far (p := ⟨gb630, 1, none⟩) (Kd.R_far (p := ⟨gb630, 0, none⟩) (Kd.R_types HO608.out BK630.out (by decide)) (fun _ hk => hk.2) (.int .i64 t628)) (fun _ hk => hk.2) (.string t629)) (fun _ h_ => h_.1))) (Kd.R_base ho0) hb); replace BK605 := Aside0.mk (blk_below (g := gb605) (o := .cells #[.int .i64 t603, .string t604] 25 (0, 0)) (zk2 BK605.out NB605_630.out NB605_630.out) hb); replace BK612 := Aside0.mk (blk_below (g := gb612) (o := .cells #[.int .i64 t609, .string t610] 25 (0, 0)) (zk2 BK612.out NB612_630.out NB612_630.out) hb); replace BK616 := Aside0.mk (blk_below (g := gb616) (o := .cells #[.int .i64 t613, .string t614] 25 (0, 0)) (zk2 BK616.out NB616_630.out NB616_630.out) hb); replace BK620 := Aside0.mk (blk_below (g := gb620) (o := .cells #[.int .i64 t617, .string t618] 25 (0, 0)) (zk2 BK620.out NB620_630.out NB620_630.out) hb); replace BK627 := Aside0.mk (blk_below (g := gb627) (o := .cells #[.int .i64 t621, .string t622] 25 (0, 0)) (zk2 BK627.out NB627_630.out NB627_630.out) hb); replace BK630 := Aside0.mk (blk_below (g := gb630) (o := .cells #[.int .i64 t628, .string t629] 25 (0, 0)) (zk0 BK630.out) hb); replace HB := Aside0.mk (below_step (zG6 GE605.out GE612.out GE616.out GE620.out GE627.out GE630.out) hb); (try clear hb); (try clear ho0)))
 (try simp only [Act.put, List.setIfInBounds_toArray, List.set_cons_zero, List.set_cons_succ])
 go_cut [107] (fun v107 wc => ∃ (kq : Nat) (x107_11 : Bool), v107 = .bool x107_11 ∧ Aside0 (laws_FnRule.j0 kq l0 t606 t615 t623 t624 t625 t626 t631 x107_11 t603 t604 t609 t610 t613 t614 t621 t622 t628 t629 = some r) ∧ Aside0 (kq ≤ k) ∧ Aside0 (Kd.R (Kd.int .i64) 3 wc w.heap.size (fun k_ => some k_ ≠ (v632 : Value).ownBlock) v607 t606) ∧ Aside0 (Kd.R (Kd.int .i64) 3 wc w.heap.size (fun k_ => some k_ ≠ (v607 : Value).ownBlock) v632 t631) ∧ Aside0 (wc.heap[gb605]? = some (.cells #[.int .i64 t603, .string t604] 25 (0, 0))) ∧ Aside0 (wc.heap[gb612]? = some (.cells #[.int .i64 t609, .string t610] 25 (0, 0))) ∧ Aside0 (wc.heap[gb616]? = some (.cells #[.int .i64 t613, .string t614] 25 (0, 0))) ∧ Aside0 (wc.heap[gb620]? = some (.cells #[.int .i64 t617, .string t618] 25 (0, 0))) ∧ Aside0 (wc.heap[gb627]? = some (.cells #[.int .i64 t621, .string t622] 25 (0, 0))) ∧ Aside0 (wc.heap[gb630]? = some (.cells #[.int .i64 t628, .string t629] 25 (0, 0))) ∧ Aside0 (Below w.heap.size w wc))
 case first => as_aux_lemma =>
  have H := HC12.out
  clear HC12
  obtain ⟨t634, A49, H⟩ := zO H
  obtain ⟨t637, A50, H⟩ := zO H
  by_cases c51 : t637 = true
  ·subst c51
   replace H := (if_pos rfl).symm.trans H
   by_cases c52 : (t615 != t619) = true
   ·rw [if_pos c52] at H
    exact absurd H (laws_FnRule.j0_no _ _ _ _ _ _ _ _ _ _ _ _ _ _ _ _ _ _ _ _ hr_)
   rw [if_neg c52] at H
   have c52b0 : (t615 != t619) = false := by simpa using c52
   (try (have c52b1 : decide (t615 = t619) = true := by simpa using c52))
   (try (have c52b2 : (t615 == t619) = true := by simpa using c52))
   clear c52
   (first | rw [c52b0] | (simp only [i64_w, i32_w]; rw [c52b0]) | skip)
   by_cases c57 : (!(t613 == t617) || (!(t614.toList == t618.toList))) = true
   ·rw [if_pos c57] at H
    exact absurd H (laws_FnRule.j0_no _ _ _ _ _ _ _ _ _ _ _ _ _ _ _ _ _ _ _ _ hr_)
   rw [if_neg c57] at H
   have c57b0 : (!(t613 == t617) || (!(t614.toList == t618.toList))) = false := by simpa using c57
   clear c57
   obtain ⟨t638, A62, H⟩ := zO H
   obtain ⟨t639, A63, H⟩ := zO H
   by_cases c64 : t638.toList = t639.toList
   ·rw [if_pos c64] at H
    have c64b0 : (t638.toList == t639.toList) = true := beq_iff_eq.mpr c64
    have c64b1 : (t638.toList != t639.toList) = false := bne_eq_false_iff_eq.mpr c64
    clear c64
    obtain ⟨t640, A65, H⟩ := zO H
    obtain ⟨t643, A66, H⟩ := zO H
    by_cases c67 : t643 = true
    ·subst c67
     replace H := (if_pos rfl).symm.trans H
     obtain ⟨t644, A68, H⟩ := zO H
     obtain ⟨t645, A69, H⟩ := zO H
     by_cases c70 : (t644 != t645) = true
     ·rw [if_pos c70] at H
      exact absurd H (laws_FnRule.j0_no _ _ _ _ _ _ _ _ _ _ _ _ _ _ _ _ _ _ _ _ hr_)
     rw [if_neg c70] at H
     have c70b0 : (t644 != t645) = false := by simpa using c70
     (try (have c70b1 : decide (t644 = t645) = true := by simpa using c70))
     (try (have c70b2 : (t644 == t645) = true := by simpa using c70))
     clear c70
     obtain ⟨t646, A82, H⟩ := zO H
     obtain ⟨t647, A83, H⟩ := zO H
     have H' := Aside0.mk H; clear H
     try go_wp2
     replace HO608 := Aside0.mk (Kd.R_drew HO608.out)
     replace HO633 := Aside0.mk (Kd.R_drew HO633.out)
     replace BK605 := Aside0.mk (blk_drew BK605.out)
     replace BK612 := Aside0.mk (blk_drew BK612.out)
     replace BK616 := Aside0.mk (blk_drew BK616.out)
     replace BK620 := Aside0.mk (blk_drew BK620.out)
     replace BK627 := Aside0.mk (blk_drew BK627.out)
     replace BK630 := Aside0.mk (blk_drew BK630.out)
     replace HB := Aside0.mk (below_drew1 HB.out)
     refine start_ (n := 51) (S := fun w' => w'.cell? ⟨gb605, 0, none⟩ = some (.int .i64 t603) ∧ w'.cell? ⟨gb605, 1, none⟩ = some (.string t604) ∧ w'.cell? ⟨gb616, 0, none⟩ = some (.int .i64 t613) ∧ w'.cell? ⟨gb616, 1, none⟩ = some (.string t614) ∧ w'.cell? ⟨gb620, 0, none⟩ = some (.int .i64 t617) ∧ w'.cell? ⟨gb620, 1, none⟩ = some (.string t618) ∧ w'.cell? ⟨gb627, 0, none⟩ = some (.int .i64 t621) ∧ w'.cell? ⟨gb627, 1, none⟩ = some (.string t622) ∧ w'.cell? ⟨gb630, 0, none⟩ = some (.int .i64 t628) ∧ w'.cell? ⟨gb630, 1, none⟩ = some (.string t629)) (ds := []) #[false, false, false, false, false, false, false, false, false, false, false, false, false, false, false, false, false, false, false, false, false, false, false, false, false, false, false, false, false, false, false, false, false, false, false, false, false, false, false, false, false, false, false, false, false, false, false, false, false, false, false] (by kernel_rfl) rfl rfl ⟨(blk_cell BK605.out 0).trans rfl, (blk_cell BK605.out 1).trans rfl, (blk_cell BK616.out 0).trans rfl, (blk_cell BK616.out 1).trans rfl, (blk_cell BK620.out 0).trans rfl, (blk_cell BK620.out 1).trans rfl, (blk_cell BK627.out 0).trans rfl, (blk_cell BK627.out 1).trans rfl, (blk_cell BK630.out 0).trans rfl, (blk_cell BK630.out 1).trans rfl⟩ (fun hHeld => ?_); refine with_tabW laws_FnRule.tab11 laws_FnRule.bits11 (fun HT_ HW_ => ?_)
     generalize w48.drew = w84 at HO608 HO633 BK605 BK612 BK616 BK620 BK627 BK630 HB hHeld ⊢
     refine zP 0 (some 57) rfl rfl ?_
     refine zY10 1 (some 58) rfl rfl hHeld ?_
     refine zU 2 (some 59) rfl rfl (fun K hK => ?_)
     refine goes_ Try.func17 (by kernel_rfl) rfl #[.agg #[.int .i64 t603, .string t604]] (by rfl) rfl rfl zM ?_
     with_reducible refine (spec_FirstBreak.calls k t603 t604 t634 _ A49.out).mono ?_
     rintro e w85 ⟨v635, rfl, ho0, hb⟩
     refine ⟨_, rfl, ?_⟩
     have HO636 := Aside0.mk (Kd.R_lower (Kd.R_new' (Kd.R_new' ho0 (Kd.R_lt (zR HO608.out))) (Kd.R_lt (zR HO633.out))) (below_size (zG6 GE605.out GE612.out GE616.out GE620.out GE627.out GE630.out)))
     replace HO608 := Aside0.mk (Kd.R_elder' (zR HO608.out) (Kd.R_base ho0) hb)
     replace HO633 := Aside0.mk (Kd.R_elder' (zR HO633.out) (Kd.R_base ho0) hb)
     replace BK605 := zV BK605.out hb
     replace BK612 := zV BK612.out hb
     replace BK616 := zV BK616.out hb
     replace BK620 := zV BK620.out hb
     replace BK627 := zV BK627.out hb
     replace BK630 := zV BK630.out hb
     replace HB := Aside0.mk (below_step (zG6 GE605.out GE612.out GE616.out GE620.out GE627.out GE630.out) hb)
     (try clear hb)
     (try clear ho0)
     obtain ⟨Ao86, co86, eo86⟩ := Kd.R_slice HO608.out
     (first | subst eo86 | (injection eo86 with f1_ f2_ f3_; have f4_ := f1_.symm; have f5_ := f3_.symm; clear f1_ f2_ f3_; subst f4_; subst f5_))
     obtain ⟨Ao87, co87, eo87⟩ := Kd.R_slice HO636.out
     (first | subst eo87 | (injection eo87 with f1_ f2_ f3_; have f4_ := f1_.symm; have f5_ := f3_.symm; clear f1_ f2_ f3_; subst f4_; subst f5_))
     refine hK.out _ _ (zh BK605.out (zh BK616.out (zh BK620.out (zh BK627.out (zh2 BK630.out))))) (fun hHeld => ?_)
     clear hK K
     refine zN ?_
     refine zU 3 (some 60) rfl rfl (fun K hK => ?_)
     refine goes_ Try.func16 (by kernel_rfl) rfl #[.slice Ao86 t606.length co86, .slice Ao87 t634.length co87] (by rfl) rfl rfl zM ?_
     with_reducible refine (laws_sameInts.calls k _ _ t606 _ _ t634 true _ ?side1 ?side2 ?side3 ?side4 A50.out).mono ?_
     (case side1 => repeat (first | exact (Kd.R_reads' HO608.out).2.2 | (with_reducible refine Kd.C_alloc ?_ _) | (with_reducible refine Kd.C_drewN ?_ _) | (with_reducible refine Kd.C_drew ?_)))
     (case side2 => exact (Kd.R_reads' HO608.out).2.1)
     (case side3 => repeat (first | exact (Kd.R_reads' HO636.out).2.2 | (with_reducible refine Kd.C_alloc ?_ _) | (with_reducible refine Kd.C_drewN ?_ _) | (with_reducible refine Kd.C_drew ?_)))
     (case side4 => exact (Kd.R_reads' HO636.out).2.1)
     rintro e w' ⟨rfl, ⟨nd, rfl⟩⟩
     refine ⟨_, rfl, ?_⟩
     refine hK.out _ _ (zh BK605.out (zh BK616.out (zh BK620.out (zh BK627.out (zh2 BK630.out))))) (fun hHeld => ?_)
     clear hK K
     refine zN ?_
     refine zP 4 (some 61) rfl rfl ?_
     refine zP 5 (some 62) rfl rfl ?_
     refine zP 6 (some 63) rfl rfl ?_
     refine zP 7 (some 64) rfl rfl ?_
     refine zP 8 (some 65) rfl rfl ?_
     refine zP 9 (some 66) rfl rfl ?_
     refine zP 10 (some 67) rfl rfl ?_
     refine zY10 11 (some 68) rfl rfl hHeld ?_
     refine zY10 12 (some 69) rfl rfl hHeld ?_
     refine zP 13 (some 70) rfl rfl ?_
     refine zP 14 (some 71) rfl rfl ?_
     refine zP 15 (some 72) rfl rfl ?_
     refine zP 17 (some 74) rfl rfl ?_
     refine zP 18 (some 75) rfl rfl ?_
     refine zP 19 (some 76) rfl rfl ?_
     refine zP 20 (some 77) rfl rfl ?_
     refine zP 23 (some 80) rfl rfl ?_
     refine zP 24 (some 81) rfl rfl ?_
     refine zP 25 (some 82) rfl rfl ?_
     refine zP 26 (some 83) rfl rfl ?_
     refine zY10 16 (some 73) rfl rfl hHeld ?_
     refine zY10 22 (some 79) rfl rfl hHeld ?_
     refine zU 21 (some 78) rfl rfl (fun K hK => ?_)
     refine goes_ Try.func18 (by kernel_rfl) rfl #[.agg #[.int .i64 t621, .string t622], .int .i64 t623, .int .i64 t624, .int .i64 t625, .int .i64 t626] (by rfl) rfl rfl zM ?_
     with_reducible refine (impl_CircuitOf.calls k t621 t622 t623 t624 t625 t626 t638 _ A62.out).mono ?_
     rintro e w88 ⟨rfl, hb⟩
     refine ⟨_, rfl, ?_⟩
     replace HO608 := zW HO608.out hb
     replace HO633 := zW HO633.out hb
     replace HO636 := zW HO636.out hb
     replace BK605 := zV BK605.out hb
     replace BK612 := zV BK612.out hb
     replace BK616 := zV BK616.out hb
     replace BK620 := zV BK620.out hb
     replace BK627 := zV BK627.out hb
     replace BK630 := zV BK630.out hb
     replace HB := Aside0.mk (below_step (zG6 GE605.out GE612.out GE616.out GE620.out GE627.out GE630.out) hb)
     (try clear hb)
     refine hK.out _ _ (zh BK605.out (zh BK616.out (zh BK620.out (zh BK627.out (zh2 BK630.out))))) (fun hHeld => ?_)
     clear hK K
     refine zN ?_
     refine zU 27 (some 84) rfl rfl (fun K hK => ?_)
     refine goes_ Try.func19 (by kernel_rfl) rfl #[.agg #[.int .i64 t621, .string t622], .int .i64 t623, .int .i64 t624, .int .i64 t625, .int .i64 t626] (by rfl) rfl rfl zM ?_
     with_reducible refine (spec_CircuitOf.calls k t621 t622 t623 t624 t625 t626 t639 _ A63.out).mono ?_
     rintro e w89 ⟨rfl, hb⟩
     refine ⟨_, rfl, ?_⟩
     replace HO608 := zW HO608.out hb
     replace HO633 := zW HO633.out hb
     replace HO636 := zW HO636.out hb
     replace BK605 := zV BK605.out hb
     replace BK612 := zV BK612.out hb
     replace BK616 := zV BK616.out hb
     replace BK620 := zV BK620.out hb
     replace BK627 := zV BK627.out hb
     replace BK630 := zV BK630.out hb
     replace HB := Aside0.mk (below_step (zG6 GE605.out GE612.out GE616.out GE620.out GE627.out GE630.out) hb)
     (try clear hb)
     refine hK.out _ _ (zh BK605.out (zh BK616.out (zh BK620.out (zh BK627.out (zh2 BK630.out))))) (fun hHeld => ?_)
     clear hK K
     refine zN ?_
     refine zP 28 (some 85) rfl rfl ?_
     refine zP 29 (some 86) rfl rfl ?_
     refine zP 30 (some 87) rfl rfl ?_
     refine zP 31 (some 88) rfl rfl ?_
     refine zY10 32 (some 89) rfl rfl hHeld ?_
     refine zU 33 (some 90) rfl rfl (fun K hK => ?_)
     refine goes_ Try.func20 (by kernel_rfl) rfl #[.agg #[.int .i64 t628, .string t629]] (by rfl) rfl rfl zM ?_
     with_reducible refine (spec_AcyclicSets.calls k t628 t629 t640 _ A65.out).mono ?_
     rintro e w90 ⟨v641, rfl, ho0, hb⟩
     refine ⟨_, rfl, ?_⟩
     have HO642 := Aside0.mk (Kd.R_lower (Kd.R_new' (Kd.R_new' (Kd.R_new' ho0 (Kd.R_lt (zR HO608.out))) (Kd.R_lt (zR HO633.out))) (Kd.R_lt (zR HO636.out))) (below_size (zG6 GE605.out GE612.out GE616.out GE620.out GE627.out GE630.out)))
     replace HO608 := Aside0.mk (Kd.R_elder' (zR HO608.out) (Kd.R_base ho0) hb)
     replace HO633 := Aside0.mk (Kd.R_elder' (zR HO633.out) (Kd.R_base ho0) hb)
     replace HO636 := Aside0.mk (Kd.R_elder' (zR HO636.out) (Kd.R_base ho0) hb)
     replace BK605 := zV BK605.out hb
     replace BK612 := zV BK612.out hb
     replace BK616 := zV BK616.out hb
     replace BK620 := zV BK620.out hb
     replace BK627 := zV BK627.out hb
     replace BK630 := zV BK630.out hb
     replace HB := Aside0.mk (below_step (zG6 GE605.out GE612.out GE616.out GE620.out GE627.out GE630.out) hb)
     (try clear hb)
     (try clear ho0)
     obtain ⟨Ao91, co91, eo91⟩ := Kd.R_slice HO633.out
     (first | subst eo91 | (injection eo91 with f1_ f2_ f3_; have f4_ := f1_.symm; have f5_ := f3_.symm; clear f1_ f2_ f3_; subst f4_; subst f5_))
     obtain ⟨Ao92, co92, eo92⟩ := Kd.R_slice HO642.out
     (first | subst eo92 | (injection eo92 with f1_ f2_ f3_; have f4_ := f1_.symm; have f5_ := f3_.symm; clear f1_ f2_ f3_; subst f4_; subst f5_))
     refine hK.out _ _ (zh BK605.out (zh BK616.out (zh BK620.out (zh BK627.out (zh2 BK630.out))))) (fun hHeld => ?_)
     clear hK K
     refine zN ?_
     refine zU 34 (some 91) rfl rfl (fun K hK => ?_)
     refine goes_ Try.func16 (by kernel_rfl) rfl #[.slice Ao91 t631.length co91, .slice Ao92 t640.length co92] (by rfl) rfl rfl zM ?_
     with_reducible refine (laws_sameInts.calls k _ _ t631 _ _ t640 true _ ?side1 ?side2 ?side3 ?side4 A66.out).mono ?_
     (case side1 => repeat (first | exact (Kd.R_reads' HO633.out).2.2 | (with_reducible refine Kd.C_alloc ?_ _) | (with_reducible refine Kd.C_drewN ?_ _) | (with_reducible refine Kd.C_drew ?_)))
     (case side2 => exact (Kd.R_reads' HO633.out).2.1)
     (case side3 => repeat (first | exact (Kd.R_reads' HO642.out).2.2 | (with_reducible refine Kd.C_alloc ?_ _) | (with_reducible refine Kd.C_drewN ?_ _) | (with_reducible refine Kd.C_drew ?_)))
     (case side4 => exact (Kd.R_reads' HO642.out).2.1)
     rintro e w' ⟨rfl, ⟨nd, rfl⟩⟩
     refine ⟨_, rfl, ?_⟩
     refine hK.out _ _ (zh BK605.out (zh BK616.out (zh BK620.out (zh BK627.out (zh2 BK630.out))))) (fun hHeld => ?_)
     clear hK K
     refine zN ?_
     refine zP 35 (some 92) rfl rfl ?_
     refine zP 36 (some 93) rfl rfl ?_
     refine zP 37 (some 94) rfl rfl ?_
     refine zY10 38 (some 95) rfl rfl hHeld ?_
     refine zY10 40 (some 97) rfl rfl hHeld ?_
     refine zU 39 (some 96) rfl rfl (fun K hK => ?_)
     refine goes_ Try.func21 (by kernel_rfl) rfl #[.agg #[.int .i64 t603, .string t604]] (by rfl) rfl rfl zM ?_
     with_reducible refine (impl_IsMatroid.calls t603 t604 t644 _ A68.out).mono ?_
     rintro e w93 ⟨rfl, hb⟩
     refine ⟨_, rfl, ?_⟩
     replace HO608 := zW HO608.out hb
     replace HO633 := zW HO633.out hb
     replace HO636 := zW HO636.out hb
     replace HO642 := zW HO642.out hb
     replace BK605 := zV BK605.out hb
     replace BK612 := zV BK612.out hb
     replace BK616 := zV BK616.out hb
     replace BK620 := zV BK620.out hb
     replace BK627 := zV BK627.out hb
     replace BK630 := zV BK630.out hb
     replace HB := Aside0.mk (below_step (zG6 GE605.out GE612.out GE616.out GE620.out GE627.out GE630.out) hb)
     (try clear hb)
     refine hK.out _ _ (zh BK605.out (zh BK616.out (zh BK620.out (zh BK627.out (zh2 BK630.out))))) (fun hHeld => ?_)
     clear hK K
     refine zN ?_
     refine zU 41 (some 98) rfl rfl (fun K hK => ?_)
     refine goes_ Try.func22 (by kernel_rfl) rfl #[.agg #[.int .i64 t603, .string t604]] (by rfl) rfl rfl zM ?_
     with_reducible refine (spec_IsMatroid.calls k t603 t604 t645 _ A69.out).mono ?_
     rintro e w94 ⟨rfl, hb⟩
     refine ⟨_, rfl, ?_⟩
     replace HO608 := zW HO608.out hb
     replace HO633 := zW HO633.out hb
     replace HO636 := zW HO636.out hb
     replace HO642 := zW HO642.out hb
     replace BK605 := zV BK605.out hb
     replace BK612 := zV BK612.out hb
     replace BK616 := zV BK616.out hb
     replace BK620 := zV BK620.out hb
     replace BK627 := zV BK627.out hb
     replace BK630 := zV BK630.out hb
     replace HB := Aside0.mk (below_step (zG6 GE605.out GE612.out GE616.out GE620.out GE627.out GE630.out) hb)
     (try clear hb)
     refine hK.out _ _ (zh BK605.out (zh BK616.out (zh BK620.out (zh BK627.out (zh2 BK630.out))))) (fun hHeld => ?_)
     clear hK K
     refine zN ?_
     refine zP 42 (some 99) rfl rfl ?_
     refine zP 43 (some 100) rfl rfl ?_
     refine zP 44 (some 101) rfl rfl ?_
     refine zY10 45 (some 102) rfl rfl hHeld ?_
     refine zY10 47 (some 104) rfl rfl hHeld ?_
     refine zU 46 (some 103) rfl rfl (fun K hK => ?_)
     refine goes_ Try.func23 (by kernel_rfl) rfl #[.agg #[.int .i64 t603, .string t604]] (by rfl) rfl rfl zM ?_
     with_reducible refine (impl_IsAcyclic.calls k t603 t604 t646 _ A82.out).mono ?_
     rintro e w95 ⟨rfl, hb⟩
     refine ⟨_, rfl, ?_⟩
     replace HO608 := zW HO608.out hb
     replace HO633 := zW HO633.out hb
     replace HO636 := zW HO636.out hb
     replace HO642 := zW HO642.out hb
     replace BK605 := zV BK605.out hb
     replace BK612 := zV BK612.out hb
     replace BK616 := zV BK616.out hb
     replace BK620 := zV BK620.out hb
     replace BK627 := zV BK627.out hb
     replace BK630 := zV BK630.out hb
     replace HB := Aside0.mk (below_step (zG6 GE605.out GE612.out GE616.out GE620.out GE627.out GE630.out) hb)
     (try clear hb)
     refine hK.out _ _ (zh BK605.out (zh BK616.out (zh BK620.out (zh BK627.out (zh2 BK630.out))))) (fun hHeld => ?_)
     clear hK K
     refine zN ?_
     refine zU 48 (some 105) rfl rfl (fun K hK => ?_)
     refine goes_ Try.func24 (by kernel_rfl) rfl #[.agg #[.int .i64 t603, .string t604]] (by rfl) rfl rfl zM ?_
     with_reducible refine (spec_IsAcyclic.calls k t603 t604 t647 _ A83.out).mono ?_
     rintro e w96 ⟨rfl, hb⟩
     refine ⟨_, rfl, ?_⟩
     replace HO608 := zW HO608.out hb
     replace HO633 := zW HO633.out hb
     replace HO636 := zW HO636.out hb
     replace HO642 := zW HO642.out hb
     replace BK605 := zV BK605.out hb
     replace BK612 := zV BK612.out hb
     replace BK616 := zV BK616.out hb
     replace BK620 := zV BK620.out hb
     replace BK627 := zV BK627.out hb
     replace BK630 := zV BK630.out hb
     replace HB := Aside0.mk (below_step (zG6 GE605.out GE612.out GE616.out GE620.out GE627.out GE630.out) hb)
     (try clear hb)
     refine hK.out _ _ (zh BK605.out (zh BK616.out (zh BK620.out (zh BK627.out (zh2 BK630.out))))) (fun hHeld => ?_)
     clear hK K
     refine zN ?_
     refine zP 49 (some 106) rfl rfl ?_
     refine zP 50 (some 107) rfl rfl ?_
     refine done_ (done_of HT_.out (by kernel_rfl)) ?_
     try go_wp2
     go_meet
     case rel => exact ⟨_, ((t646 != t647)), zF, H', ⟨by first | omega | exact Nat.le_refl _⟩, ⟨by (with_reducible repeat (first | apply Kd.R_alloc | apply Kd.R_drewN | apply Kd.R_drew)); exact Kd.R_mono HO608.out (fun _ hk => hk.1.1.2)⟩, ⟨by (with_reducible repeat (first | apply Kd.R_alloc | apply Kd.R_drewN | apply Kd.R_drew)); exact Kd.R_mono HO633.out (fun _ hk => hk.1.1.2)⟩, ⟨zK BK605.out⟩, ⟨zK BK612.out⟩, ⟨zK BK616.out⟩, ⟨zK BK620.out⟩, ⟨zK BK627.out⟩, ⟨zK BK630.out⟩, ⟨zG6 GE605.out GE612.out GE616.out GE620.out GE627.out GE630.out⟩⟩
    replace c67 := Bool.eq_false_iff.mpr c67
    subst c67
    have H1 : (laws_FnRule.j0 k l0 t606 t615 t623 t624 t625 t626 t631 true t603 t604 t609 t610 t613 t614 t621 t622 t628 t629) = some r := by rw [if_neg (show ¬ (false = true) by decide)] at H; exact H
    exact absurd H1 (laws_FnRule.j0_no _ _ _ _ _ _ _ _ _ _ _ _ _ _ _ _ _ _ _ _ hr_)
   rw [if_neg c64] at H
   exact absurd H (laws_FnRule.j0_no _ _ _ _ _ _ _ _ _ _ _ _ _ _ _ _ _ _ _ _ hr_)
  replace c51 := Bool.eq_false_iff.mpr c51
  subst c51
  have H1 : (laws_FnRule.j0 k l0 t606 t615 t623 t624 t625 t626 t631 true t603 t604 t609 t610 t613 t614 t621 t622 t628 t629) = some r := by rw [if_neg (show ¬ (false = true) by decide)] at H; exact H
  exact absurd H1 (laws_FnRule.j0_no _ _ _ _ _ _ _ _ _ _ _ _ _ _ _ _ _ _ _ _ hr_)
 case rest => as_aux_lemma =>
 clear HC12
 obtain ⟨kq, x107_11, rfl, HA, HJ11, HO_4, HO_17, BK605, BK612, BK616, BK620, BK627, BK630, HB⟩ := hcut
 cases kq with
 | zero => exact absurd HA.out (by simp [laws_FnRule.j0])
 | succ kj11 =>
 have H := HA.out
 clear HA
 simp only [laws_FnRule.j0] at H
 by_cases c116 : x107_11 = true
 ·subst c116
  replace H := (if_pos rfl).symm.trans H
  obtain rfl := Option.some.inj H
  cases hr_
 replace c116 := Bool.eq_false_iff.mpr c116
 subst c116
 replace H := (if_neg zFf).symm.trans H
 have HC117 := Aside0.mk H
 clear H
 go_upto_region 13 with (fail)
 go_cut [126] (fun v126 wc => ∃ (kq : Nat) (x126_116 : Bool), v126 = .bool x126_116 ∧ Aside0 (laws_FnRule.j1 kq l0 t615 t623 t624 t625 t626 t631 x126_116 t609 t610 t613 t614 t621 t622 t628 t629 = some r) ∧ Aside0 (kq ≤ kj11) ∧ Aside0 (Kd.R (Kd.int .i64) 3 wc w.heap.size (fun _ => True) v632 t631) ∧ Aside0 (wc.heap[gb605]? = some (.cells #[.int .i64 t603, .string t604] 25 (0, 0))) ∧ Aside0 (wc.heap[gb612]? = some (.cells #[.int .i64 t609, .string t610] 25 (0, 0))) ∧ Aside0 (wc.heap[gb616]? = some (.cells #[.int .i64 t613, .string t614] 25 (0, 0))) ∧ Aside0 (wc.heap[gb620]? = some (.cells #[.int .i64 t617, .string t618] 25 (0, 0))) ∧ Aside0 (wc.heap[gb627]? = some (.cells #[.int .i64 t621, .string t622] 25 (0, 0))) ∧ Aside0 (wc.heap[gb630]? = some (.cells #[.int .i64 t628, .string t629] 25 (0, 0))) ∧ Aside0 (Below w.heap.size w wc))
 case first => as_aux_lemma =>
  have H := HC117.out
  clear HC117
  obtain ⟨t648, A118, H⟩ := zO H
  obtain ⟨t649, A119, H⟩ := zO H
  by_cases c120 : t649 = true
  ·subst c120
   replace H := (if_pos rfl).symm.trans H
   by_cases c121 : (t648 != ((t606.length : Int) == 0)) = true
   ·rw [if_pos c121] at H
    exact absurd H (laws_FnRule.j1_no _ _ _ _ _ _ _ _ _ _ _ _ _ _ _ _ _ hr_)
   rw [if_neg c121] at H
   have c121b0 : (t648 != ((t606.length : Int) == 0)) = false := by simpa using c121
   (try (have c121b1 : decide (t648 = ((t606.length : Int) == 0)) = true := by simpa using c121))
   (try (have c121b2 : (t648 == ((t606.length : Int) == 0)) = true := by simpa using c121))
   clear c121
   (first | rw [c121b0] | (simp only [i64_w, i32_w]; rw [c121b0]) | skip)
   obtain ⟨t650, A126, H⟩ := zO H
   by_cases c127 : t650 = true
   ·subst c127
    replace H := (if_pos rfl).symm.trans H
    obtain ⟨t651, A128, H⟩ := zO H
    have H' := Aside0.mk H; clear H
    try go_wp2
    replace HO_4 := Aside0.mk (Kd.R_drew HO_4.out)
    replace HO_17 := Aside0.mk (Kd.R_drew HO_17.out)
    replace BK605 := Aside0.mk (blk_drew BK605.out)
    replace BK612 := Aside0.mk (blk_drew BK612.out)
    replace BK616 := Aside0.mk (blk_drew BK616.out)
    replace BK620 := Aside0.mk (blk_drew BK620.out)
    replace BK627 := Aside0.mk (blk_drew BK627.out)
    replace BK630 := Aside0.mk (blk_drew BK630.out)
    replace HB := Aside0.mk (below_drew1 HB.out)
    refine start_ (n := 19) (S := fun w' => w'.cell? ⟨gb605, 0, none⟩ = some (.int .i64 t603) ∧ w'.cell? ⟨gb605, 1, none⟩ = some (.string t604)) (ds := []) #[false, false, false, false, false, false, false, false, false, false, false, false, false, false, false, false, false, false, false] (by kernel_rfl) rfl rfl ⟨(blk_cell BK605.out 0).trans rfl, (blk_cell BK605.out 1).trans rfl⟩ (fun hHeld => ?_); refine with_tabW laws_FnRule.tab13 laws_FnRule.bits13 (fun HT_ HW_ => ?_)
    generalize wc.drew = w129 at HO_4 HO_17 BK605 BK612 BK616 BK620 BK627 BK630 HB hHeld ⊢
    refine zY2 0 (some 108) rfl rfl hHeld ?_
    refine zY2 2 (some 110) rfl rfl hHeld ?_
    refine zU 1 (some 109) rfl rfl (fun K hK => ?_)
    refine goes_ Try.func21 (by kernel_rfl) rfl #[.agg #[.int .i64 t603, .string t604]] (by rfl) rfl rfl zM ?_
    with_reducible refine (impl_IsMatroid.calls t603 t604 t648 _ A118.out).mono ?_
    rintro e w130 ⟨rfl, hb⟩
    refine ⟨_, rfl, ?_⟩
    replace HO_4 := zW HO_4.out hb
    replace HO_17 := zW HO_17.out hb
    replace BK605 := zV BK605.out hb
    replace BK612 := zV BK612.out hb
    replace BK616 := zV BK616.out hb
    replace BK620 := zV BK620.out hb
    replace BK627 := zV BK627.out hb
    replace BK630 := zV BK630.out hb
    replace HB := Aside0.mk (below_step (zG6 GE605.out GE612.out GE616.out GE620.out GE627.out GE630.out) hb)
    (try clear hb)
    refine hK.out _ _ (zh2 BK605.out) (fun hHeld => ?_)
    clear hK K
    refine zN ?_
    refine zU 3 (some 111) rfl rfl (fun K hK => ?_)
    refine goes_ Try.func25 (by kernel_rfl) rfl #[.agg #[.int .i64 t603, .string t604]] (by rfl) rfl rfl zM ?_
    with_reducible refine (spec_AreSigns.calls kj11 t603 t604 true _ A119.out).mono ?_
    rintro e w131 ⟨rfl, hb⟩
    refine ⟨_, rfl, ?_⟩
    replace HO_4 := zW HO_4.out hb
    replace HO_17 := zW HO_17.out hb
    replace BK605 := zV BK605.out hb
    replace BK612 := zV BK612.out hb
    replace BK616 := zV BK616.out hb
    replace BK620 := zV BK620.out hb
    replace BK627 := zV BK627.out hb
    replace BK630 := zV BK630.out hb
    replace HB := Aside0.mk (below_step (zG6 GE605.out GE612.out GE616.out GE620.out GE627.out GE630.out) hb)
    (try clear hb)
    obtain ⟨Ao132, co132, eo132⟩ := Kd.R_slice HO_4.out
    (first | subst eo132 | (injection eo132 with f1_ f2_ f3_; have f4_ := f1_.symm; have f5_ := f3_.symm; clear f1_ f2_ f3_; subst f4_; subst f5_))
    refine hK.out _ _ (zh2 BK605.out) (fun hHeld => ?_)
    clear hK K
    refine zN ?_
    refine zP 4 (some 112) rfl rfl ?_
    refine zP 5 (some 113) rfl rfl ?_
    refine zP 6 (some 114) rfl rfl ?_
    refine zP 7 (some 115) rfl rfl ?_
    refine zP 8 (some 116) rfl rfl ?_
    refine zP 9 (some 117) rfl rfl ?_
    refine zP 10 (some 118) rfl rfl ?_
    refine zY2 11 (some 119) rfl rfl hHeld ?_
    refine zU 12 (some 120) rfl rfl (fun K hK => ?_)
    refine goes_ Try.func23 (by kernel_rfl) rfl #[.agg #[.int .i64 t603, .string t604]] (by rfl) rfl rfl zM ?_
    with_reducible refine (impl_IsAcyclic.calls kj11 t603 t604 true _ A126.out).mono ?_
    rintro e w133 ⟨rfl, hb⟩
    refine ⟨_, rfl, ?_⟩
    replace HO_4 := zW HO_4.out hb
    replace HO_17 := zW HO_17.out hb
    replace BK605 := zV BK605.out hb
    replace BK612 := zV BK612.out hb
    replace BK616 := zV BK616.out hb
    replace BK620 := zV BK620.out hb
    replace BK627 := zV BK627.out hb
    replace BK630 := zV BK630.out hb
    replace HB := Aside0.mk (below_step (zG6 GE605.out GE612.out GE616.out GE620.out GE627.out GE630.out) hb)
    (try clear hb)
    refine hK.out _ _ (zh2 BK605.out) (fun hHeld => ?_)
    clear hK K
    refine zN ?_
    refine zP 13 (some 121) rfl rfl ?_
    refine zY2 14 (some 122) rfl rfl hHeld ?_
    refine zU 15 (some 123) rfl rfl (fun K hK => ?_)
    refine goes_ Try.func21 (by kernel_rfl) rfl #[.agg #[.int .i64 t603, .string t604]] (by rfl) rfl rfl zM ?_
    with_reducible refine (impl_IsMatroid.calls t603 t604 t651 _ A128.out).mono ?_
    rintro e w134 ⟨rfl, hb⟩
    refine ⟨_, rfl, ?_⟩
    replace HO_4 := zW HO_4.out hb
    replace HO_17 := zW HO_17.out hb
    replace BK605 := zV BK605.out hb
    replace BK612 := zV BK612.out hb
    replace BK616 := zV BK616.out hb
    replace BK620 := zV BK620.out hb
    replace BK627 := zV BK627.out hb
    replace BK630 := zV BK630.out hb
    replace HB := Aside0.mk (below_step (zG6 GE605.out GE612.out GE616.out GE620.out GE627.out GE630.out) hb)
    (try clear hb)
    refine hK.out _ _ (zh2 BK605.out) (fun hHeld => ?_)
    clear hK K
    refine zN ?_
    refine zP 16 (some 124) rfl rfl ?_
    refine zP 17 (some 125) rfl rfl ?_
    refine zP 18 (some 126) rfl rfl ?_
    refine done_ (done_of HT_.out (by kernel_rfl)) ?_
    try go_wp2
    go_meet
    case rel => exact ⟨_, (!t651), zF, H', ⟨by have := HJ11.out; first | omega | exact Nat.le_refl _⟩, ⟨by (with_reducible repeat (first | apply Kd.R_alloc | apply Kd.R_drewN | apply Kd.R_drew)); exact Kd.R_mono HO_17.out (fun _ hk => trivial)⟩, ⟨zK BK605.out⟩, ⟨zK BK612.out⟩, ⟨zK BK616.out⟩, ⟨zK BK620.out⟩, ⟨zK BK627.out⟩, ⟨zK BK630.out⟩, ⟨zG6 GE605.out GE612.out GE616.out GE620.out GE627.out GE630.out⟩⟩
   replace c127 := Bool.eq_false_iff.mpr c127
   subst c127
   replace H := (if_neg zFf).symm.trans H
   have H' := Aside0.mk H; clear H
   try go_wp2
   replace HO_4 := Aside0.mk (Kd.R_drew HO_4.out)
   replace HO_17 := Aside0.mk (Kd.R_drew HO_17.out)
   replace BK605 := Aside0.mk (blk_drew BK605.out)
   replace BK612 := Aside0.mk (blk_drew BK612.out)
   replace BK616 := Aside0.mk (blk_drew BK616.out)
   replace BK620 := Aside0.mk (blk_drew BK620.out)
   replace BK627 := Aside0.mk (blk_drew BK627.out)
   replace BK630 := Aside0.mk (blk_drew BK630.out)
   replace HB := Aside0.mk (below_drew1 HB.out)
   refine start_ (n := 19) (S := fun w' => w'.cell? ⟨gb605, 0, none⟩ = some (.int .i64 t603) ∧ w'.cell? ⟨gb605, 1, none⟩ = some (.string t604)) (ds := []) #[false, false, false, false, false, false, false, false, false, false, false, false, false, false, false, false, false, false, false] (by kernel_rfl) rfl rfl ⟨(blk_cell BK605.out 0).trans rfl, (blk_cell BK605.out 1).trans rfl⟩ (fun hHeld => ?_); refine with_tabW laws_FnRule.tab13 laws_FnRule.bits13 (fun HT_ HW_ => ?_)
   generalize wc.drew = w135 at HO_4 HO_17 BK605 BK612 BK616 BK620 BK627 BK630 HB hHeld ⊢
   refine zY2 0 (some 108) rfl rfl hHeld ?_
   refine zY2 2 (some 110) rfl rfl hHeld ?_
   refine zU 1 (some 109) rfl rfl (fun K hK => ?_)
   refine goes_ Try.func21 (by kernel_rfl) rfl #[.agg #[.int .i64 t603, .string t604]] (by rfl) rfl rfl zM ?_
   with_reducible refine (impl_IsMatroid.calls t603 t604 t648 _ A118.out).mono ?_
   rintro e w136 ⟨rfl, hb⟩
   refine ⟨_, rfl, ?_⟩
   replace HO_4 := zW HO_4.out hb
   replace HO_17 := zW HO_17.out hb
   replace BK605 := zV BK605.out hb
   replace BK612 := zV BK612.out hb
   replace BK616 := zV BK616.out hb
   replace BK620 := zV BK620.out hb
   replace BK627 := zV BK627.out hb
   replace BK630 := zV BK630.out hb
   replace HB := Aside0.mk (below_step (zG6 GE605.out GE612.out GE616.out GE620.out GE627.out GE630.out) hb)
   (try clear hb)
   refine hK.out _ _ (zh2 BK605.out) (fun hHeld => ?_)
   clear hK K
   refine zN ?_
   refine zU 3 (some 111) rfl rfl (fun K hK => ?_)
   refine goes_ Try.func25 (by kernel_rfl) rfl #[.agg #[.int .i64 t603, .string t604]] (by rfl) rfl rfl zM ?_
   with_reducible refine (spec_AreSigns.calls kj11 t603 t604 true _ A119.out).mono ?_
   rintro e w137 ⟨rfl, hb⟩
   refine ⟨_, rfl, ?_⟩
   replace HO_4 := zW HO_4.out hb
   replace HO_17 := zW HO_17.out hb
   replace BK605 := zV BK605.out hb
   replace BK612 := zV BK612.out hb
   replace BK616 := zV BK616.out hb
   replace BK620 := zV BK620.out hb
   replace BK627 := zV BK627.out hb
   replace BK630 := zV BK630.out hb
   replace HB := Aside0.mk (below_step (zG6 GE605.out GE612.out GE616.out GE620.out GE627.out GE630.out) hb)
   (try clear hb)
   obtain ⟨Ao138, co138, eo138⟩ := Kd.R_slice HO_4.out
   (first | subst eo138 | (injection eo138 with f1_ f2_ f3_; have f4_ := f1_.symm; have f5_ := f3_.symm; clear f1_ f2_ f3_; subst f4_; subst f5_))
   refine hK.out _ _ (zh2 BK605.out) (fun hHeld => ?_)
   clear hK K
   refine zN ?_
   refine zP 4 (some 112) rfl rfl ?_
   refine zP 5 (some 113) rfl rfl ?_
   refine zP 6 (some 114) rfl rfl ?_
   refine zP 7 (some 115) rfl rfl ?_
   refine zP 8 (some 116) rfl rfl ?_
   refine zP 9 (some 117) rfl rfl ?_
   refine zP 10 (some 118) rfl rfl ?_
   refine zY2 11 (some 119) rfl rfl hHeld ?_
   refine zU 12 (some 120) rfl rfl (fun K hK => ?_)
   refine goes_ Try.func23 (by kernel_rfl) rfl #[.agg #[.int .i64 t603, .string t604]] (by rfl) rfl rfl zM ?_
   with_reducible refine (impl_IsAcyclic.calls kj11 t603 t604 false _ A126.out).mono ?_
   rintro e w139 ⟨rfl, hb⟩
   refine ⟨_, rfl, ?_⟩
   replace HO_4 := zW HO_4.out hb
   replace HO_17 := zW HO_17.out hb
   replace BK605 := zV BK605.out hb
   replace BK612 := zV BK612.out hb
   replace BK616 := zV BK616.out hb
   replace BK620 := zV BK620.out hb
   replace BK627 := zV BK627.out hb
   replace BK630 := zV BK630.out hb
   replace HB := Aside0.mk (below_step (zG6 GE605.out GE612.out GE616.out GE620.out GE627.out GE630.out) hb)
   (try clear hb)
   refine hK.out _ _ (zh2 BK605.out) (fun hHeld => ?_)
   clear hK K
   refine zN ?_
   refine zP 13 (some 121) rfl rfl ?_
   refine pure_ (i := 14) (N := some 122) (v := undef) (a' := ?_) #[true, true, true, true, true, true, true, true, true, true, true, true, true, true, true, false, false, false, false] rfl rfl (any_of HT_.out (by kernel_rfl)) (fun _ _ _ h => h) (Or.inr ⟨by rfl, rfl⟩) ?_ ?_
   rotate_left
   ·simp only [Act.put, List.setIfInBounds_toArray, List.set_cons_zero, List.set_cons_succ, i64_w, i32_w]
    rfl
   refine pure_ (i := 15) (N := some 123) (v := undef) (a' := ?_) #[true, true, true, true, true, true, true, true, true, true, true, true, true, true, true, true, false, false, false] rfl rfl (any_of HT_.out (by kernel_rfl)) (fun _ _ _ h => h) (Or.inr ⟨by rfl, rfl⟩) ?_ ?_
   rotate_left
   ·simp only [Act.put, List.setIfInBounds_toArray, List.set_cons_zero, List.set_cons_succ, i64_w, i32_w]
    rfl
   refine pure_ (i := 16) (N := some 124) (v := undef) (a' := ?_) #[true, true, true, true, true, true, true, true, true, true, true, true, true, true, true, true, true, false, false] rfl rfl (any_of HT_.out (by kernel_rfl)) (fun _ _ _ h => h) (Or.inr ⟨by rfl, rfl⟩) ?_ ?_
   rotate_left
   ·simp only [Act.put, List.setIfInBounds_toArray, List.set_cons_zero, List.set_cons_succ, i64_w, i32_w]
    rfl
   refine zP 17 (some 125) rfl rfl ?_
   refine zP 18 (some 126) rfl rfl ?_
   refine done_ (done_of HT_.out (by kernel_rfl)) ?_
   try go_wp2
   go_meet
   case rel => exact ⟨_, (false), zF, H', ⟨by have := HJ11.out; first | omega | exact Nat.le_refl _⟩, ⟨by (with_reducible repeat (first | apply Kd.R_alloc | apply Kd.R_drewN | apply Kd.R_drew)); exact Kd.R_mono HO_17.out (fun _ hk => trivial)⟩, ⟨zK BK605.out⟩, ⟨zK BK612.out⟩, ⟨zK BK616.out⟩, ⟨zK BK620.out⟩, ⟨zK BK627.out⟩, ⟨zK BK630.out⟩, ⟨zG6 GE605.out GE612.out GE616.out GE620.out GE627.out GE630.out⟩⟩
  replace c120 := Bool.eq_false_iff.mpr c120
  subst c120
  replace H := (if_neg zFf).symm.trans H
  by_cases c140 : (t648 != false) = true
  ·rw [if_pos c140] at H
   exact absurd H (laws_FnRule.j1_no _ _ _ _ _ _ _ _ _ _ _ _ _ _ _ _ _ hr_)
  rw [if_neg c140] at H
  have c140b0 : (t648 != false) = false := by simpa using c140
  (try (have c140b1 : decide (t648 = false) = true := by simpa using c140))
  (try (have c140b2 : (t648 == false) = true := by simpa using c140))
  clear c140
  obtain ⟨t652, A144, H⟩ := zO H
  by_cases c145 : t652 = true
  ·subst c145
   replace H := (if_pos rfl).symm.trans H
   obtain ⟨t653, A146, H⟩ := zO H
   have H' := Aside0.mk H; clear H
   try go_wp2
   replace HO_4 := Aside0.mk (Kd.R_drew HO_4.out)
   replace HO_17 := Aside0.mk (Kd.R_drew HO_17.out)
   replace BK605 := Aside0.mk (blk_drew BK605.out)
   replace BK612 := Aside0.mk (blk_drew BK612.out)
   replace BK616 := Aside0.mk (blk_drew BK616.out)
   replace BK620 := Aside0.mk (blk_drew BK620.out)
   replace BK627 := Aside0.mk (blk_drew BK627.out)
   replace BK630 := Aside0.mk (blk_drew BK630.out)
   replace HB := Aside0.mk (below_drew1 HB.out)
   refine start_ (n := 19) (S := fun w' => w'.cell? ⟨gb605, 0, none⟩ = some (.int .i64 t603) ∧ w'.cell? ⟨gb605, 1, none⟩ = some (.string t604)) (ds := []) #[false, false, false, false, false, false, false, false, false, false, false, false, false, false, false, false, false, false, false] (by kernel_rfl) rfl rfl ⟨(blk_cell BK605.out 0).trans rfl, (blk_cell BK605.out 1).trans rfl⟩ (fun hHeld => ?_); refine with_tabW laws_FnRule.tab13 laws_FnRule.bits13 (fun HT_ HW_ => ?_)
   generalize wc.drew = w147 at HO_4 HO_17 BK605 BK612 BK616 BK620 BK627 BK630 HB hHeld ⊢
   refine zY2 0 (some 108) rfl rfl hHeld ?_
   refine zY2 2 (some 110) rfl rfl hHeld ?_
   refine zU 1 (some 109) rfl rfl (fun K hK => ?_)
   refine goes_ Try.func21 (by kernel_rfl) rfl #[.agg #[.int .i64 t603, .string t604]] (by rfl) rfl rfl zM ?_
   with_reducible refine (impl_IsMatroid.calls t603 t604 t648 _ A118.out).mono ?_
   rintro e w148 ⟨rfl, hb⟩
   refine ⟨_, rfl, ?_⟩
   replace HO_4 := zW HO_4.out hb
   replace HO_17 := zW HO_17.out hb
   replace BK605 := zV BK605.out hb
   replace BK612 := zV BK612.out hb
   replace BK616 := zV BK616.out hb
   replace BK620 := zV BK620.out hb
   replace BK627 := zV BK627.out hb
   replace BK630 := zV BK630.out hb
   replace HB := Aside0.mk (below_step (zG6 GE605.out GE612.out GE616.out GE620.out GE627.out GE630.out) hb)
   (try clear hb)
   refine hK.out _ _ (zh2 BK605.out) (fun hHeld => ?_)
   clear hK K
   refine zN ?_
   refine zU 3 (some 111) rfl rfl (fun K hK => ?_)
   refine goes_ Try.func25 (by kernel_rfl) rfl #[.agg #[.int .i64 t603, .string t604]] (by rfl) rfl rfl zM ?_
   with_reducible refine (spec_AreSigns.calls kj11 t603 t604 false _ A119.out).mono ?_
   rintro e w149 ⟨rfl, hb⟩
   refine ⟨_, rfl, ?_⟩
   replace HO_4 := zW HO_4.out hb
   replace HO_17 := zW HO_17.out hb
   replace BK605 := zV BK605.out hb
   replace BK612 := zV BK612.out hb
   replace BK616 := zV BK616.out hb
   replace BK620 := zV BK620.out hb
   replace BK627 := zV BK627.out hb
   replace BK630 := zV BK630.out hb
   replace HB := Aside0.mk (below_step (zG6 GE605.out GE612.out GE616.out GE620.out GE627.out GE630.out) hb)
   (try clear hb)
   refine hK.out _ _ (zh2 BK605.out) (fun hHeld => ?_)
   clear hK K
   refine zN ?_
   refine zP 4 (some 112) rfl rfl ?_
   refine pure_ (i := 5) (N := some 113) (v := undef) (a' := ?_) #[true, true, true, true, true, true, false, false, false, false, false, false, false, false, false, false, false, false, false] rfl rfl (any_of HT_.out (by kernel_rfl)) (fun _ _ _ h => h) (Or.inr ⟨by rfl, rfl⟩) ?_ ?_
   rotate_left
   ·simp only [Act.put, List.setIfInBounds_toArray, List.set_cons_zero, List.set_cons_succ, i64_w, i32_w]
    rfl
   refine pure_ (i := 6) (N := some 114) (v := undef) (a' := ?_) #[true, true, true, true, true, true, true, false, false, false, false, false, false, false, false, false, false, false, false] rfl rfl (any_of HT_.out (by kernel_rfl)) (fun _ _ _ h => h) (Or.inr ⟨by rfl, rfl⟩) ?_ ?_
   rotate_left
   ·simp only [Act.put, List.setIfInBounds_toArray, List.set_cons_zero, List.set_cons_succ, i64_w, i32_w]
    rfl
   refine pure_ (i := 7) (N := some 115) (v := undef) (a' := ?_) #[true, true, true, true, true, true, true, true, false, false, false, false, false, false, false, false, false, false, false] rfl rfl (any_of HT_.out (by kernel_rfl)) (fun _ _ _ h => h) (Or.inr ⟨by rfl, rfl⟩) ?_ ?_
   rotate_left
   ·simp only [Act.put, List.setIfInBounds_toArray, List.set_cons_zero, List.set_cons_succ, i64_w, i32_w]
    rfl
   refine zP 8 (some 116) rfl rfl ?_
   refine zP 9 (some 117) rfl rfl ?_
   refine zP 10 (some 118) rfl rfl ?_
   refine zY2 11 (some 119) rfl rfl hHeld ?_
   refine zU 12 (some 120) rfl rfl (fun K hK => ?_)
   refine goes_ Try.func23 (by kernel_rfl) rfl #[.agg #[.int .i64 t603, .string t604]] (by rfl) rfl rfl zM ?_
   with_reducible refine (impl_IsAcyclic.calls kj11 t603 t604 true _ A144.out).mono ?_
   rintro e w150 ⟨rfl, hb⟩
   refine ⟨_, rfl, ?_⟩
   replace HO_4 := zW HO_4.out hb
   replace HO_17 := zW HO_17.out hb
   replace BK605 := zV BK605.out hb
   replace BK612 := zV BK612.out hb
   replace BK616 := zV BK616.out hb
   replace BK620 := zV BK620.out hb
   replace BK627 := zV BK627.out hb
   replace BK630 := zV BK630.out hb
   replace HB := Aside0.mk (below_step (zG6 GE605.out GE612.out GE616.out GE620.out GE627.out GE630.out) hb)
   (try clear hb)
   refine hK.out _ _ (zh2 BK605.out) (fun hHeld => ?_)
   clear hK K
   refine zN ?_
   refine zP 13 (some 121) rfl rfl ?_
   refine zY2 14 (some 122) rfl rfl hHeld ?_
   refine zU 15 (some 123) rfl rfl (fun K hK => ?_)
   refine goes_ Try.func21 (by kernel_rfl) rfl #[.agg #[.int .i64 t603, .string t604]] (by rfl) rfl rfl zM ?_
   with_reducible refine (impl_IsMatroid.calls t603 t604 t653 _ A146.out).mono ?_
   rintro e w151 ⟨rfl, hb⟩
   refine ⟨_, rfl, ?_⟩
   replace HO_4 := zW HO_4.out hb
   replace HO_17 := zW HO_17.out hb
   replace BK605 := zV BK605.out hb
   replace BK612 := zV BK612.out hb
   replace BK616 := zV BK616.out hb
   replace BK620 := zV BK620.out hb
   replace BK627 := zV BK627.out hb
   replace BK630 := zV BK630.out hb
   replace HB := Aside0.mk (below_step (zG6 GE605.out GE612.out GE616.out GE620.out GE627.out GE630.out) hb)
   (try clear hb)
   refine hK.out _ _ (zh2 BK605.out) (fun hHeld => ?_)
   clear hK K
   refine zN ?_
   refine zP 16 (some 124) rfl rfl ?_
   refine zP 17 (some 125) rfl rfl ?_
   refine zP 18 (some 126) rfl rfl ?_
   refine done_ (done_of HT_.out (by kernel_rfl)) ?_
   try go_wp2
   go_meet
   case rel => exact ⟨_, (!t653), zF, H', ⟨by have := HJ11.out; first | omega | exact Nat.le_refl _⟩, ⟨by (with_reducible repeat (first | apply Kd.R_alloc | apply Kd.R_drewN | apply Kd.R_drew)); exact Kd.R_mono HO_17.out (fun _ hk => trivial)⟩, ⟨zK BK605.out⟩, ⟨zK BK612.out⟩, ⟨zK BK616.out⟩, ⟨zK BK620.out⟩, ⟨zK BK627.out⟩, ⟨zK BK630.out⟩, ⟨zG6 GE605.out GE612.out GE616.out GE620.out GE627.out GE630.out⟩⟩
  replace c145 := Bool.eq_false_iff.mpr c145
  subst c145
  replace H := (if_neg zFf).symm.trans H
  have H' := Aside0.mk H; clear H
  try go_wp2
  replace HO_4 := Aside0.mk (Kd.R_drew HO_4.out)
  replace HO_17 := Aside0.mk (Kd.R_drew HO_17.out)
  replace BK605 := Aside0.mk (blk_drew BK605.out)
  replace BK612 := Aside0.mk (blk_drew BK612.out)
  replace BK616 := Aside0.mk (blk_drew BK616.out)
  replace BK620 := Aside0.mk (blk_drew BK620.out)
  replace BK627 := Aside0.mk (blk_drew BK627.out)
  replace BK630 := Aside0.mk (blk_drew BK630.out)
  replace HB := Aside0.mk (below_drew1 HB.out)
  refine start_ (n := 19) (S := fun w' => w'.cell? ⟨gb605, 0, none⟩ = some (.int .i64 t603) ∧ w'.cell? ⟨gb605, 1, none⟩ = some (.string t604)) (ds := []) #[false, false, false, false, false, false, false, false, false, false, false, false, false, false, false, false, false, false, false] (by kernel_rfl) rfl rfl ⟨(blk_cell BK605.out 0).trans rfl, (blk_cell BK605.out 1).trans rfl⟩ (fun hHeld => ?_); refine with_tabW laws_FnRule.tab13 laws_FnRule.bits13 (fun HT_ HW_ => ?_)
  generalize wc.drew = w152 at HO_4 HO_17 BK605 BK612 BK616 BK620 BK627 BK630 HB hHeld ⊢
  refine zY2 0 (some 108) rfl rfl hHeld ?_
  refine zY2 2 (some 110) rfl rfl hHeld ?_
  refine zU 1 (some 109) rfl rfl (fun K hK => ?_)
  refine goes_ Try.func21 (by kernel_rfl) rfl #[.agg #[.int .i64 t603, .string t604]] (by rfl) rfl rfl zM ?_
  with_reducible refine (impl_IsMatroid.calls t603 t604 t648 _ A118.out).mono ?_
  rintro e w153 ⟨rfl, hb⟩
  refine ⟨_, rfl, ?_⟩
  replace HO_4 := zW HO_4.out hb
  replace HO_17 := zW HO_17.out hb
  replace BK605 := zV BK605.out hb
  replace BK612 := zV BK612.out hb
  replace BK616 := zV BK616.out hb
  replace BK620 := zV BK620.out hb
  replace BK627 := zV BK627.out hb
  replace BK630 := zV BK630.out hb
  replace HB := Aside0.mk (below_step (zG6 GE605.out GE612.out GE616.out GE620.out GE627.out GE630.out) hb)
  (try clear hb)
  refine hK.out _ _ (zh2 BK605.out) (fun hHeld => ?_)
  clear hK K
  refine zN ?_
  refine zU 3 (some 111) rfl rfl (fun K hK => ?_)
  refine goes_ Try.func25 (by kernel_rfl) rfl #[.agg #[.int .i64 t603, .string t604]] (by rfl) rfl rfl zM ?_
  with_reducible refine (spec_AreSigns.calls kj11 t603 t604 false _ A119.out).mono ?_
  rintro e w154 ⟨rfl, hb⟩
  refine ⟨_, rfl, ?_⟩
  replace HO_4 := zW HO_4.out hb
  replace HO_17 := zW HO_17.out hb
  replace BK605 := zV BK605.out hb
  replace BK612 := zV BK612.out hb
  replace BK616 := zV BK616.out hb
  replace BK620 := zV BK620.out hb
  replace BK627 := zV BK627.out hb
  replace BK630 := zV BK630.out hb
  replace HB := Aside0.mk (below_step (zG6 GE605.out GE612.out GE616.out GE620.out GE627.out GE630.out) hb)
  (try clear hb)
  refine hK.out _ _ (zh2 BK605.out) (fun hHeld => ?_)
  clear hK K
  refine zN ?_
  refine zP 4 (some 112) rfl rfl ?_
  refine pure_ (i := 5) (N := some 113) (v := undef) (a' := ?_) #[true, true, true, true, true, true, false, false, false, false, false, false, false, false, false, false, false, false, false] rfl rfl (any_of HT_.out (by kernel_rfl)) (fun _ _ _ h => h) (Or.inr ⟨by rfl, rfl⟩) ?_ ?_
  rotate_left
  ·simp only [Act.put, List.setIfInBounds_toArray, List.set_cons_zero, List.set_cons_succ, i64_w, i32_w]
   rfl
  refine pure_ (i := 6) (N := some 114) (v := undef) (a' := ?_) #[true, true, true, true, true, true, true, false, false, false, false, false, false, false, false, false, false, false, false] rfl rfl (any_of HT_.out (by kernel_rfl)) (fun _ _ _ h => h) (Or.inr ⟨by rfl, rfl⟩) ?_ ?_
  rotate_left
  ·simp only [Act.put, List.setIfInBounds_toArray, List.set_cons_zero, List.set_cons_succ, i64_w, i32_w]
   rfl
  refine pure_ (i := 7) (N := some 115) (v := undef) (a' := ?_) #[true, true, true, true, true, true, true, true, false, false, false, false, false, false, false, false, false, false, false] rfl rfl (any_of HT_.out (by kernel_rfl)) (fun _ _ _ h => h) (Or.inr ⟨by rfl, rfl⟩) ?_ ?_
  rotate_left
  ·simp only [Act.put, List.setIfInBounds_toArray, List.set_cons_zero, List.set_cons_succ, i64_w, i32_w]
   rfl
  refine zP 8 (some 116) rfl rfl ?_
  refine zP 9 (some 117) rfl rfl ?_
  refine zP 10 (some 118) rfl rfl ?_
  refine zY2 11 (some 119) rfl rfl hHeld ?_
  refine zU 12 (some 120) rfl rfl (fun K hK => ?_)
  refine goes_ Try.func23 (by kernel_rfl) rfl #[.agg #[.int .i64 t603, .string t604]] (by rfl) rfl rfl zM ?_
  with_reducible refine (impl_IsAcyclic.calls kj11 t603 t604 false _ A144.out).mono ?_
  rintro e w155 ⟨rfl, hb⟩
  refine ⟨_, rfl, ?_⟩
  replace HO_4 := zW HO_4.out hb
  replace HO_17 := zW HO_17.out hb
  replace BK605 := zV BK605.out hb
  replace BK612 := zV BK612.out hb
  replace BK616 := zV BK616.out hb
  replace BK620 := zV BK620.out hb
  replace BK627 := zV BK627.out hb
  replace BK630 := zV BK630.out hb
  replace HB := Aside0.mk (below_step (zG6 GE605.out GE612.out GE616.out GE620.out GE627.out GE630.out) hb)
  (try clear hb)
  refine hK.out _ _ (zh2 BK605.out) (fun hHeld => ?_)
  clear hK K
  refine zN ?_
  refine zP 13 (some 121) rfl rfl ?_
  refine pure_ (i := 14) (N := some 122) (v := undef) (a' := ?_) #[true, true, true, true, true, true, true, true, true, true, true, true, true, true, true, false, false, false, false] rfl rfl (any_of HT_.out (by kernel_rfl)) (fun _ _ _ h => h) (Or.inr ⟨by rfl, rfl⟩) ?_ ?_
  rotate_left
  ·simp only [Act.put, List.setIfInBounds_toArray, List.set_cons_zero, List.set_cons_succ, i64_w, i32_w]
   rfl
  refine pure_ (i := 15) (N := some 123) (v := undef) (a' := ?_) #[true, true, true, true, true, true, true, true, true, true, true, true, true, true, true, true, false, false, false] rfl rfl (any_of HT_.out (by kernel_rfl)) (fun _ _ _ h => h) (Or.inr ⟨by rfl, rfl⟩) ?_ ?_
  rotate_left
  ·simp only [Act.put, List.setIfInBounds_toArray, List.set_cons_zero, List.set_cons_succ, i64_w, i32_w]
   rfl
  refine pure_ (i := 16) (N := some 124) (v := undef) (a' := ?_) #[true, true, true, true, true, true, true, true, true, true, true, true, true, true, true, true, true, false, false] rfl rfl (any_of HT_.out (by kernel_rfl)) (fun _ _ _ h => h) (Or.inr ⟨by rfl, rfl⟩) ?_ ?_
  rotate_left
  ·simp only [Act.put, List.setIfInBounds_toArray, List.set_cons_zero, List.set_cons_succ, i64_w, i32_w]
   rfl
  refine zP 17 (some 125) rfl rfl ?_
  refine zP 18 (some 126) rfl rfl ?_
  refine done_ (done_of HT_.out (by kernel_rfl)) ?_
  try go_wp2
  go_meet
  case rel => exact ⟨_, (false), zF, H', ⟨by have := HJ11.out; first | omega | exact Nat.le_refl _⟩, ⟨by (with_reducible repeat (first | apply Kd.R_alloc | apply Kd.R_drewN | apply Kd.R_drew)); exact Kd.R_mono HO_17.out (fun _ hk => trivial)⟩, ⟨zK BK605.out⟩, ⟨zK BK612.out⟩, ⟨zK BK616.out⟩, ⟨zK BK620.out⟩, ⟨zK BK627.out⟩, ⟨zK BK630.out⟩, ⟨zG6 GE605.out GE612.out GE616.out GE620.out GE627.out GE630.out⟩⟩
 case rest => as_aux_lemma =>
 clear HC117
 obtain ⟨kq, x126_116, rfl, HA, HJ116, HO_17, BK605, BK612, BK616, BK620, BK627, BK630, HB⟩ := hcut
 cases kq with
 | zero => exact absurd HA.out (by simp [laws_FnRule.j1])
 | succ kj116 =>
 have H := HA.out
 clear HA
 simp only [laws_FnRule.j1] at H
 by_cases c156 : x126_116 = true
 ·subst c156
  replace H := (if_pos rfl).symm.trans H
  obtain rfl := Option.some.inj H
  cases hr_
 replace c156 := Bool.eq_false_iff.mpr c156
 subst c156
 replace H := (if_neg zFf).symm.trans H
 have HC157 := Aside0.mk H
 clear H
 go_upto_region 15 with (fail)
 go_cut [134] (fun v134 wc => ∃ (kq : Nat) (x134_156 : Bool), v134 = .bool x134_156 ∧ Aside0 (laws_FnRule.j2 kq l0 t623 t624 t625 t626 t631 x134_156 t621 t622 t628 t629 = some r) ∧ Aside0 (kq ≤ kj116) ∧ Aside0 (Kd.R (Kd.int .i64) 3 wc w.heap.size (fun _ => True) v632 t631) ∧ Aside0 (wc.heap[gb605]? = some (.cells #[.int .i64 t603, .string t604] 25 (0, 0))) ∧ Aside0 (wc.heap[gb612]? = some (.cells #[.int .i64 t609, .string t610] 25 (0, 0))) ∧ Aside0 (wc.heap[gb616]? = some (.cells #[.int .i64 t613, .string t614] 25 (0, 0))) ∧ Aside0 (wc.heap[gb620]? = some (.cells #[.int .i64 t617, .string t618] 25 (0, 0))) ∧ Aside0 (wc.heap[gb627]? = some (.cells #[.int .i64 t621, .string t622] 25 (0, 0))) ∧ Aside0 (wc.heap[gb630]? = some (.cells #[.int .i64 t628, .string t629] 25 (0, 0))) ∧ Aside0 (Below w.heap.size w wc))
 case first => as_aux_lemma =>
  have H := HC157.out
  clear HC157
  by_cases c158 : t615 = true
  ·subst c158
   replace H := (if_pos rfl).symm.trans H
   obtain ⟨t654, A159, H⟩ := zO H
   obtain ⟨t655, A160, H⟩ := zO H
   have H' := Aside0.mk H; clear H
   try go_wp2
   replace HO_17 := Aside0.mk (Kd.R_drew HO_17.out)
   replace BK605 := Aside0.mk (blk_drew BK605.out)
   replace BK612 := Aside0.mk (blk_drew BK612.out)
   replace BK616 := Aside0.mk (blk_drew BK616.out)
   replace BK620 := Aside0.mk (blk_drew BK620.out)
   replace BK627 := Aside0.mk (blk_drew BK627.out)
   replace BK630 := Aside0.mk (blk_drew BK630.out)
   replace HB := Aside0.mk (below_drew1 HB.out)
   refine start_ (n := 8) (S := fun w' => w'.cell? ⟨gb616, 0, none⟩ = some (.int .i64 t613) ∧ w'.cell? ⟨gb616, 1, none⟩ = some (.string t614) ∧ w'.cell? ⟨gb612, 0, none⟩ = some (.int .i64 t609) ∧ w'.cell? ⟨gb612, 1, none⟩ = some (.string t610)) (ds := []) #[false, false, false, false, false, false, false, false] (by kernel_rfl) rfl rfl ⟨(blk_cell BK616.out 0).trans rfl, (blk_cell BK616.out 1).trans rfl, (blk_cell BK612.out 0).trans rfl, (blk_cell BK612.out 1).trans rfl⟩ (fun hHeld => ?_); refine with_tabW laws_FnRule.tab15 laws_FnRule.bits15 (fun HT_ HW_ => ?_)
   generalize wc.drew = w161 at HO_17 BK605 BK612 BK616 BK620 BK627 BK630 HB hHeld ⊢
   refine zP 0 (some 127) rfl rfl ?_
   refine zP 1 (some 128) rfl rfl ?_
   refine zY4 2 (some 129) rfl rfl hHeld ?_
   refine zY4 4 (some 131) rfl rfl hHeld ?_
   refine zU 3 (some 130) rfl rfl (fun K hK => ?_)
   refine goes_ Try.func21 (by kernel_rfl) rfl #[.agg #[.int .i64 t613, .string t614]] (by rfl) rfl rfl zM ?_
   with_reducible refine (impl_IsMatroid.calls t613 t614 t654 _ A159.out).mono ?_
   rintro e w162 ⟨rfl, hb⟩
   refine ⟨_, rfl, ?_⟩
   replace HO_17 := zW HO_17.out hb
   replace BK605 := zV BK605.out hb
   replace BK612 := zV BK612.out hb
   replace BK616 := zV BK616.out hb
   replace BK620 := zV BK620.out hb
   replace BK627 := zV BK627.out hb
   replace BK630 := zV BK630.out hb
   replace HB := Aside0.mk (below_step (zG6 GE605.out GE612.out GE616.out GE620.out GE627.out GE630.out) hb)
   (try clear hb)
   refine hK.out _ _ (zh BK616.out (zh2 BK612.out)) (fun hHeld => ?_)
   clear hK K
   refine zN ?_
   refine zU 5 (some 132) rfl rfl (fun K hK => ?_)
   refine goes_ Try.func21 (by kernel_rfl) rfl #[.agg #[.int .i64 t609, .string t610]] (by rfl) rfl rfl zM ?_
   with_reducible refine (impl_IsMatroid.calls t609 t610 t655 _ A160.out).mono ?_
   rintro e w163 ⟨rfl, hb⟩
   refine ⟨_, rfl, ?_⟩
   replace HO_17 := zW HO_17.out hb
   replace BK605 := zV BK605.out hb
   replace BK612 := zV BK612.out hb
   replace BK616 := zV BK616.out hb
   replace BK620 := zV BK620.out hb
   replace BK627 := zV BK627.out hb
   replace BK630 := zV BK630.out hb
   replace HB := Aside0.mk (below_step (zG6 GE605.out GE612.out GE616.out GE620.out GE627.out GE630.out) hb)
   (try clear hb)
   refine hK.out _ _ (zh BK616.out (zh2 BK612.out)) (fun hHeld => ?_)
   clear hK K
   refine zN ?_
   refine zP 6 (some 133) rfl rfl ?_
   refine zP 7 (some 134) rfl rfl ?_
   refine done_ (done_of HT_.out (by kernel_rfl)) ?_
   try go_wp2
   go_meet
   case rel => exact ⟨_, ((t654 != t655)), zF, H', ⟨by have := HJ11.out; have := HJ116.out; first | omega | exact Nat.le_refl _⟩, ⟨zR HO_17.out⟩, ⟨zK BK605.out⟩, ⟨zK BK612.out⟩, ⟨zK BK616.out⟩, ⟨zK BK620.out⟩, ⟨zK BK627.out⟩, ⟨zK BK630.out⟩, ⟨zG6 GE605.out GE612.out GE616.out GE620.out GE627.out GE630.out⟩⟩
  replace c158 := Bool.eq_false_iff.mpr c158
  subst c158
  replace H := (if_neg zFf).symm.trans H
  have H' := Aside0.mk H; clear H
  try go_wp2
  replace HO_17 := Aside0.mk (Kd.R_drew HO_17.out)
  replace BK605 := Aside0.mk (blk_drew BK605.out)
  replace BK612 := Aside0.mk (blk_drew BK612.out)
  replace BK616 := Aside0.mk (blk_drew BK616.out)
  replace BK620 := Aside0.mk (blk_drew BK620.out)
  replace BK627 := Aside0.mk (blk_drew BK627.out)
  replace BK630 := Aside0.mk (blk_drew BK630.out)
  replace HB := Aside0.mk (below_drew1 HB.out)
  refine start_ (n := 8) (S := fun w' => True) (ds := []) #[false, false, false, false, false, false, false, false] (by kernel_rfl) rfl rfl trivial (fun hHeld => ?_); refine with_tabW laws_FnRule.tab15 laws_FnRule.bits15 (fun HT_ HW_ => ?_)
  generalize wc.drew = w164 at HO_17 BK605 BK612 BK616 BK620 BK627 BK630 HB hHeld ⊢
  refine zP 0 (some 127) rfl rfl ?_
  refine zP 1 (some 128) rfl rfl ?_
  refine pure_ (i := 2) (N := some 129) (v := undef) (a' := ?_) #[true, true, true, false, false, false, false, false] rfl rfl (any_of HT_.out (by kernel_rfl)) (fun _ _ _ h => h) (Or.inr ⟨by rfl, rfl⟩) ?_ ?_
  rotate_left
  ·simp only [Act.put, List.setIfInBounds_toArray, List.set_cons_zero, List.set_cons_succ, i64_w, i32_w]
   rfl
  refine pure_ (i := 3) (N := some 130) (v := undef) (a' := ?_) #[true, true, true, true, false, false, false, false] rfl rfl (any_of HT_.out (by kernel_rfl)) (fun _ _ _ h => h) (Or.inr ⟨by rfl, rfl⟩) ?_ ?_
  rotate_left
  ·simp only [Act.put, List.setIfInBounds_toArray, List.set_cons_zero, List.set_cons_succ, i64_w, i32_w]
   rfl
  refine pure_ (i := 4) (N := some 131) (v := undef) (a' := ?_) #[true, true, true, true, true, false, false, false] rfl rfl (any_of HT_.out (by kernel_rfl)) (fun _ _ _ h => h) (Or.inr ⟨by rfl, rfl⟩) ?_ ?_
  rotate_left
  ·simp only [Act.put, List.setIfInBounds_toArray, List.set_cons_zero, List.set_cons_succ, i64_w, i32_w]
   rfl
  refine pure_ (i := 5) (N := some 132) (v := undef) (a' := ?_) #[true, true, true, true, true, true, false, false] rfl rfl (any_of HT_.out (by kernel_rfl)) (fun _ _ _ h => h) (Or.inr ⟨by rfl, rfl⟩) ?_ ?_
  rotate_left
  ·simp only [Act.put, List.setIfInBounds_toArray, List.set_cons_zero, List.set_cons_succ, i64_w, i32_w]
   rfl
  refine pure_ (i := 6) (N := some 133) (v := undef) (a' := ?_) #[true, true, true, true, true, true, true, false] rfl rfl (any_of HT_.out (by kernel_rfl)) (fun _ _ _ h => h) (Or.inr ⟨by rfl, rfl⟩) ?_ ?_
  rotate_left
  ·simp only [Act.put, List.setIfInBounds_toArray, List.set_cons_zero, List.set_cons_succ, i64_w, i32_w]
   rfl
  refine zP 7 (some 134) rfl rfl ?_
  refine done_ (done_of HT_.out (by kernel_rfl)) ?_
  try go_wp2
  go_meet
  case rel => exact ⟨_, (false), zF, H', ⟨by have := HJ11.out; have := HJ116.out; first | omega | exact Nat.le_refl _⟩, ⟨zR HO_17.out⟩, ⟨zK BK605.out⟩, ⟨zK BK612.out⟩, ⟨zK BK616.out⟩, ⟨zK BK620.out⟩, ⟨zK BK627.out⟩, ⟨zK BK630.out⟩, ⟨zG6 GE605.out GE612.out GE616.out GE620.out GE627.out GE630.out⟩⟩
 case rest => as_aux_lemma =>
 clear HC157
 try clear c156
 obtain ⟨kq, x134_156, rfl, HA, HJ156, HO_17, BK605, BK612, BK616, BK620, BK627, BK630, HB⟩ := hcut
 cases kq with
 | zero => exact absurd HA.out (by simp [laws_FnRule.j2])
 | succ kj156 =>
 have H := HA.out
 clear HA
 simp only [laws_FnRule.j2] at H
 by_cases c165 : x134_156 = true
 ·subst c165
  replace H := (if_pos rfl).symm.trans H
  obtain rfl := Option.some.inj H
  cases hr_
 replace c165 := Bool.eq_false_iff.mpr c165
 subst c165
 replace H := (if_neg zFf).symm.trans H
 obtain ⟨t656, A166, H⟩ := zO H
 obtain ⟨⟨t659, t660, t661⟩, A167, H⟩ := zO H
 dsimp only at H
 have HC168 := Aside0.mk H
 clear H
 go_upto_region 19 with (first | ((with_reducible refine gate_callee (f := 26) rfl ?_); refine zD (some 136) Try.func26 #[.slice A0 l0.length c0] ?_; (with_reducible refine (spec_DrawSignsOf.calls kj156 _ _ l0 t656 _ ?side1 ?side2 A166.out).mono ?_); (case side1 => repeat (first | exact (Kd.C_below HR0.out HB.out) | (with_reducible refine Kd.C_alloc ?_ _) | (with_reducible refine Kd.C_drewN ?_ _) | (with_reducible refine Kd.C_drew ?_))); (case side2 => exact HC0.out); rintro e w169 ⟨v657, rfl, ho0, hb⟩; refine ⟨_, rfl, ?_⟩; replace HO_17 := zW HO_17.out hb; have HO658 := Aside0.mk (Kd.R_lower ho0 (below_size (zG6 GE605.out GE612.out GE616.out GE620.out GE627.out GE630.out))); replace BK605 := zV BK605.out hb; replace BK612 := zV BK612.out hb; replace BK616 := zV BK616.out hb; replace BK620 := zV BK620.out hb; replace BK627 := zV BK627.out hb; replace BK630 := zV BK630.out hb; replace HB := Aside0.mk (below_step (zG6 GE605.out GE612.out GE616.out GE620.out GE627.out GE630.out) hb); (try clear hb); (try clear ho0); obtain ⟨Ao170, co170, eo170⟩ := Kd.R_slice HO658.out; subst eo170) | ((with_reducible refine gate_callee (f := 27) rfl ?_); refine zD (some 139) Try.func27 #[.slice Ao170 t656.length co170] ?_; (with_reducible refine (spec_SignsOf.calls kj156 _ _ t656 t659 t660 t661 _ ?side1 ?side2 A167.out).mono ?_); (case side1 => repeat (first | exact (Kd.R_reads' HO658.out).2.2 | (with_reducible refine Kd.C_alloc ?_ _) | (with_reducible refine Kd.C_drewN ?_ _) | (with_reducible refine Kd.C_drew ?_))); (case side2 => exact (Kd.R_reads' HO658.out).2.1); rintro e w171 ⟨rfl, hb⟩; refine ⟨_, rfl, ?_⟩; replace HO_17 := zW HO_17.out hb; replace HO658 := zW HO658.out hb; replace BK605 := zV BK605.out hb; replace BK612 := zV BK612.out hb; replace BK616 := zV BK616.out hb; replace BK620 := zV BK620.out hb; replace BK627 := zV BK627.out hb; replace BK630 := zV BK630.out hb; replace HB := Aside0.mk (below_step (zG6 GE605.out GE612.out GE616.out GE620.out GE627.out GE630.out) hb); (try clear hb)) | ((with_reducible refine gate_dst (N := 19) rfl ?_); (try (refine gate_guard (by rfl) ?_; dsimp only)); refine zBx (N := 19) #[.int .i64 0, .string (⟨#[]⟩ : ByteArray)] 25 ?_; intro gb662 hg w172 hbox hb; replace HO_17 := zW HO_17.out hb; replace HO658 := zW HO658.out hb; have BK662 := Aside0.mk (hbox); have GW662 := zSg hg (zG6 GE605.out GE612.out GE616.out GE620.out GE627.out GE630.out); have GE662 := zSg hg (zG6 GE605.out GE612.out GE616.out GE620.out GE627.out GE630.out); have NB605_662 := zL hg BK605.out; have NB662_605 := zLg hg BK605.out; replace BK605 := zV BK605.out hb; have NB612_662 := zL hg BK612.out; have NB662_612 := zLg hg BK612.out; replace BK612 := zV BK612.out hb; have NB616_662 := zL hg BK616.out; have NB662_616 := zLg hg BK616.out; replace BK616 := zV BK616.out hb; have NB620_662 := zL hg BK620.out; have NB662_620 := zLg hg BK620.out; replace BK620 := zV BK620.out hb; have NB627_662 := zL hg BK627.out; have NB662_627 := zLg hg BK627.out; replace BK627 := zV BK627.out hb; have NB630_662 := zL hg BK630.out; have NB662_630 := zLg hg BK630.out; replace BK630 := zV BK630.out hb; replace HB := Aside0.mk (below_step (zG6 GE605.out GE612.out GE616.out GE620.out GE627.out GE630.out) hb); clear hb hbox hg; have hnb173 := NB662_605.out; have hnc173 := NB605_662.out; have hnb174 := NB662_612.out; have hnc174 := NB612_662.out; have hnb175 := NB662_616.out; have hnc175 := NB616_662.out; have hnb176 := NB662_620.out; have hnc176 := NB620_662.out; have hnb177 := NB662_627.out; have hnc177 := NB627_662.out; have hnb178 := NB662_630.out; have hnc178 := NB630_662.out; obtain ⟨hcz179_0, hcz179_1, hfz179_0, hfz179_1⟩ := zq2 BK662.out))
 (try simp only [Act.put, List.setIfInBounds_toArray, List.set_cons_zero, List.set_cons_succ])
 go_cut [147] (fun v147 wc => ∃ (kq : Nat) (x147_167 : Bool), v147 = .bool x147_167 ∧ Aside0 (laws_FnRule.j3 kq t623 t624 t625 t626 t631 x147_167 t621 t622 t628 t629 = some r) ∧ Aside0 (kq ≤ kj156) ∧ Aside0 (Kd.R (Kd.int .i64) 3 wc w.heap.size (fun _ => True) v632 t631) ∧ Aside0 (wc.heap[gb605]? = some (.cells #[.int .i64 t603, .string t604] 25 (0, 0))) ∧ Aside0 (wc.heap[gb612]? = some (.cells #[.int .i64 t609, .string t610] 25 (0, 0))) ∧ Aside0 (wc.heap[gb616]? = some (.cells #[.int .i64 t613, .string t614] 25 (0, 0))) ∧ Aside0 (wc.heap[gb620]? = some (.cells #[.int .i64 t617, .string t618] 25 (0, 0))) ∧ Aside0 (wc.heap[gb627]? = some (.cells #[.int .i64 t621, .string t622] 25 (0, 0))) ∧ Aside0 (wc.heap[gb630]? = some (.cells #[.int .i64 t628, .string t629] 25 (0, 0))) ∧ Aside0 (wc.heap[gb662]? = some (.cells #[.int .i64 t659, .string t660] 25 (0, 0))) ∧ Aside0 (Below w.heap.size w wc))
 case first => as_aux_lemma =>
  have H := HC168.out
  clear HC168
  by_cases c180 : t661 = true
  ·subst c180
   replace H := (if_pos rfl).symm.trans H
   obtain ⟨t663, A181, H⟩ := zO H
   have H' := Aside0.mk H; clear H
   have hnb182 := NB662_605.out
   have hnc182 := NB605_662.out
   have hnb183 := NB662_612.out
   have hnc183 := NB612_662.out
   have hnb184 := NB662_616.out
   have hnc184 := NB616_662.out
   have hnb185 := NB662_620.out
   have hnc185 := NB620_662.out
   have hnb186 := NB662_627.out
   have hnc186 := NB627_662.out
   have hnb187 := NB662_630.out
   have hnc187 := NB630_662.out
   obtain ⟨hcz188_0, hcz188_1, hfz188_0, hfz188_1⟩ := zq2 BK662.out
   go_wp2_with (first | (go_at_call 23; (with_reducible refine (impl_IsAcyclic.calls kj156 t659 t660 t663 _ A181.out).mono ?_); rintro e w189 ⟨rfl, hb⟩; replace HO_17 := Aside0.mk (Kd.R_below (by (with_reducible repeat (first | apply Kd.R_alloc | apply Kd.R_drewN | apply Kd.R_drew)); exact (Kd.R_mono (Kd.R_far (p := ⟨gb662, 1, none⟩) (Kd.R_far (p := ⟨gb662, 0, none⟩) (Kd.R_types HO_17.out BK662.out (by decide)) (fun _ hk => hk.2) (.int .i64 t659)) (fun _ hk => hk.2) (.string t660)) (fun _ h_ => h_.1))) hb); replace HO658 := Aside0.mk (Kd.R_below (by (with_reducible repeat (first | apply Kd.R_alloc | apply Kd.R_drewN | apply Kd.R_drew)); exact (Kd.R_mono (Kd.R_far (p := ⟨gb662, 1, none⟩) (Kd.R_far (p := ⟨gb662, 0, none⟩) (Kd.R_types HO658.out BK662.out (by decide)) (fun _ hk => hk.2) (.int .i64 t659)) (fun _ hk => hk.2) (.string t660)) (fun _ h_ => h_.1))) hb); replace BK605 := Aside0.mk (blk_below (g := gb605) (o := .cells #[.int .i64 t603, .string t604] 25 (0, 0)) (zk2 BK605.out NB605_662.out NB605_662.out) hb); replace BK612 := Aside0.mk (blk_below (g := gb612) (o := .cells #[.int .i64 t609, .string t610] 25 (0, 0)) (zk2 BK612.out NB612_662.out NB612_662.out) hb); replace BK616 := Aside0.mk (blk_below (g := gb616) (o := .cells #[.int .i64 t613, .string t614] 25 (0, 0)) (zk2 BK616.out NB616_662.out NB616_662.out) hb); replace BK620 := Aside0.mk (blk_below (g := gb620) (o := .cells #[.int .i64 t617, .string t618] 25 (0, 0)) (zk2 BK620.out NB620_662.out NB620_662.out) hb); replace BK627 := Aside0.mk (blk_below (g := gb627) (o := .cells #[.int .i64 t621, .string t622] 25 (0, 0)) (zk2 BK627.out NB627_662.out NB627_662.out) hb); replace BK630 := Aside0.mk (blk_below (g := gb630) (o := .cells #[.int .i64 t628, .string t629] 25 (0, 0)) (zk2 BK630.out NB630_662.out NB630_662.out) hb); replace BK662 := Aside0.mk (blk_below (g := gb662) (o := .cells #[.int .i64 t659, .string t660] 25 (0, 0)) (zk0 BK662.out) hb); replace HB := Aside0.mk (below_step (zG7 GE605.out GE612.out GE616.out GE620.out GE627.out GE630.out GE662.out) hb); (try clear hb); (try clear hb2); (try clear hk); (try clear hi)))
   go_meet
   case rel => exact ⟨_, (!t663), zF, H', ⟨by have := HJ11.out; have := HJ116.out; have := HJ156.out; first | omega | exact Nat.le_refl _⟩, ⟨zR HO_17.out⟩, ⟨zK BK605.out⟩, ⟨zK BK612.out⟩, ⟨zK BK616.out⟩, ⟨zK BK620.out⟩, ⟨zK BK627.out⟩, ⟨zK BK630.out⟩, ⟨zK BK662.out⟩, ⟨zG7 GE605.out GE612.out GE616.out GE620.out GE627.out GE630.out GE662.out⟩⟩
  replace c180 := Bool.eq_false_iff.mpr c180
  subst c180
  replace H := (if_neg zFf).symm.trans H
  have H' := Aside0.mk H; clear H
  go_wp2
  go_meet
  case rel => exact ⟨_, (false), zF, H', ⟨by have := HJ11.out; have := HJ116.out; have := HJ156.out; first | omega | exact Nat.le_refl _⟩, ⟨by (with_reducible repeat (first | apply Kd.R_alloc | apply Kd.R_drewN | apply Kd.R_drew)); exact Kd.R_mono (Kd.R_far (p := ⟨gb662, 1, none⟩) (Kd.R_far (p := ⟨gb662, 0, none⟩) (Kd.R_types HO_17.out BK662.out (by decide)) (fun _ hk => hk.2) (.int .i64 t659)) (fun _ hk => hk.2) (.string t660)) (fun _ hk => trivial)⟩, ⟨zk2 BK605.out NB605_662.out NB605_662.out⟩, ⟨zk2 BK612.out NB612_662.out NB612_662.out⟩, ⟨zk2 BK616.out NB616_662.out NB616_662.out⟩, ⟨zk2 BK620.out NB620_662.out NB620_662.out⟩, ⟨zk2 BK627.out NB627_662.out NB627_662.out⟩, ⟨zk2 BK630.out NB630_662.out NB630_662.out⟩, ⟨zk0 BK662.out⟩, ⟨zG7 GE605.out GE612.out GE616.out GE620.out GE627.out GE630.out GE662.out⟩⟩
 case rest => as_aux_lemma =>
 clear HC168
 try clear c156
 try clear c165
 try clear hcz179_0
 try clear hcz179_1
 try clear hfz179_0
 try clear hfz179_1
 obtain ⟨kq, x147_167, rfl, HA, HJ167, HO_17, BK605, BK612, BK616, BK620, BK627, BK630, BK662, HB⟩ := hcut
 cases kq with
 | zero => exact absurd HA.out (by simp [laws_FnRule.j3])
 | succ kj167 =>
 have H := HA.out
 clear HA
 simp only [laws_FnRule.j3] at H
 by_cases c190 : x147_167 = true
 ·subst c190
  replace H := (if_pos rfl).symm.trans H
  obtain rfl := Option.some.inj H
  cases hr_
 replace c190 := Bool.eq_false_iff.mpr c190
 subst c190
 replace H := (if_neg zFf).symm.trans H
 have HC191 := Aside0.mk H
 clear H
 go_upto_region 21 with (fail)
 go_cut [170] (fun v170 wc => ∃ (kq : Nat) (x170_190 : Bool), v170 = .bool x170_190 ∧ Aside0 (laws_FnRule.j4 kq t623 t624 t625 t626 x170_190 t621 t622 = some r) ∧ Aside0 (kq ≤ kj167) ∧ Aside0 (wc.heap[gb605]? = some (.cells #[.int .i64 t603, .string t604] 25 (0, 0))) ∧ Aside0 (wc.heap[gb612]? = some (.cells #[.int .i64 t609, .string t610] 25 (0, 0))) ∧ Aside0 (wc.heap[gb616]? = some (.cells #[.int .i64 t613, .string t614] 25 (0, 0))) ∧ Aside0 (wc.heap[gb620]? = some (.cells #[.int .i64 t617, .string t618] 25 (0, 0))) ∧ Aside0 (wc.heap[gb627]? = some (.cells #[.int .i64 t621, .string t622] 25 (0, 0))) ∧ Aside0 (wc.heap[gb630]? = some (.cells #[.int .i64 t628, .string t629] 25 (0, 0))) ∧ Aside0 (wc.heap[gb662]? = some (.cells #[.int .i64 t659, .string t660] 25 (0, 0))) ∧ Aside0 (Below w.heap.size w wc))
 case first => as_aux_lemma =>
  have H := HC191.out
  clear HC191
  obtain ⟨t664, A192, H⟩ := zO H
  by_cases c193 : t664 = true
  ·subst c193
   replace H := (if_pos rfl).symm.trans H
   by_cases c194 : (t631.length : Int) = (wrap64 ((wrap64 (t628 * (wrap64 (t628 - 1)))) + 2))
   ·rw [if_pos c194] at H
    have c194b0 : ((t631.length : Int) == (wrap64 ((wrap64 (t628 * (wrap64 (t628 - 1)))) + 2))) = true := beq_iff_eq.mpr c194
    have c194b1 : ((t631.length : Int) != (wrap64 ((wrap64 (t628 * (wrap64 (t628 - 1)))) + 2))) = false := bne_eq_false_iff_eq.mpr c194
    clear c194
    (first | rw [c194b0] | (simp only [i64_w, i32_w]; rw [c194b0]) | skip)
    obtain ⟨t665, A195, H⟩ := zO H
    by_cases c196 : t665 = true
    ·subst c196
     replace H := (if_pos rfl).symm.trans H
     obtain ⟨t666, A197, H⟩ := zO H
     have H' := Aside0.mk H; clear H
     have hnb198 := NB630_605.out
     have hnc198 := NB605_630.out
     have hnb199 := NB630_612.out
     have hnc199 := NB612_630.out
     have hnb200 := NB630_616.out
     have hnc200 := NB616_630.out
     have hnb201 := NB630_620.out
     have hnc201 := NB620_630.out
     have hnb202 := NB630_627.out
     have hnc202 := NB627_630.out
     have hnb203 := NB630_662.out
     have hnc203 := NB662_630.out
     obtain ⟨hcz204_0, hcz204_1, hfz204_0, hfz204_1⟩ := zq2 BK630.out
     go_wp2_with (first | ((with_reducible refine gate_callee (f := 21) rfl ?_); refine zD (some 149) Try.func21 #[.agg #[.int .i64 t628, .string t629]] ?_; (with_reducible refine (impl_IsMatroid.calls t628 t629 true _ A192.out).mono ?_); rintro e w205 ⟨rfl, hb⟩; refine ⟨_, rfl, ?_⟩; replace HO_17 := zW HO_17.out hb; replace BK605 := zV BK605.out hb; replace BK612 := zV BK612.out hb; replace BK616 := zV BK616.out hb; replace BK620 := zV BK620.out hb; replace BK627 := zV BK627.out hb; replace BK630 := zV BK630.out hb; replace BK662 := zV BK662.out hb; replace HB := Aside0.mk (below_step (zG7 GE605.out GE612.out GE616.out GE620.out GE627.out GE630.out GE662.out) hb); (try clear hb); obtain ⟨Ao206, co206, eo206⟩ := Kd.R_slice HO_17.out; subst eo206; obtain ⟨hcz207_0, hcz207_1, hfz207_0, hfz207_1⟩ := zq2 BK630.out) | (go_at_call 23; (with_reducible refine (impl_IsAcyclic.calls kj167 t628 t629 true _ A195.out).mono ?_); rintro e w208 ⟨rfl, hb⟩; replace HO_17 := zW HO_17.out hb; replace BK605 := zV BK605.out hb; replace BK612 := zV BK612.out hb; replace BK616 := zV BK616.out hb; replace BK620 := zV BK620.out hb; replace BK627 := zV BK627.out hb; replace BK630 := zV BK630.out hb; replace BK662 := zV BK662.out hb; replace HB := Aside0.mk (below_step (zG7 GE605.out GE612.out GE616.out GE620.out GE627.out GE630.out GE662.out) hb); (try clear hb); (try clear hb2); (try clear hk); (try clear hi)) | (go_at_call 28; (with_reducible refine (laws_hasInt.calls kj167 _ _ t631 0 t666 _ ?side1 ?side2 A197.out).mono ?_); (case side1 => repeat (first | exact (Kd.R_reads' HO_17.out).2.2 | (with_reducible refine Kd.C_alloc ?_ _) | (with_reducible refine Kd.C_drewN ?_ _) | (with_reducible refine Kd.C_drew ?_))); (case side2 => exact (Kd.R_reads' HO_17.out).2.1); rintro e w' ⟨rfl, ⟨nd, rfl⟩⟩))
     go_meet
     case rel => exact ⟨_, (!t666), zF, H', ⟨by have := HJ11.out; have := HJ116.out; have := HJ156.out; have := HJ167.out; first | omega | exact Nat.le_refl _⟩, ⟨zK BK605.out⟩, ⟨zK BK612.out⟩, ⟨zK BK616.out⟩, ⟨zK BK620.out⟩, ⟨zK BK627.out⟩, ⟨zK BK630.out⟩, ⟨zK BK662.out⟩, ⟨zG7 GE605.out GE612.out GE616.out GE620.out GE627.out GE630.out GE662.out⟩⟩
    replace c196 := Bool.eq_false_iff.mpr c196
    subst c196
    replace H := (if_neg zFf).symm.trans H
    have H' := Aside0.mk H; clear H
    have hnb209 := NB630_605.out
    have hnc209 := NB605_630.out
    have hnb210 := NB630_612.out
    have hnc210 := NB612_630.out
    have hnb211 := NB630_616.out
    have hnc211 := NB616_630.out
    have hnb212 := NB630_620.out
    have hnc212 := NB620_630.out
    have hnb213 := NB630_627.out
    have hnc213 := NB627_630.out
    have hnb214 := NB630_662.out
    have hnc214 := NB662_630.out
    obtain ⟨hcz215_0, hcz215_1, hfz215_0, hfz215_1⟩ := zq2 BK630.out
    go_wp2_with (first | ((with_reducible refine gate_callee (f := 21) rfl ?_); refine zD (some 149) Try.func21 #[.agg #[.int .i64 t628, .string t629]] ?_; (with_reducible refine (impl_IsMatroid.calls t628 t629 true _ A192.out).mono ?_); rintro e w216 ⟨rfl, hb⟩; refine ⟨_, rfl, ?_⟩; replace HO_17 := zW HO_17.out hb; replace BK605 := zV BK605.out hb; replace BK612 := zV BK612.out hb; replace BK616 := zV BK616.out hb; replace BK620 := zV BK620.out hb; replace BK627 := zV BK627.out hb; replace BK630 := zV BK630.out hb; replace BK662 := zV BK662.out hb; replace HB := Aside0.mk (below_step (zG7 GE605.out GE612.out GE616.out GE620.out GE627.out GE630.out GE662.out) hb); (try clear hb); obtain ⟨Ao217, co217, eo217⟩ := Kd.R_slice HO_17.out; subst eo217; obtain ⟨hcz218_0, hcz218_1, hfz218_0, hfz218_1⟩ := zq2 BK630.out) | (go_at_call 23; (with_reducible refine (impl_IsAcyclic.calls kj167 t628 t629 false _ A195.out).mono ?_); rintro e w219 ⟨rfl, hb⟩; replace HO_17 := zW HO_17.out hb; replace BK605 := zV BK605.out hb; replace BK612 := zV BK612.out hb; replace BK616 := zV BK616.out hb; replace BK620 := zV BK620.out hb; replace BK627 := zV BK627.out hb; replace BK630 := zV BK630.out hb; replace BK662 := zV BK662.out hb; replace HB := Aside0.mk (below_step (zG7 GE605.out GE612.out GE616.out GE620.out GE627.out GE630.out GE662.out) hb); (try clear hb); (try clear hb2); (try clear hk); (try clear hi)))
    go_meet
    case rel => exact ⟨_, (false), zF, H', ⟨by have := HJ11.out; have := HJ116.out; have := HJ156.out; have := HJ167.out; first | omega | exact Nat.le_refl _⟩, ⟨zK BK605.out⟩, ⟨zK BK612.out⟩, ⟨zK BK616.out⟩, ⟨zK BK620.out⟩, ⟨zK BK627.out⟩, ⟨zK BK630.out⟩, ⟨zK BK662.out⟩, ⟨zG7 GE605.out GE612.out GE616.out GE620.out GE627.out GE630.out GE662.out⟩⟩
   rw [if_neg c194] at H
   exact absurd H (laws_FnRule.j4_no _ _ _ _ _ _ _ _ hr_)
  replace c193 := Bool.eq_false_iff.mpr c193
  subst c193
  replace H := (if_neg zFf).symm.trans H
  obtain ⟨t667, A230, H⟩ := zO H
  by_cases c231 : t667 = true
  ·subst c231
   replace H := (if_pos rfl).symm.trans H
   obtain ⟨t668, A232, H⟩ := zO H
   have H' := Aside0.mk H; clear H
   have hnb233 := NB630_605.out
   have hnc233 := NB605_630.out
   have hnb234 := NB630_612.out
   have hnc234 := NB612_630.out
   have hnb235 := NB630_616.out
   have hnc235 := NB616_630.out
   have hnb236 := NB630_620.out
   have hnc236 := NB620_630.out
   have hnb237 := NB630_627.out
   have hnc237 := NB627_630.out
   have hnb238 := NB630_662.out
   have hnc238 := NB662_630.out
   obtain ⟨hcz239_0, hcz239_1, hfz239_0, hfz239_1⟩ := zq2 BK630.out
   go_wp2_with (first | ((with_reducible refine gate_callee (f := 21) rfl ?_); refine zD (some 149) Try.func21 #[.agg #[.int .i64 t628, .string t629]] ?_; (with_reducible refine (impl_IsMatroid.calls t628 t629 false _ A192.out).mono ?_); rintro e w240 ⟨rfl, hb⟩; refine ⟨_, rfl, ?_⟩; replace HO_17 := zW HO_17.out hb; replace BK605 := zV BK605.out hb; replace BK612 := zV BK612.out hb; replace BK616 := zV BK616.out hb; replace BK620 := zV BK620.out hb; replace BK627 := zV BK627.out hb; replace BK630 := zV BK630.out hb; replace BK662 := zV BK662.out hb; replace HB := Aside0.mk (below_step (zG7 GE605.out GE612.out GE616.out GE620.out GE627.out GE630.out GE662.out) hb); (try clear hb); obtain ⟨hcz241_0, hcz241_1, hfz241_0, hfz241_1⟩ := zq2 BK630.out) | (go_at_call 23; (with_reducible refine (impl_IsAcyclic.calls kj167 t628 t629 true _ A230.out).mono ?_); rintro e w242 ⟨rfl, hb⟩; replace HO_17 := zW HO_17.out hb; replace BK605 := zV BK605.out hb; replace BK612 := zV BK612.out hb; replace BK616 := zV BK616.out hb; replace BK620 := zV BK620.out hb; replace BK627 := zV BK627.out hb; replace BK630 := zV BK630.out hb; replace BK662 := zV BK662.out hb; replace HB := Aside0.mk (below_step (zG7 GE605.out GE612.out GE616.out GE620.out GE627.out GE630.out GE662.out) hb); (try clear hb); (try clear hb2); (try clear hk); (try clear hi); obtain ⟨Ao243, co243, eo243⟩ := Kd.R_slice HO_17.out; subst eo243) | (go_at_call 28; (with_reducible refine (laws_hasInt.calls kj167 _ _ t631 0 t668 _ ?side1 ?side2 A232.out).mono ?_); (case side1 => repeat (first | exact (Kd.R_reads' HO_17.out).2.2 | (with_reducible refine Kd.C_alloc ?_ _) | (with_reducible refine Kd.C_drewN ?_ _) | (with_reducible refine Kd.C_drew ?_))); (case side2 => exact (Kd.R_reads' HO_17.out).2.1); rintro e w' ⟨rfl, ⟨nd, rfl⟩⟩))
   go_meet
   case rel => exact ⟨_, (!t668), zF, H', ⟨by have := HJ11.out; have := HJ116.out; have := HJ156.out; have := HJ167.out; first | omega | exact Nat.le_refl _⟩, ⟨zK BK605.out⟩, ⟨zK BK612.out⟩, ⟨zK BK616.out⟩, ⟨zK BK620.out⟩, ⟨zK BK627.out⟩, ⟨zK BK630.out⟩, ⟨zK BK662.out⟩, ⟨zG7 GE605.out GE612.out GE616.out GE620.out GE627.out GE630.out GE662.out⟩⟩
  replace c231 := Bool.eq_false_iff.mpr c231
  subst c231
  replace H := (if_neg zFf).symm.trans H
  have H' := Aside0.mk H; clear H
  have hnb244 := NB630_605.out
  have hnc244 := NB605_630.out
  have hnb245 := NB630_612.out
  have hnc245 := NB612_630.out
  have hnb246 := NB630_616.out
  have hnc246 := NB616_630.out
  have hnb247 := NB630_620.out
  have hnc247 := NB620_630.out
  have hnb248 := NB630_627.out
  have hnc248 := NB627_630.out
  have hnb249 := NB630_662.out
  have hnc249 := NB662_630.out
  obtain ⟨hcz250_0, hcz250_1, hfz250_0, hfz250_1⟩ := zq2 BK630.out
  go_wp2_with (first | ((with_reducible refine gate_callee (f := 21) rfl ?_); refine zD (some 149) Try.func21 #[.agg #[.int .i64 t628, .string t629]] ?_; (with_reducible refine (impl_IsMatroid.calls t628 t629 false _ A192.out).mono ?_); rintro e w251 ⟨rfl, hb⟩; refine ⟨_, rfl, ?_⟩; replace HO_17 := zW HO_17.out hb; replace BK605 := zV BK605.out hb; replace BK612 := zV BK612.out hb; replace BK616 := zV BK616.out hb; replace BK620 := zV BK620.out hb; replace BK627 := zV BK627.out hb; replace BK630 := zV BK630.out hb; replace BK662 := zV BK662.out hb; replace HB := Aside0.mk (below_step (zG7 GE605.out GE612.out GE616.out GE620.out GE627.out GE630.out GE662.out) hb); (try clear hb); obtain ⟨hcz252_0, hcz252_1, hfz252_0, hfz252_1⟩ := zq2 BK630.out) | (go_at_call 23; (with_reducible refine (impl_IsAcyclic.calls kj167 t628 t629 false _ A230.out).mono ?_); rintro e w253 ⟨rfl, hb⟩; replace HO_17 := zW HO_17.out hb; replace BK605 := zV BK605.out hb; replace BK612 := zV BK612.out hb; replace BK616 := zV BK616.out hb; replace BK620 := zV BK620.out hb; replace BK627 := zV BK627.out hb; replace BK630 := zV BK630.out hb; replace BK662 := zV BK662.out hb; replace HB := Aside0.mk (below_step (zG7 GE605.out GE612.out GE616.out GE620.out GE627.out GE630.out GE662.out) hb); (try clear hb); (try clear hb2); (try clear hk); (try clear hi)))
  go_meet
  case rel => exact ⟨_, (false), zF, H', ⟨by have := HJ11.out; have := HJ116.out; have := HJ156.out; have := HJ167.out; first | omega | exact Nat.le_refl _⟩, ⟨zK BK605.out⟩, ⟨zK BK612.out⟩, ⟨zK BK616.out⟩, ⟨zK BK620.out⟩, ⟨zK BK627.out⟩, ⟨zK BK630.out⟩, ⟨zK BK662.out⟩, ⟨zG7 GE605.out GE612.out GE616.out GE620.out GE627.out GE630.out GE662.out⟩⟩
 case rest => as_aux_lemma =>
 clear HC191
 try clear c156
 try clear c165
 try clear c190
 try clear hcz179_0
 try clear hcz179_1
 try clear hfz179_0
 try clear hfz179_1
 obtain ⟨kq, x170_190, rfl, HA, HJ190, BK605, BK612, BK616, BK620, BK627, BK630, BK662, HB⟩ := hcut
 cases kq with
 | zero => exact absurd HA.out (by simp [laws_FnRule.j4])
 | succ kj190 =>
 have H := HA.out
 clear HA
 simp only [laws_FnRule.j4] at H
 by_cases c254 : x170_190 = true
 ·subst c254
  replace H := (if_pos rfl).symm.trans H
  obtain rfl := Option.some.inj H
  cases hr_
 replace c254 := Bool.eq_false_iff.mpr c254
 subst c254
 replace H := (if_neg zFf).symm.trans H
 obtain ⟨t669, A255, H⟩ := zO H
 by_cases c256 : t669.toList = ([] : List UInt8)
 ·rw [if_pos c256] at H
  have c256b0 : (t669.toList == ([] : List UInt8)) = true := beq_iff_eq.mpr c256
  have c256b1 : (t669.toList != ([] : List UInt8)) = false := bne_eq_false_iff_eq.mpr c256
  clear c256
  obtain rfl := Option.some.inj H
  have hnb257 := NB627_605.out
  have hnc257 := NB605_627.out
  have hnb258 := NB627_612.out
  have hnc258 := NB612_627.out
  have hnb259 := NB627_616.out
  have hnc259 := NB616_627.out
  have hnb260 := NB627_620.out
  have hnc260 := NB620_627.out
  have hnb261 := NB627_630.out
  have hnc261 := NB630_627.out
  have hnb262 := NB627_662.out
  have hnc262 := NB662_627.out
  obtain ⟨hcz263_0, hcz263_1, hfz263_0, hfz263_1⟩ := zq2 BK627.out
  go_wp2_with (first | ((with_reducible refine gate_callee (f := 18) rfl ?_); refine zD (some 176) Try.func18 #[.agg #[.int .i64 t621, .string t622], .int .i64 t623, .int .i64 t624, .int .i64 t625, .int .i64 t626] ?_; (with_reducible refine (impl_CircuitOf.calls kj190 t621 t622 t623 t624 t625 t626 t669 _ A255.out).mono ?_); rintro e w264 ⟨rfl, hb⟩; refine ⟨_, rfl, ?_⟩; replace BK605 := zV BK605.out hb; replace BK612 := zV BK612.out hb; replace BK616 := zV BK616.out hb; replace BK620 := zV BK620.out hb; replace BK627 := zV BK627.out hb; replace BK630 := zV BK630.out hb; replace BK662 := zV BK662.out hb; replace HB := Aside0.mk (below_step (zG7 GE605.out GE612.out GE616.out GE620.out GE627.out GE630.out GE662.out) hb); (try clear hb)))
  go_ret
  exact ⟨zE, zG7 GE605.out GE612.out GE616.out GE620.out GE627.out GE630.out GE662.out⟩
 rw [if_neg c256] at H
 have c256b0 : (t669.toList == ([] : List UInt8)) = false := beq_eq_false_iff_ne.mpr c256
 have c256b1 : (t669.toList != ([] : List UInt8)) = true := bne_iff_ne.mpr c256
 by_cases c265 : (t669.size : Int) = 4
 ·rw [if_pos c265] at H
  have c265b0 : ((t669.size : Int) == 4) = true := beq_iff_eq.mpr c265
  have c265b1 : ((t669.size : Int) != 4) = false := bne_eq_false_iff_eq.mpr c265
  clear c265
  by_cases c266 : 0 < (t669.size : Int)
  ·rw [if_pos c266] at H
   have c266b0 : decide (0 < (t669.size : Int)) = true := decide_eq_true c266
   have c266b1 : decide (0 < t669.size) = true := decide_eq_true (by omega)
   clear c266
   by_cases c268 : (bt t669 0) = 43
   ·rw [if_pos c268] at H
    have c268b0 : ((bt t669 0) == 43) = true := beq_iff_eq.mpr c268
    have c268b1 : ((bt t669 0) != 43) = false := bne_eq_false_iff_eq.mpr c268
    clear c268
    obtain ⟨t670, A269, H⟩ := zO H
    obtain rfl := Option.some.inj H
    have hnb270 := NB627_605.out
    have hnc270 := NB605_627.out
    have hnb271 := NB627_612.out
    have hnc271 := NB612_627.out
    have hnb272 := NB627_616.out
    have hnc272 := NB616_627.out
    have hnb273 := NB627_620.out
    have hnc273 := NB620_627.out
    have hnb274 := NB627_630.out
    have hnc274 := NB630_627.out
    have hnb275 := NB627_662.out
    have hnc275 := NB662_627.out
    obtain ⟨hcz276_0, hcz276_1, hfz276_0, hfz276_1⟩ := zq2 BK627.out
    go_wp2_with (first | ((with_reducible refine gate_callee (f := 18) rfl ?_); refine zD (some 176) Try.func18 #[.agg #[.int .i64 t621, .string t622], .int .i64 t623, .int .i64 t624, .int .i64 t625, .int .i64 t626] ?_; (with_reducible refine (impl_CircuitOf.calls kj190 t621 t622 t623 t624 t625 t626 t669 _ A255.out).mono ?_); rintro e w277 ⟨rfl, hb⟩; refine ⟨_, rfl, ?_⟩; replace BK605 := zV BK605.out hb; replace BK612 := zV BK612.out hb; replace BK616 := zV BK616.out hb; replace BK620 := zV BK620.out hb; replace BK627 := zV BK627.out hb; replace BK630 := zV BK630.out hb; replace BK662 := zV BK662.out hb; replace HB := Aside0.mk (below_step (zG7 GE605.out GE612.out GE616.out GE620.out GE627.out GE630.out GE662.out) hb); (try clear hb); have p267 : 0 ≤ (0 : Int) := (by omega); have q267 : 0 < t669.size := (by have : (0 : Int) < (t669.size : Int) := zA; omega); have hx267 : ∀ h : 0 < t669.size, ((t669[0]'h).toNat : Int) = bt t669 0 := bt_at t669 0; clear p267; have qi267 : (0 < (t669.size : Int)) = True := eq_true (zA); replace q267 := eq_true q267; obtain ⟨hcz278_0, hcz278_1, hfz278_0, hfz278_1⟩ := zq2 BK627.out) | (go_at_call 18; (with_reducible refine (impl_CircuitOf.calls kj190 t621 t622 t624 t623 t625 t626 t670 _ A269.out).mono ?_); rintro e w279 ⟨rfl, hb⟩; replace BK605 := zV BK605.out hb; replace BK612 := zV BK612.out hb; replace BK616 := zV BK616.out hb; replace BK620 := zV BK620.out hb; replace BK627 := zV BK627.out hb; replace BK630 := zV BK630.out hb; replace BK662 := zV BK662.out hb; replace HB := Aside0.mk (below_step (zG7 GE605.out GE612.out GE616.out GE620.out GE627.out GE630.out GE662.out) hb); (try clear hb); (try clear hb2); (try clear hk); (try clear hi)))
    go_ret
    exact ⟨zE, zG7 GE605.out GE612.out GE616.out GE620.out GE627.out GE630.out GE662.out⟩
   rw [if_neg c268] at H
   have c268b0 : ((bt t669 0) == 43) = false := beq_eq_false_iff_ne.mpr c268
   have c268b1 : ((bt t669 0) != 43) = true := bne_iff_ne.mpr c268
   obtain rfl := Option.some.inj H
   cases hr_
  rw [if_neg c266] at H
  exact absurd H (by simp)
 rw [if_neg c265] at H
 have c265b0 : ((t669.size : Int) == 4) = false := beq_eq_false_iff_ne.mpr c265
 have c265b1 : ((t669.size : Int) != 4) = true := bne_iff_ne.mpr c265
 obtain rfl := Option.some.inj H
 cases hr_
end Go.Proofs.Ytckkfjdkaimmhaa.PX
namespace Go.Proofs.Ytckkfjdkaimmhaa.M
open Go.RowKit Go.Proofs.YtckkfjdkaimmhaaW.PrintWords
section
variable {σ τ ρ α β : Type}
def Goes (z : Except ρ σ) (K : σ → Nat → Option ρ) (g : Nat → Option ρ) : Prop :=
  match z with
  | .error v => Ev g v
  | .ok s => ∀ r, Ev (K s) r → Ev g r
variable {z : Except ρ σ} {K : σ → Nat → Option ρ}
theorem Goes.ok (s : σ) : Goes (.ok s) K (K s) := fun _ h => h
theorem Goes.error {g : Nat → Option ρ} {v : ρ} (h : Ev g v) : Goes (.error v) K g := h
theorem Goes.ret (v : ρ) : Goes (.error v) K (fun _ => some v) := Ev.now v
theorem Goes.map {g g' : Nat → Option ρ} (hg : ∀ r, Ev g' r → Ev g r) (h : Goes z K g') : Goes z K g := by
  cases z with
  | error v => exact hg _ h
  | ok s => exact fun r hr => hg _ (h r hr)
theorem Goes.step {g : Nat → Option ρ} (h : Goes z K (fun k => g (k + 1))) : Goes z K g := Goes.map (fun _ => ev_step) h
theorem Goes.pos {c : Prop} [Decidable c] {a b : Nat → Option ρ} (hc : c) (h : Goes z K a) : Goes z K (fun k => if c then a k else b k) := Goes.map (fun _ => ev_pos hc) h
theorem Goes.neg {c : Prop} [Decidable c] {a b : Nat → Option ρ} (hc : ¬ c) (h : Goes z K b) : Goes z K (fun k => if c then a k else b k) := Goes.map (fun _ => ev_neg hc) h
theorem Goes.call {x : Option α} {a : α} {f : Nat → α → Option ρ} (hx : x = some a) (h : Goes z K (fun k => f k a)) : Goes z K (fun k => x.bind (f k)) := Goes.map (fun _ => ev_call hx) h
theorem Goes.ev {x : Nat → Option α} {a : α} {f : Nat → α → Option ρ} (hx : Ev x a) (h : Goes z K (fun k => f k a)) : Goes z K (fun k => (x k).bind (f k)) := Goes.map (fun _ => Ev.bind hx) h
theorem Goes.bind {y : Except ρ τ} {f : τ → Except ρ σ} {K' : τ → Nat → Option ρ} {g : Nat → Option ρ} (h : Goes y K' g) (h' : ∀ s, Goes (f s) K (K' s)) : Goes (y >>= f) K g := by
  cases y with
  | error v => exact h
  | ok s => exact Goes.map (h ·) (h' s)
theorem Goes.cast {z' : Except ρ σ} {g : Nat → Option ρ} (h : Goes z K g) (e : z = z') : Goes z' K g := e ▸ h
theorem Goes.out {g : Nat → Option ρ} {r : ρ} (h : Goes z K g) (he : ∀ v, z = .error v → v = r) (ho : ∀ s, z = .ok s → Ev (K s) r) : Ev g r := by
  cases z with
  | error v => exact he v rfl ▸ h
  | ok s => exact h r (ho s rfl)
theorem loop_up {lo n : Nat} {L : Int → σ → Nat → Option ρ} (dec : σ → Nat → Except ρ σ) (hf : ∀ s, Goes (.ok s) K (L (n : Int) s))
    (hb : ∀ i, lo ≤ i → i < n → ∀ s, Goes (dec s i) (fun s => L ((i + 1 : Nat) : Int) s) (L (i : Int) s)) (hlo : lo ≤ n) (s : σ) : Goes ((List.range' lo (n - lo)).foldlM dec s) K (L (lo : Int) s) := by
  have key : ∀ d i, lo ≤ i → i + d = n → ∀ s, Goes ((List.range' i d).foldlM dec s) K (L (i : Int) s) := by
    intro d
    induction d with
    | zero =>
      intro i _ hi s
      obtain rfl : i = n := by omega
      exact hf s
    | succ d ih =>
      intro i hl hi s
      rw [List.range'_succ, List.foldlM_cons]
      exact Goes.bind (hb i hl (by omega) s) (fun s => ih (i + 1) (by omega) (by omega) s)
  exact key (n - lo) lo (Nat.le_refl _) (by omega) s
theorem loop_up' {lo n : Nat} {L : Int → σ → Nat → Option ρ} (I : Nat → σ → Prop) (dec : σ → Nat → Except ρ σ) (hf : ∀ s, I n s → Goes (.ok s) K (L (n : Int) s))
    (hb : ∀ i, lo ≤ i → i < n → ∀ s, I i s → Goes (dec s i) (fun s => L ((i + 1 : Nat) : Int) s) (L (i : Int) s)) (hi : ∀ i, lo ≤ i → i < n → ∀ s, I i s → ∀ s', dec s i = .ok s' → I (i + 1) s') (hlo : lo ≤ n) (s : σ) (hs : I lo s) :
    Goes ((List.range' lo (n - lo)).foldlM dec s) K (L (lo : Int) s) := by
  have key : ∀ d i, lo ≤ i → i + d = n → ∀ s, I i s → Goes ((List.range' i d).foldlM dec s) K (L (i : Int) s) := by
    intro d
    induction d with
    | zero =>
      intro i _ hid s hs
      obtain rfl : i = n := by omega
      exact hf s hs
    | succ d ih =>
      intro i hl hid s hs
      rw [List.range'_succ, List.foldlM_cons]
      have h := hb i hl (by omega) s hs
      have h' := hi i hl (by omega) s hs
      cases hd : dec s i with
      | error v => rw [hd] at h; exact h
      | ok s' =>
        rw [hd] at h
        exact Goes.map (h ·) (ih (i + 1) (by omega) (by omega) s' (h' s' hd))
  exact key (n - lo) lo (Nat.le_refl _) (by omega) s hs
theorem foldlM_flatMap (f : α → List β) (g : σ → β → Except ρ σ) (l : List α) : ∀ s, (l.flatMap f).foldlM g s = l.foldlM (fun s a => (f a).foldlM g s) s := by
  induction l with
  | nil => intro s; rfl
  | cons x l ih =>
    intro s
    rw [List.flatMap_cons, List.foldlM_append, List.foldlM_cons]
    congr 1
    funext s
    exact ih s
theorem foldlM_mapx (f : α → β) (g : σ → β → Except ρ σ) (l : List α) : ∀ s, (l.map f).foldlM g s = l.foldlM (fun s a => g s (f a)) s := by
  induction l with
  | nil => intro s; rfl
  | cons x l ih =>
    intro s
    rw [List.map_cons, List.foldlM_cons, List.foldlM_cons]
    congr 1
    funext s
    exact ih s
theorem foldlM_ok (g : σ → α → σ) (l : List α) : ∀ s, (l.foldlM (fun s a => (.ok (g s a) : Except ρ σ)) s) = .ok (l.foldl g s) := by
  induction l with
  | nil => intro s; rfl
  | cons x l ih => intro s; exact ih (g s x)
theorem foldlM_find (c : α → Bool) (v : α → ρ) (l : List α) : l.foldlM (fun (_ : Unit) a => if c a then (.error (v a) : Except ρ Unit) else .ok ()) () = match l.find? c with | some a => .error (v a) | none => .ok () := by
  induction l with
  | nil => rfl
  | cons x l ih =>
    rw [List.foldlM_cons, List.find?_cons]
    cases hx : c x with
    | true => rfl
    | false => exact ih
theorem foldlM_any (c : α → Bool) (v : ρ) (l : List α) : l.foldlM (fun (_ : Unit) a => if c a then (.error v : Except ρ Unit) else .ok ()) () = if l.any c then .error v else .ok () := by
  rw [foldlM_find c (fun _ => v) l]
  cases h : l.find? c with
  | none =>
    have : l.any c = false := by simpa using h
    rw [this]; rfl
  | some a =>
    have : l.any c = true := List.any_eq_true.2 ⟨a, List.mem_of_find?_eq_some h, List.find?_some h⟩
    rw [this]; rfl
end
theorem foldlM_index {σ ρ α : Type} (d : α) (f : σ → α → Except ρ σ) (l : List α) (s : σ) : (List.range' 0 (l.length - 0)).foldlM (fun s i => f s (l.getD i d)) s = l.foldlM f s := by
  have key : ∀ (l' pre : List α) (s : σ), pre ++ l' = l → (List.range' pre.length l'.length).foldlM (fun s i => f s (l.getD i d)) s = l'.foldlM f s := by
    intro l'
    induction l' with
    | nil => intro pre s _; rfl
    | cons x l' ih =>
      intro pre s h
      have hx : l.getD pre.length d = x := by
        rw [← h, List.getD_eq_getElem?_getD, List.getElem?_append_right (Nat.le_refl _), Nat.sub_self]
        rfl
      rw [List.length_cons, List.range'_succ, List.foldlM_cons, List.foldlM_cons, hx]
      congr 1
      funext s
      have := ih (pre ++ [x]) s (by rw [← h, List.append_assoc]; rfl)
      rw [List.length_append] at this
      exact this
  rw [Nat.sub_zero]
  exact key l [] s rfl
theorem foldl_filter {α β : Type} (c : α → Bool) (f : α → β) (l : List α) : ∀ s : List β, l.foldl (fun s a => if c a then s ++ [f a] else s) s = s ++ (l.filter c).map f := by
  induction l with
  | nil => intro s; simp
  | cons x l ih =>
    intro s
    rw [List.foldl_cons, ih, List.filter_cons]
    split
    · rw [List.map_cons, List.append_assoc]; rfl
    · rfl
def upFrom (n a : Nat) : List Nat := List.range' (a + 1) (n - (a + 1))
def pairsL (n : Nat) : List (Nat × Nat) := (List.range' 0 n).flatMap fun a => (upFrom n a).map fun b => (a, b)
def tripsL (n : Nat) : List (Nat × Nat × Nat) := (List.range' 0 n).flatMap fun a => (upFrom n a).flatMap fun b => (upFrom n b).map fun c => (a, b, c)
def quadsL (n : Nat) : List (Nat × Nat × Nat × Nat) := (List.range' 0 n).flatMap fun a => (upFrom n a).flatMap fun b => (upFrom n b).flatMap fun c => (upFrom n c).map fun d => (a, b, c, d)
theorem mem_upFrom {n a b : Nat} (h : b ∈ upFrom n a) : a < b ∧ b < n := by
  simp only [upFrom, List.mem_range'_1] at h
  omega
theorem mem_trips {n a b c : Nat} (h : (a, b, c) ∈ tripsL n) : a < b ∧ b < c ∧ c < n := by
  simp only [tripsL, List.mem_flatMap, List.mem_map, Prod.mk.injEq] at h
  obtain ⟨x, _, y, hy, z, hz, rfl, rfl, rfl⟩ := h
  have := mem_upFrom hy
  have := mem_upFrom hz
  omega
theorem mem_quads {n a b c d : Nat} (h : (a, b, c, d) ∈ quadsL n) : a < b ∧ b < c ∧ c < d ∧ d < n := by
  simp only [quadsL, List.mem_flatMap, List.mem_map, Prod.mk.injEq] at h
  obtain ⟨x, _, y, hy, z, hz, u, hu, rfl, rfl, rfl, rfl⟩ := h
  have := mem_upFrom hy
  have := mem_upFrom hz
  have := mem_upFrom hu
  omega
theorem trips_mem {n a b c : Nat} (h1 : a < b) (h2 : b < c) (h3 : c < n) : (a, b, c) ∈ tripsL n := by
  simp only [tripsL, List.mem_flatMap, List.mem_map, Prod.mk.injEq, upFrom, List.mem_range'_1]
  exact ⟨a, by omega, b, by omega, c, by omega, rfl, rfl, rfl⟩
theorem quads_mem {n a b c d : Nat} (h1 : a < b) (h2 : b < c) (h3 : c < d) (h4 : d < n) : (a, b, c, d) ∈ quadsL n := by
  simp only [quadsL, List.mem_flatMap, List.mem_map, Prod.mk.injEq, upFrom, List.mem_range'_1]
  exact ⟨a, by omega, b, by omega, c, by omega, d, by omega, rfl, rfl, rfl, rfl⟩
section
variable {σ ρ : Type} {n : Nat} {K : σ → Nat → Option ρ}
theorem loops2 {L0 : Int → σ → Nat → Option ρ} {L1 : Int → Int → σ → Nat → Option ρ} (dec : σ → Nat × Nat → Except ρ σ)
    (e0 : ∀ s, Goes (.ok s) K (L0 (n : Int) s)) (s0 : ∀ a, a < n → ∀ s, Goes (.ok s) (fun s => L1 (a : Int) ((a + 1 : Nat) : Int) s) (L0 (a : Int) s))
    (e1 : ∀ a, a < n → ∀ s, Goes (.ok s) (fun s => L0 ((a + 1 : Nat) : Int) s) (L1 (a : Int) (n : Int) s))
    (hb : ∀ a b, a < b → b < n → ∀ s, Goes (dec s (a, b)) (fun s => L1 (a : Int) ((b + 1 : Nat) : Int) s) (L1 (a : Int) (b : Int) s)) (s : σ) : Goes ((pairsL n).foldlM dec s) K (L0 0 s) := by
  have h := loop_up (K := K) (L := L0) (lo := 0) (n := n) (fun s a => (upFrom n a).foldlM (fun s b => dec s (a, b)) s) e0 (fun a _ ha s => ?_) (by omega) s
  · refine Goes.cast h ?_
    rw [pairsL, foldlM_flatMap]
    simp only [foldlM_mapx, Nat.sub_zero]
  · exact Goes.map (fun _ => s0 a ha s _) (loop_up (K := fun s => L0 ((a + 1 : Nat) : Int) s) (L := L1 (a : Int)) (fun s b => dec s (a, b)) (e1 a ha) (fun b hl hb' s => hb a b (by omega) hb' s) (by omega) s)
theorem loops3 {L0 : Int → σ → Nat → Option ρ} {L1 : Int → Int → σ → Nat → Option ρ} {L2 : Int → Int → Int → σ → Nat → Option ρ} (dec : σ → Nat × Nat × Nat → Except ρ σ)
    (e0 : ∀ s, Goes (.ok s) K (L0 (n : Int) s)) (s0 : ∀ a, a < n → ∀ s, Goes (.ok s) (fun s => L1 (a : Int) ((a + 1 : Nat) : Int) s) (L0 (a : Int) s))
    (e1 : ∀ a, a < n → ∀ s, Goes (.ok s) (fun s => L0 ((a + 1 : Nat) : Int) s) (L1 (a : Int) (n : Int) s)) (s1 : ∀ a b, a < b → b < n → ∀ s, Goes (.ok s) (fun s => L2 (a : Int) (b : Int) ((b + 1 : Nat) : Int) s) (L1 (a : Int) (b : Int) s))
    (e2 : ∀ a b, a < b → b < n → ∀ s, Goes (.ok s) (fun s => L1 (a : Int) ((b + 1 : Nat) : Int) s) (L2 (a : Int) (b : Int) (n : Int) s))
    (hb : ∀ a b c, a < b → b < c → c < n → ∀ s, Goes (dec s (a, b, c)) (fun s => L2 (a : Int) (b : Int) ((c + 1 : Nat) : Int) s) (L2 (a : Int) (b : Int) (c : Int) s)) (s : σ) : Goes ((tripsL n).foldlM dec s) K (L0 0 s) := by
  refine Goes.cast (loops2 (n := n) (K := K) (L0 := L0) (L1 := L1) (fun s p => (upFrom n p.2).foldlM (fun s c => dec s (p.1, p.2, c)) s) e0 s0 e1 (fun a b hab hb' s => ?_) s) ?_
  · exact Goes.map (fun _ => s1 a b hab hb' s _) (loop_up (K := fun s => L1 (a : Int) ((b + 1 : Nat) : Int) s) (L := L2 (a : Int) (b : Int)) (fun s c => dec s (a, b, c)) (e2 a b hab hb') (fun c hl hc s => hb a b c hab (by omega) hc s) (by omega) s)
  · simp only [pairsL, tripsL, foldlM_flatMap, foldlM_mapx]
theorem loops4 {L0 : Int → σ → Nat → Option ρ} {L1 : Int → Int → σ → Nat → Option ρ} {L2 : Int → Int → Int → σ → Nat → Option ρ} {L3 : Int → Int → Int → Int → σ → Nat → Option ρ} (dec : σ → Nat × Nat × Nat × Nat → Except ρ σ)
    (e0 : ∀ s, Goes (.ok s) K (L0 (n : Int) s)) (s0 : ∀ a, a < n → ∀ s, Goes (.ok s) (fun s => L1 (a : Int) ((a + 1 : Nat) : Int) s) (L0 (a : Int) s))
    (e1 : ∀ a, a < n → ∀ s, Goes (.ok s) (fun s => L0 ((a + 1 : Nat) : Int) s) (L1 (a : Int) (n : Int) s)) (s1 : ∀ a b, a < b → b < n → ∀ s, Goes (.ok s) (fun s => L2 (a : Int) (b : Int) ((b + 1 : Nat) : Int) s) (L1 (a : Int) (b : Int) s))
    (e2 : ∀ a b, a < b → b < n → ∀ s, Goes (.ok s) (fun s => L1 (a : Int) ((b + 1 : Nat) : Int) s) (L2 (a : Int) (b : Int) (n : Int) s)) (s2 : ∀ a b c, a < b → b < c → c < n → ∀ s, Goes (.ok s) (fun s => L3 (a : Int) (b : Int) (c : Int) ((c + 1 : Nat) : Int) s) (L2 (a : Int) (b : Int) (c : Int) s))
    (e3 : ∀ a b c, a < b → b < c → c < n → ∀ s, Goes (.ok s) (fun s => L2 (a : Int) (b : Int) ((c + 1 : Nat) : Int) s) (L3 (a : Int) (b : Int) (c : Int) (n : Int) s))
    (hb : ∀ a b c d, a < b → b < c → c < d → d < n → ∀ s, Goes (dec s (a, b, c, d)) (fun s => L3 (a : Int) (b : Int) (c : Int) ((d + 1 : Nat) : Int) s) (L3 (a : Int) (b : Int) (c : Int) (d : Int) s)) (s : σ) : Goes ((quadsL n).foldlM dec s) K (L0 0 s) := by
  refine Goes.cast (loops3 (n := n) (K := K) (L0 := L0) (L1 := L1) (L2 := L2) (fun s p => (upFrom n p.2.2).foldlM (fun s d => dec s (p.1, p.2.1, p.2.2, d)) s) e0 s0 e1 s1 e2 (fun a b c hab hbc hc s => ?_) s) ?_
  · exact Goes.map (fun _ => s2 a b c hab hbc hc s _) (loop_up (lo := c + 1) (n := n) (K := fun s => L2 (a : Int) (b : Int) ((c + 1 : Nat) : Int) s) (L := L3 (a : Int) (b : Int) (c : Int)) (fun s d => dec s (a, b, c, d)) (e3 a b c hab hbc hc) (fun d hl hd s => hb a b c d hab hbc (by omega) hd s) (by omega) s)
  · simp only [tripsL, quadsL, foldlM_flatMap, foldlM_mapx]
theorem fold_len {α : Type} (len : σ → Nat) {dec : σ → α → Except ρ σ} (hl : ∀ s x s', dec s x = .ok s' → len s' ≤ len s + 1) (l : List α) : ∀ s s', l.foldlM dec s = .ok s' → len s' ≤ len s + l.length := by
  induction l with
  | nil => intro s s' h; cases h; exact Nat.le_refl _
  | cons x l ih =>
    intro s s' h
    rw [List.foldlM_cons] at h
    cases hd : dec s x with
    | error v => rw [hd] at h; cases h
    | ok s1 =>
      rw [hd] at h
      have h1 := hl _ _ _ hd
      have h2 := ih s1 s' h
      rw [List.length_cons]
      omega
theorem upFrom_length (n a : Nat) : (upFrom n a).length = n - (a + 1) := List.length_range' ..
theorem loops3B {L0 : Int → σ → Nat → Option ρ} {L1 : Int → Int → σ → Nat → Option ρ} {L2 : Int → Int → Int → σ → Nat → Option ρ} (hn : n ≤ 7) (len : σ → Nat) (B : Nat) (dec : σ → Nat × Nat × Nat → Except ρ σ) (hl : ∀ s x s', dec s x = .ok s' → len s' ≤ len s + 1)
    (e0 : ∀ s, Goes (.ok s) K (L0 (n : Int) s)) (s0 : ∀ a, a < n → ∀ s, Goes (.ok s) (fun s => L1 (a : Int) ((a + 1 : Nat) : Int) s) (L0 (a : Int) s))
    (e1 : ∀ a, a < n → ∀ s, Goes (.ok s) (fun s => L0 ((a + 1 : Nat) : Int) s) (L1 (a : Int) (n : Int) s)) (s1 : ∀ a b, a < b → b < n → ∀ s, Goes (.ok s) (fun s => L2 (a : Int) (b : Int) ((b + 1 : Nat) : Int) s) (L1 (a : Int) (b : Int) s))
    (e2 : ∀ a b, a < b → b < n → ∀ s, Goes (.ok s) (fun s => L1 (a : Int) ((b + 1 : Nat) : Int) s) (L2 (a : Int) (b : Int) (n : Int) s))
    (hb : ∀ a b c, a < b → b < c → c < n → ∀ s, len s ≤ B + 343 → Goes (dec s (a, b, c)) (fun s => L2 (a : Int) (b : Int) ((c + 1 : Nat) : Int) s) (L2 (a : Int) (b : Int) (c : Int) s)) (s : σ) (hs : len s ≤ B) : Goes ((tripsL n).foldlM dec s) K (L0 0 s) := by
  have h := loop_up' (K := K) (L := L0) (lo := 0) (n := n) (fun a s => len s ≤ B + 49 * a) (fun s a => (upFrom n a).foldlM (fun s b => (upFrom n b).foldlM (fun s c => dec s (a, b, c)) s) s) (fun s _ => e0 s) (fun a _ ha s hs => ?_) (fun a _ ha s hs s' e => ?_) (by omega) s (by omega)
  · refine Goes.cast h ?_
    rw [tripsL, foldlM_flatMap]
    simp only [foldlM_mapx, foldlM_flatMap, Nat.sub_zero]
  · refine Goes.map (fun _ => s0 a ha s _) (loop_up' (lo := a + 1) (n := n) (K := fun s => L0 ((a + 1 : Nat) : Int) s) (L := L1 (a : Int)) (fun b s => len s ≤ B + 49 * a + 7 * b) (fun s b => (upFrom n b).foldlM (fun s c => dec s (a, b, c)) s) (fun s _ => e1 a ha s)
      (fun b hlo hb' s hs => ?_) (fun b hlo hb' s hs s' e => ?_) (by omega) s (by omega))
    · exact Goes.map (fun _ => s1 a b (by omega) hb' s _) (loop_up' (lo := b + 1) (n := n) (K := fun s => L1 (a : Int) ((b + 1 : Nat) : Int) s) (L := L2 (a : Int) (b : Int)) (fun c s => len s ≤ B + 49 * a + 7 * b + c) (fun s c => dec s (a, b, c)) (fun s _ => e2 a b (by omega) hb' s)
        (fun c hl' hc s hs => hb a b c (by omega) (by omega) hc s (by omega)) (fun c hl' hc s hs s' e => by have := hl _ _ _ e; omega) (by omega) s (by omega))
    · have := fold_len len (fun s x s' => hl s (a, b, x) s') _ _ _ e
      rw [upFrom_length] at this
      omega
  · have key : ∀ (l : List Nat), ∀ s s', l.foldlM (fun s b => (upFrom n b).foldlM (fun s c => dec s (a, b, c)) s) s = .ok s' → len s' ≤ len s + 7 * l.length := by
      intro l
      induction l with
      | nil => intro s s' h; cases h; exact Nat.le_refl _
      | cons x l ih =>
        intro s s' h
        rw [List.foldlM_cons] at h
        cases hd : (upFrom n x).foldlM (fun s c => dec s (a, x, c)) s with
        | error v => rw [hd] at h; cases h
        | ok s1 =>
          rw [hd] at h
          have h1 := fold_len len (fun s y s' => hl s (a, x, y) s') _ _ _ hd
          have h2 := ih s1 s' h
          rw [upFrom_length] at h1
          rw [List.length_cons]
          omega
    have := key _ _ _ e
    rw [upFrom_length] at this
    omega
theorem foldlM_okL {α : Type} (g : σ → α → σ) (len : σ → Nat) (hg : ∀ s a, len (g s a) ≤ len s + 1) : ∀ s x s', (fun s a => (.ok (g s a) : Except ρ σ)) s x = .ok s' → len s' ≤ len s + 1 := by
  intro s x s' h
  cases h
  exact hg s x
end
end Go.Proofs.Ytckkfjdkaimmhaa.M
namespace Go.Proofs.Ytckkfjdkaimmhaa.M
open Go.RowKit Go.Proofs.YtckkfjdkaimmhaaW.PrintWords Go.Proofs.Ytckkfjdkaimmhaa.PX
abbrev IP := S83
theorem rdIP {l : List IP} {i : Nat} (h : i < l.length) : rd_T83 l (i : Int) = l[i] := by
  unfold rd_T83
  rw [Int.toNat_natCast, List.getD_eq_getElem?_getD, List.getElem?_eq_getElem h]
  rfl
end Go.Proofs.Ytckkfjdkaimmhaa.M
namespace Go.Proofs.Ytckkfjdkaimmhaa.M
open Go.RowKit Go.Proofs.YtckkfjdkaimmhaaW.PrintWords Go.Proofs.Ytckkfjdkaimmhaa.PX Go.Proofs.Ytckkfjdkaimmhaa.G
def nearP (most : Int) (p : IP) : Bool := (decide (-most ≤ p.f0) && decide (p.f0 ≤ most)) && (decide (-most ≤ p.f1) && decide (p.f1 ≤ most))
def areaP (a b c : IP) : Int := (b.f0 - a.f0) * (c.f1 - a.f1) - (b.f1 - a.f1) * (c.f0 - a.f0)
def sgnI (x : Int) : Int := if x < 0 then -1 else if x > 0 then 1 else 0
theorem nearP_iff {most : Int} {p : IP} : nearP most p = true ↔ (-most ≤ p.f0 ∧ p.f0 ≤ most) ∧ (-most ≤ p.f1 ∧ p.f1 ≤ most) := by
  unfold nearP
  simp only [Bool.and_eq_true, decide_eq_true_eq]
theorem spec_fits (p : IP) (most : Int) (h0 : 0 ≤ most) (h1 : most ≤ 1000000) : spec_l2Fits.f p.f0 p.f1 most = some (nearP most p) := by
  have one : ∀ x : Int, spec_l1In.f x (-most) most = some (decide (-most ≤ x) && decide (x ≤ most)) := by
    intro x
    unfold spec_l1In.f
    by_cases h : x ≥ -most
    · rw [if_pos h, decide_eq_true (show -most ≤ x from h), Bool.true_and]
    · rw [if_neg h, decide_eq_false (show ¬ -most ≤ x from h), Bool.false_and]
  unfold spec_l2Fits.f nearP
  rw [wrap_id (by omega) (by omega), one, one]
  cases decide (-most ≤ p.f0) && decide (p.f0 ≤ most) <;> rfl
theorem mul_bd {x y : Int} (h1 : -2000 ≤ x) (h2 : x ≤ 2000) (h3 : -2000 ≤ y) (h4 : y ≤ 2000) : -4000000 ≤ x * y ∧ x * y ≤ 4000000 := by
  have h := Int.natAbs_mul x y
  have h' : x.natAbs * y.natAbs ≤ 2000 * 2000 := Nat.mul_le_mul (by omega) (by omega)
  omega
theorem area_ok {a b c : IP} (ha : nearP 1000 a = true) (hb : nearP 1000 b = true) (hc : nearP 1000 c = true) :
    wrap64 ((wrap64 ((wrap64 (b.f0 - a.f0)) * (wrap64 (c.f1 - a.f1)))) - (wrap64 ((wrap64 (b.f1 - a.f1)) * (wrap64 (c.f0 - a.f0))))) = areaP a b c ∧ -8000000 ≤ areaP a b c ∧ areaP a b c ≤ 8000000 := by
  obtain ⟨⟨a1, a2⟩, a3, a4⟩ := nearP_iff.1 ha
  obtain ⟨⟨b1, b2⟩, b3, b4⟩ := nearP_iff.1 hb
  obtain ⟨⟨c1, c2⟩, c3, c4⟩ := nearP_iff.1 hc
  have m1 := mul_bd (x := b.f0 - a.f0) (y := c.f1 - a.f1) (by omega) (by omega) (by omega) (by omega)
  have m2 := mul_bd (x := b.f1 - a.f1) (y := c.f0 - a.f0) (by omega) (by omega) (by omega) (by omega)
  rw [wrap_id (x := b.f0 - a.f0) (by omega) (by omega), wrap_id (x := c.f1 - a.f1) (by omega) (by omega), wrap_id (x := b.f1 - a.f1) (by omega) (by omega), wrap_id (x := c.f0 - a.f0) (by omega) (by omega)]
  rw [wrap_id (x := (b.f0 - a.f0) * (c.f1 - a.f1)) (by omega) (by omega), wrap_id (x := (b.f1 - a.f1) * (c.f0 - a.f0)) (by omega) (by omega)]
  unfold areaP
  exact ⟨wrap_id (by omega) (by omega), by omega, by omega⟩
def near3 (a b c : IP) : Bool := nearP 1000 a && (nearP 1000 b && nearP 1000 c)
theorem near3_iff {a b c : IP} : near3 a b c = true ↔ nearP 1000 a = true ∧ nearP 1000 b = true ∧ nearP 1000 c = true := by
  unfold near3
  simp only [Bool.and_eq_true]
theorem spec_area {a b c : IP} (h : near3 a b c = true) : spec_l2Area.f a.f0 a.f1 b.f0 b.f1 c.f0 c.f1 = some (areaP a b c) := by
  obtain ⟨ha, hb, hc⟩ := near3_iff.1 h
  unfold spec_l2Area.f
  rw [(area_ok ha hb hc).1]
end Go.Proofs.Ytckkfjdkaimmhaa.M
namespace Go.Proofs.Ytckkfjdkaimmhaa.M
open Go.RowKit Go.Proofs.YtckkfjdkaimmhaaW.PrintWords Go.Proofs.Ytckkfjdkaimmhaa.PX Go.Proofs.Ytckkfjdkaimmhaa.G
def pt (l : List IP) (i : Nat) : IP := rd_T83 l (i : Int)
theorem pt_eq {l : List IP} {i : Nat} (h : i < l.length) : pt l i = l[i] := rdIP h
def flatQ (l : List IP) (q : Nat × Nat × Nat) : Bool := decide (areaP (pt l q.1) (pt l q.2.1) (pt l q.2.2) = 0)
def arePts (l : List IP) : Bool := (decide (3 ≤ l.length) && decide (l.length ≤ 7)) && (l.all (nearP 50) && !((tripsL l.length).any (flatQ l)))
theorem near_wide {p : IP} (h : nearP 50 p = true) : nearP 1000 p = true := by
  rw [nearP_iff] at h ⊢
  omega
theorem arePts_iff {l : List IP} : arePts l = true ↔ (3 ≤ l.length ∧ l.length ≤ 7) ∧ (∀ p ∈ l, nearP 50 p = true) ∧ ∀ a b c, a < b → b < c → c < l.length → areaP (pt l a) (pt l b) (pt l c) ≠ 0 := by
  unfold arePts
  simp only [Bool.and_eq_true, decide_eq_true_eq, List.all_eq_true, Bool.not_eq_true', List.any_eq_false, flatQ]
  constructor
  · rintro ⟨h1, h2, h3⟩
    exact ⟨h1, h2, fun a b c hab hbc hc => h3 (a, b, c) (trips_mem hab hbc hc)⟩
  · rintro ⟨h1, h2, h3⟩
    exact ⟨h1, h2, fun ⟨a, b, c⟩ hq => h3 a b c (mem_trips hq).1 (mem_trips hq).2.1 (mem_trips hq).2.2⟩
theorem pts_near3 {l : List IP} (h : l.all (nearP 50) = true) {a b c : Nat} (ha : a < l.length) (hb : b < l.length) (hc : c < l.length) : near3 (pt l a) (pt l b) (pt l c) = true := by
  have key : ∀ {i : Nat}, i < l.length → nearP 1000 (pt l i) = true := fun {i} hi => by
    rw [pt_eq hi]
    exact near_wide (List.all_eq_true.1 h _ (List.getElem_mem hi))
  exact near3_iff.2 ⟨key ha, key hb, key hc⟩
theorem spec_inPts (x lo hi : Int) : spec_l1In.f x lo hi = some (decide (lo ≤ x) && decide (x ≤ hi)) := by
  unfold spec_l1In.f
  by_cases h : x ≥ lo
  · rw [if_pos h, decide_eq_true (show lo ≤ x from h), Bool.true_and]
  · rw [if_neg h, decide_eq_false (show ¬ lo ≤ x from h), Bool.false_and]
def offPts (l : List IP) (k : Nat) : Bool := !nearP 50 (pt l k) || (List.range' 0 (k - 0)).any fun j => (List.range' 0 (j - 0)).any fun i => flatQ l (i, j, k)
theorem offPts_any (l : List IP) : (!((List.range' 0 (l.length - 0)).any (offPts l))) = (l.all (nearP 50) && !((tripsL l.length).any (flatQ l))) := by
  rw [Bool.eq_iff_iff]
  simp only [Bool.not_eq_true', List.any_eq_false, Bool.and_eq_true, List.all_eq_true, offPts, Bool.or_eq_true, not_or, Bool.not_eq_false, List.any_eq_true, not_exists, not_and, List.mem_range'_1]
  constructor
  · intro h
    refine ⟨fun p hp => ?_, fun ⟨a, b, c⟩ hq => ?_⟩
    · obtain ⟨i, hi, rfl⟩ := List.getElem_of_mem hp
      have := (h i (by omega)).1
      rw [pt_eq hi] at this
      simpa using this
    · obtain ⟨h1, h2, h3⟩ := mem_trips hq
      exact (h c (by omega)).2 b (by omega) a (by omega)
  · rintro ⟨h1, h2⟩ k hk
    refine ⟨?_, fun j hj i hi => h2 (i, j, k) (trips_mem (by omega) (by omega) (by omega))⟩
    rw [pt_eq (show k < l.length by omega)]
    simpa using h1 _ (List.getElem_mem _)
theorem spec_arePts (l : List IP) (hl : l.length ≤ 10000000) : Ev (fun q => spec_ArePoints.f q l) (arePts l) := by
  unfold spec_ArePoints.f
  refine ev_call (spec_inPts _ _ _) ?_
  by_cases hn : 3 ≤ l.length ∧ l.length ≤ 7
  · refine ev_pos (by simp; omega) (ev_cast ?_ (show (!((List.range' 0 (l.length - 0)).any (offPts l))) = arePts l from ?_))
    · have key := loop_up' (σ := Unit) (ρ := Bool) (lo := 0) (n := l.length) (K := fun _ _ => some true) (L := fun x _ q => spec_ArePoints.l0 q l x) (fun k _ => ∀ i, i < k → nearP 50 (pt l i) = true) (fun _ k => if offPts l k then .error false else .ok ()) (fun u _ => ?_) (fun k _ hk u hI => ?_) (fun k _ hk u hI u' e => ?_) (by omega) () (fun i hi => absurd hi (Nat.not_lt_zero _))
      · rw [foldlM_any (offPts l)] at key
        cases hq : (List.range' 0 (l.length - 0)).any (offPts l) with
        | true => rw [hq] at key; exact key
        | false => rw [hq] at key; exact key _ (Ev.now _)
      · refine Goes.step ?_
        simp only [spec_ArePoints.l0]
        exact Goes.neg (by omega) (Goes.ok (K := fun _ _ => some true) u)
      · refine Goes.step ?_
        simp only [spec_ArePoints.l0]
        refine Goes.pos (by omega) (Goes.pos (by omega) (Goes.call (spec_fits (pt l k) 50 (by decide) (by decide)) ?_))
        cases hf : nearP 50 (pt l k) with
        | false => exact Goes.neg (by decide) (Goes.cast (Goes.ret _) (by simp [offPts, hf]))
        | true =>
          refine Goes.pos rfl ?_
          have one := loop_up (σ := Unit) (ρ := Bool) (lo := 0) (n := k) (K := fun _ q => spec_ArePoints.l0 q l ((k + 1 : Nat) : Int)) (L := fun x _ q => spec_ArePoints.l1 q l (k : Int) x) (fun _ j => if (List.range' 0 (j - 0)).any (fun i => flatQ l (i, j, k)) then .error false else .ok ()) (fun u => ?_) (fun j _ hj u => ?_) (by omega) ()
          · rw [foldlM_any (fun j => (List.range' 0 (j - 0)).any fun i => flatQ l (i, j, k))] at one
            refine one.cast ?_
            simp [offPts, hf]
          · refine Goes.step ?_
            simp only [spec_ArePoints.l1]
            rw [wrap_id (by omega) (by omega)]
            exact Goes.neg (by omega) (Goes.ok (K := fun (_ : Unit) q => spec_ArePoints.l0 q l ((k + 1 : Nat) : Int)) u)
          · refine Goes.step ?_
            simp only [spec_ArePoints.l1]
            refine Goes.pos (by omega) ?_
            have two := loop_up (σ := Unit) (ρ := Bool) (lo := 0) (n := j) (K := fun _ q => spec_ArePoints.l1 q l (k : Int) ((j + 1 : Nat) : Int)) (L := fun x _ q => spec_ArePoints.l2 q l (k : Int) (j : Int) x) (fun _ i => if flatQ l (i, j, k) then .error false else .ok ()) (fun u => ?_) (fun i _ hi u => ?_) (by omega) ()
            · rw [foldlM_any (fun i => flatQ l (i, j, k))] at two
              exact two
            · refine Goes.step ?_
              simp only [spec_ArePoints.l2]
              rw [wrap_id (by omega) (by omega)]
              exact Goes.neg (by omega) (Goes.ok (K := fun (_ : Unit) q => spec_ArePoints.l1 q l (k : Int) ((j + 1 : Nat) : Int)) u)
            · refine Goes.step ?_
              simp only [spec_ArePoints.l2]
              rw [wrap_id (x := (i : Int) + 1) (by omega) (by omega)]
              refine Goes.pos (by omega) (Goes.pos (by omega) (Goes.pos (by omega) (Goes.pos (by omega) (Goes.pos (by omega) (Goes.pos (by omega) (Goes.pos (by omega) ?_))))))
              have nn : ∀ x, x ≤ k → nearP 1000 (pt l x) = true := fun x hx => by
                by_cases e : x = k
                · subst e; exact near_wide hf
                · exact near_wide (hI x (by omega))
              refine Goes.call (spec_area (a := pt l i) (b := pt l j) (c := pt l k) (near3_iff.2 ⟨nn i (by omega), nn j (by omega), nn k (by omega)⟩)) ?_
              by_cases g : areaP (pt l i) (pt l j) (pt l k) = 0
              · exact Goes.pos g (Goes.cast (Goes.ret _) (by simp [flatQ, g]))
              · exact Goes.neg g (Goes.cast (Goes.ok (K := fun (_ : Unit) q => spec_ArePoints.l2 q l (k : Int) (j : Int) ((i + 1 : Nat) : Int)) u) (by simp [flatQ, g]))
      · intro i hi
        by_cases ei : i = k
        · subst ei
          cases hf : nearP 50 (pt l i) with
          | true => rfl
          | false => simp [offPts, hf] at e
        · exact hI i (by omega)
    · unfold arePts
      rw [offPts_any]
      simp [hn.1, hn.2]
  · refine ev_neg (by simp; omega) (ev_cast (Ev.now _) ?_)
    unfold arePts
    have : (decide (3 ≤ l.length) && decide (l.length ≤ 7)) = false := by simp; omega
    rw [this]
    rfl
end Go.Proofs.Ytckkfjdkaimmhaa.M
namespace Go.Proofs.Ytckkfjdkaimmhaa.M
open Go.RowKit Go.Proofs.YtckkfjdkaimmhaaW.PrintWords Go.Proofs.Ytckkfjdkaimmhaa.PX
def inR (n a : Int) : Bool := decide (0 ≤ a) && decide (a < n)
theorem isElement_f (n a : Int) : impl_isElement.f n a = some (inR n a) := by
  unfold impl_isElement.f inR
  by_cases h : a ≥ 0
  · rw [if_pos h, decide_eq_true (show (0 : Int) ≤ a from h), Bool.true_and]
  · rw [if_neg h, decide_eq_false (show ¬ (0 : Int) ≤ a from h), Bool.false_and]
theorem index_loop (l : List Int) (a : Int) (hl : l.length ≤ 9223372036854775807) (d : Nat) : ∀ i : Nat, i + d = l.length →
    ∃ r, Ev (fun k => slices_Index_int_int.l0 k l a (l.length : Int) (i : Int)) r ∧ decide (r ≥ 0) = (l.drop i).contains a := by
  induction d with
  | zero =>
    intro i hi
    refine ⟨-1, ev_step ?_, ?_⟩
    · simp only [slices_Index_int_int.l0]
      exact ev_neg (by omega) (Ev.now _)
    · rw [List.drop_of_length_le (by omega)]; rfl
  | succ d ih =>
    intro i hi
    have hlt : i < l.length := by omega
    have hr : rd l (i : Int) = l[i] := by
      unfold rd
      rw [Int.toNat_natCast, List.getD_eq_getElem?_getD, List.getElem?_eq_getElem hlt]; rfl
    rw [List.drop_eq_getElem_cons hlt]
    by_cases h : a = l[i]
    · refine ⟨i, ev_step ?_, ?_⟩
      · simp only [slices_Index_int_int.l0, hr]
        exact ev_pos (by omega) (ev_pos (by omega) (ev_pos (by omega) (ev_pos h (Ev.now _))))
      · subst h
        rw [List.contains_cons, beq_self_eq_true, Bool.true_or]
        exact decide_eq_true (by omega)
    · obtain ⟨r, h1, h2⟩ := ih (i + 1) (by omega)
      refine ⟨r, ev_step ?_, ?_⟩
      · simp only [slices_Index_int_int.l0, hr]
        refine ev_pos (by omega) (ev_pos (by omega) (ev_pos (by omega) (ev_neg h ?_)))
        rw [wrap_id (by omega) (by omega)]
        exact h1
      · rw [h2, List.contains_cons, beq_eq_false_iff_ne.2 h, Bool.false_or]
theorem contains_ev (l : List Int) (a : Int) (hl : l.length ≤ 9223372036854775807) : Ev (fun k => slices_Contains_int_int.f k l a) (l.contains a) := by
  obtain ⟨r, h1, h2⟩ := index_loop l a hl l.length 0 (by omega)
  unfold slices_Contains_int_int.f
  refine Ev.bind h1 ?_
  rw [h2, List.drop_zero]
  exact Ev.now _
def areD (n : Int) (l : List Int) : Bool := (List.range l.length).all fun i => inR n (l.getD i 0) && !((l.take i).contains (l.getD i 0))
theorem diff_loop (n : Int) (l : List Int) (hl : l.length ≤ 9223372036854775807) (d : Nat) : ∀ i : Nat, i + d = l.length →
    Ev (fun k => impl_areDifferent.l0 k n l l (l.length : Int) (i : Int)) ((List.range' i d).all fun i => inR n (l.getD i 0) && !((l.take i).contains (l.getD i 0))) := by
  induction d with
  | zero =>
    intro i hi
    refine ev_step ?_
    simp only [impl_areDifferent.l0]
    exact ev_neg (by omega) (Ev.now _)
  | succ d ih =>
    intro i hi
    have hr : rd l (i : Int) = l.getD i 0 := by unfold rd; rw [Int.toNat_natCast]
    rw [List.range'_succ, List.all_cons]
    refine ev_step ?_
    simp only [impl_areDifferent.l0, hr, Int.toNat_natCast]
    refine ev_pos (by omega) (ev_pos (by omega) (ev_pos (by omega) (ev_call (isElement_f n _) ?_)))
    cases h1 : inR n (l.getD i 0) with
    | false => exact ev_neg (by simp) (Ev.now _)
    | true =>
      refine ev_pos (by trivial) (ev_pos (by omega) (Ev.bind (contains_ev _ _ (by rw [List.length_take]; omega)) ?_))
      cases h2 : (l.take i).contains (l.getD i 0) with
      | true => exact ev_pos (by trivial) (Ev.now _)
      | false =>
        refine ev_neg (by simp) ?_
        rw [wrap_id (by omega) (by omega)]
        simp only [Bool.not_false, Bool.and_self, Bool.true_and]
        exact ih (i + 1) (by omega)
theorem different_ev (n : Int) (l : List Int) (hl : l.length ≤ 9223372036854775807) : Ev (fun k => impl_areDifferent.f k n l) (areD n l) := by
  unfold impl_areDifferent.f areD
  rw [List.range_eq_range']
  exact diff_loop n l hl l.length 0 (by omega)
theorem areD_3 (n a b c : Int) : areD n [a, b, c] = true ↔ (0 ≤ a ∧ a < n) ∧ (0 ≤ b ∧ b < n) ∧ (0 ≤ c ∧ c < n) ∧ a ≠ b ∧ b ≠ c ∧ a ≠ c := by
  have e : areD n [a, b, c] = ((inR n a && !(([] : List Int).contains a)) && ((inR n b && !([a].contains b)) && ((inR n c && !([a, b].contains c)) && true))) := rfl
  rw [e]
  simp only [inR, Bool.and_eq_true, decide_eq_true_eq, List.contains_cons, List.contains_nil, Bool.not_eq_true', Bool.or_eq_false_iff, beq_eq_false_iff_ne, ne_eq, and_true, Bool.or_false]
  constructor <;> intro h <;> omega
end Go.Proofs.Ytckkfjdkaimmhaa.M
namespace Go.Proofs.Ytckkfjdkaimmhaa.M
open Go.RowKit Go.Proofs.YtckkfjdkaimmhaaW.PrintWords Go.Proofs.Ytckkfjdkaimmhaa.PX Go.Proofs.Ytckkfjdkaimmhaa.G
def signAt (n : Int) (t : ByteArray) (i j k : Int) : Int := if areOk n t = true ∧ areD n [i, j, k] = true then chi n.toNat t i.toNat j.toNat k.toNat else 0
theorem nat_of {x n : Int} (h : 0 ≤ x ∧ x < n) : ∃ m : Nat, x = (m : Int) := Int.eq_ofNat_of_zero_le h.1
theorem spec_signAt (n : Int) (t : ByteArray) (i j k : Int) (hs : t.size ≤ 9223372036854775807) : Ev (fun q => spec_SignAt.f q n t i j k) (signAt n t i j k) := by
  unfold spec_SignAt.f signAt
  refine Ev.bind (spec_are n t hs) ?_
  by_cases h : areOk n t = true
  · obtain ⟨⟨h0, h1⟩, _, _⟩ := (areOk_iff _ _).1 h
    refine ev_pos h ?_
    rw [wrap_id (by omega) (by omega)]
    have key : ∀ x : Int, (decide (0 ≤ x) && decide (x ≤ n - 1)) = true ↔ (0 ≤ x ∧ x < n) := fun x => by
      simp only [Bool.and_eq_true, decide_eq_true_eq]; omega
    by_cases hi : 0 ≤ i ∧ i < n
    · refine ev_call (spec_in i 0 (n - 1)) (ev_pos ((key i).2 hi) ?_)
      by_cases hj : 0 ≤ j ∧ j < n
      · refine ev_call (spec_in j 0 (n - 1)) (ev_pos ((key j).2 hj) ?_)
        by_cases hk : 0 ≤ k ∧ k < n
        · refine ev_call (spec_in k 0 (n - 1)) (ev_pos ((key k).2 hk) ?_)
          by_cases e1 : i = j
          · rw [if_neg (fun e => ((areD_3 _ _ _ _).1 e.2).2.2.2.1 e1)]
            exact ev_pos e1 (Ev.now _)
          · refine ev_neg e1 ?_
            by_cases e2 : j = k
            · rw [if_neg (fun e => ((areD_3 _ _ _ _).1 e.2).2.2.2.2.1 e2)]
              exact ev_pos e2 (Ev.now _)
            · refine ev_neg e2 ?_
              by_cases e3 : i = k
              · rw [if_neg (fun e => ((areD_3 _ _ _ _).1 e.2).2.2.2.2.2 e3)]
                exact ev_pos e3 (Ev.now _)
              · refine ev_neg e3 ?_
                rw [if_pos ⟨h, (areD_3 _ _ _ _).2 ⟨hi, hj, hk, e1, e2, e3⟩⟩]
                obtain ⟨N, rfl⟩ : ∃ N : Nat, n = (N : Int) := Int.eq_ofNat_of_zero_le (by omega)
                obtain ⟨a, rfl⟩ := nat_of hi
                obtain ⟨b, rfl⟩ := nat_of hj
                obtain ⟨c, rfl⟩ := nat_of hk
                simp only [Int.toNat_natCast]
                exact Ev.bind (l3At_ev h (by omega) (by omega) (by omega) (by omega) (by omega) (by omega)) (Ev.now _)
        · rw [if_neg (fun e => hk ((areD_3 _ _ _ _).1 e.2).2.2.1)]
          exact ev_call (spec_in k 0 (n - 1)) (ev_neg (fun e => hk ((key k).1 e)) (Ev.now _))
      · rw [if_neg (fun e => hj ((areD_3 _ _ _ _).1 e.2).2.1)]
        exact ev_call (spec_in j 0 (n - 1)) (ev_neg (fun e => hj ((key j).1 e)) (Ev.now _))
    · rw [if_neg (fun e => hi ((areD_3 _ _ _ _).1 e.2).1)]
      exact ev_call (spec_in i 0 (n - 1)) (ev_neg (fun e => hi ((key i).1 e)) (Ev.now _))
  · rw [if_neg (fun e => h e.1)]
    exact ev_neg h (Ev.now _)
end Go.Proofs.Ytckkfjdkaimmhaa.M
namespace Go.Proofs.Ytckkfjdkaimmhaa.M
open Go.RowKit Go.Proofs.YtckkfjdkaimmhaaW.PrintWords Go.Proofs.Ytckkfjdkaimmhaa.PX Go.Proofs.Ytckkfjdkaimmhaa.G
theorem areD_4 (n a b c d : Int) : areD n [a, b, c, d] = true ↔ ((0 ≤ a ∧ a < n) ∧ (0 ≤ b ∧ b < n) ∧ (0 ≤ c ∧ c < n) ∧ (0 ≤ d ∧ d < n)) ∧ a ≠ b ∧ a ≠ c ∧ a ≠ d ∧ b ≠ c ∧ b ≠ d ∧ c ≠ d := by
  have e : areD n [a, b, c, d] = ((inR n a && !(([] : List Int).contains a)) && ((inR n b && !([a].contains b)) && ((inR n c && !([a, b].contains c)) && ((inR n d && !([a, b, c].contains d)) && true)))) := rfl
  rw [e]
  simp only [inR, Bool.and_eq_true, decide_eq_true_eq, List.contains_cons, List.contains_nil, Bool.not_eq_true', Bool.or_eq_false_iff, beq_eq_false_iff_ne, ne_eq, and_true, Bool.or_false]
  constructor <;> intro h <;> omega
def sB (x : Int) : UInt8 := if x > 0 then 43 else 45
def circT (A B C D : Int) : ByteArray := ⟨#[43, sB (-A * B), sB (A * C), sB (-A * D)]⟩
def pm : List Int := [1, -1]
def circChk : Bool := pm.all fun A => pm.all fun B => pm.all fun C => pm.all fun D => decide (impl_chi_circuit.l0 20 ([] : List Int) [A, wrap64 (-B), C, wrap64 (-D)] 4 0 = some (circT A B C D))
theorem circChk_ok : circChk = true := by decide +kernel
theorem pm_mem {x : Int} (h : x = 1 ∨ x = -1) : x ∈ pm := by rcases h with h | h <;> rw [h] <;> decide
theorem circ_loop {A B C D : Int} (hA : A = 1 ∨ A = -1) (hB : B = 1 ∨ B = -1) (hC : C = 1 ∨ C = -1) (hD : D = 1 ∨ D = -1) : Ev (fun k => impl_chi_circuit.l0 k ([] : List Int) [A, wrap64 (-B), C, wrap64 (-D)] 4 0) (circT A B C D) := by
  have h := circChk_ok
  have h := List.all_eq_true.1 h A (pm_mem hA)
  have h := List.all_eq_true.1 h B (pm_mem hB)
  have h := List.all_eq_true.1 h C (pm_mem hC)
  have h := List.all_eq_true.1 h D (pm_mem hD)
  exact Ev.of (fun k => impl_chi_circuit.mono_l k _ _ _ _) (of_decide_eq_true h)
def circ (n : Int) (t : ByteArray) (a b c d : Int) : ByteArray := if areOk n t = true ∧ areD n [a, b, c, d] = true then circT (chi n.toNat t b.toNat c.toNat d.toNat) (chi n.toNat t a.toNat c.toNat d.toNat) (chi n.toNat t a.toNat b.toNat d.toNat) (chi n.toNat t a.toNat b.toNat c.toNat) else ⟨#[]⟩
theorem chi_circuit_ev {n : Nat} {t : ByteArray} (h : areOk n t = true) {a b c d : Nat} (ha : a < n) (hb : b < n) (hc : c < n) (hd : d < n) (e1 : a ≠ b) (e2 : a ≠ c) (e3 : a ≠ d) (e4 : b ≠ c) (e5 : b ≠ d) (e6 : c ≠ d) :
    Ev (fun k => impl_chi_circuit.f k (tblL n t) (a : Int) (b : Int) (c : Int) (d : Int)) (circT (chi n t b c d) (chi n t a c d) (chi n t a b d) (chi n t a b c)) := by
  obtain ⟨⟨h0, h1⟩, _, _⟩ := (areOk_iff _ _).1 h
  have h0 : 3 ≤ n := by omega
  have h1 : n ≤ 7 := by omega
  unfold impl_chi_circuit.f
  refine ev_pos (by omega) (ev_pos (by omega) (ev_pos (by omega) (ev_pos (by omega) (ev_pos (by omega) (ev_pos (by omega) (ev_pos (by omega) (ev_pos (by omega) ?_)))))))
  rw [tbl_rd n t b c d (by omega) (by omega) (by omega), tbl_rd n t a c d (by omega) (by omega) (by omega), tbl_rd n t a b d (by omega) (by omega) (by omega), tbl_rd n t a b c (by omega) (by omega) (by omega)]
  exact ev_call rfl (circ_loop (chi_pm t h0 h1 hb hc hd e4 e6 e5) (chi_pm t h0 h1 ha hc hd e2 e6 e3) (chi_pm t h0 h1 ha hb hd e1 e5 e3) (chi_pm t h0 h1 ha hb hc e1 e4 e2))
theorem impl_circ (n : Int) (t : ByteArray) (a b c d : Int) (hs : t.size ≤ 9223372036854775807) : Ev (fun k => impl_CircuitOf.f k n t a b c d) (circ n t a b c d) := by
  unfold impl_CircuitOf.f circ
  refine Ev.bind (impl_are n t hs) ?_
  by_cases h : areOk n t = true
  · refine ev_pos h (Ev.bind (different_ev n [a, b, c, d] (by simp)) (ev_step ?_))
    simp only [impl_CircuitOf.j0]
    by_cases hd : areD n [a, b, c, d] = true
    · rw [if_pos ⟨h, hd⟩]
      refine ev_neg (by rw [hd]; decide) ?_
      obtain ⟨⟨ha, hb, hc, hdd⟩, e1, e2, e3, e4, e5, e6⟩ := (areD_4 _ _ _ _ _).1 hd
      obtain ⟨⟨h0, h1⟩, _, _⟩ := (areOk_iff _ _).1 h
      obtain ⟨N, rfl⟩ : ∃ N : Nat, n = (N : Int) := Int.eq_ofNat_of_zero_le (by omega)
      obtain ⟨a, rfl⟩ := nat_of ha
      obtain ⟨b, rfl⟩ := nat_of hb
      obtain ⟨c, rfl⟩ := nat_of hc
      obtain ⟨d, rfl⟩ := nat_of hdd
      simp only [Int.toNat_natCast]
      exact Ev.bind (tableOf_ev h) (ev_pos (tblL_length _ _) (Ev.bind (chi_circuit_ev h (by omega) (by omega) (by omega) (by omega) (by omega) (by omega) (by omega) (by omega) (by omega) (by omega)) (Ev.now _)))
    · rw [if_neg (fun e => hd e.2)]
      exact ev_pos (by rw [Bool.eq_false_iff.mpr hd]; rfl) (Ev.now _)
  · rw [if_neg (fun e => h e.1)]
    refine ev_neg h (ev_step ?_)
    simp only [impl_CircuitOf.j0]
    exact ev_pos (by trivial) (Ev.now _)
theorem byte_f {x : Int} : ∃ v : ByteArray, spec_l3Byte.f x = some v ∧ v = ⟨#[sB x]⟩ := by
  unfold spec_l3Byte.f sB
  split
  · exact ⟨_, rfl, rfl⟩
  · exact ⟨_, rfl, rfl⟩
theorem l3Byte_ev (x : Int) : spec_l3Byte.f x = some ⟨#[sB x]⟩ := by
  obtain ⟨v, h, e⟩ := byte_f (x := x)
  rw [h, e]
theorem spec_circ4 {n : Nat} {t : ByteArray} (h : areOk n t = true) {a b c d : Nat} (ha : a < n) (hb : b < n) (hc : c < n) (hd : d < n) (e1 : a ≠ b) (e2 : a ≠ c) (e3 : a ≠ d) (e4 : b ≠ c) (e5 : b ≠ d) (e6 : c ≠ d) :
    Ev (fun k => spec_l4Circuit.f k (n : Int) t (a : Int) (b : Int) (c : Int) (d : Int)) (circT (chi n t b c d) (chi n t a c d) (chi n t a b d) (chi n t a b c)) := by
  obtain ⟨⟨h0, h1⟩, _, _⟩ := (areOk_iff _ _).1 h
  have h0 : 3 ≤ n := by omega
  have h1 : n ≤ 7 := by omega
  unfold spec_l4Circuit.f
  refine Ev.bind (l3At_ev h hb hc hd e4 e6 e5) (Ev.bind (l3At_ev h ha hc hd e2 e6 e3) (ev_call (l3Byte_ev _) (ev_pos (by show (1 : Nat) + 1 ≤ 9223372036854775807; omega) ?_)))
  refine Ev.bind (l3At_ev h ha hb hd e1 e5 e3) (ev_call (l3Byte_ev _) (ev_pos (by show (1 : Nat) + 1 + 1 ≤ 9223372036854775807; omega) ?_))
  refine Ev.bind (l3At_ev h ha hb hc e1 e4 e2) (ev_call (l3Byte_ev _) (ev_pos (by show (1 : Nat) + 1 + 1 + 1 ≤ 9223372036854775807; omega) (ev_cast (Ev.now _) ?_)))
  rcases chi_pm t h0 h1 hb hc hd e4 e6 e5 with A | A <;> rcases chi_pm t h0 h1 ha hc hd e2 e6 e3 with B | B <;> rcases chi_pm t h0 h1 ha hb hd e1 e5 e3 with C | C <;> rcases chi_pm t h0 h1 ha hb hc e1 e4 e2 with D | D <;> rw [A, B, C, D] <;> decide +kernel
theorem signAt_zero (n : Int) (t : ByteArray) (i j k : Int) : signAt n t i j k = 0 ↔ ¬ (areOk n t = true ∧ areD n [i, j, k] = true) := by
  unfold signAt
  constructor
  · intro h e
    rw [if_pos e] at h
    obtain ⟨hi, hj, hk, e1, e2, e3⟩ := (areD_3 _ _ _ _).1 e.2
    obtain ⟨⟨h0, h1⟩, _, _⟩ := (areOk_iff _ _).1 e.1
    rcases chi_pm (n := n.toNat) (a := i.toNat) (b := j.toNat) (c := k.toNat) t (by omega) (by omega) (by omega) (by omega) (by omega) (by omega) (by omega) (by omega) with g | g <;> omega
  · intro h
    rw [if_neg h]
theorem spec_circ (n : Int) (t : ByteArray) (a b c d : Int) (hs : t.size ≤ 9223372036854775807) : Ev (fun k => spec_CircuitOf.f k n t a b c d) (circ n t a b c d) := by
  unfold spec_CircuitOf.f circ
  by_cases g : areOk n t = true ∧ areD n [a, b, c, d] = true
  · rw [if_pos g]
    obtain ⟨h, hd⟩ := g
    obtain ⟨⟨ha, hb, hc, hdd⟩, e1, e2, e3, e4, e5, e6⟩ := (areD_4 _ _ _ _ _).1 hd
    refine Ev.bind (spec_signAt n t a b c hs) (ev_neg (fun z => (signAt_zero _ _ _ _ _).1 z ⟨h, (areD_3 _ _ _ _).2 ⟨ha, hb, hc, e1, e4, e2⟩⟩) ?_)
    refine Ev.bind (spec_signAt n t b c d hs) (ev_neg (fun z => (signAt_zero _ _ _ _ _).1 z ⟨h, (areD_3 _ _ _ _).2 ⟨hb, hc, hdd, e4, e6, e5⟩⟩) ?_)
    refine Ev.bind (spec_signAt n t a c d hs) (ev_neg (fun z => (signAt_zero _ _ _ _ _).1 z ⟨h, (areD_3 _ _ _ _).2 ⟨ha, hc, hdd, e2, e6, e3⟩⟩) ?_)
    refine Ev.bind (spec_signAt n t a b d hs) (ev_neg (fun z => (signAt_zero _ _ _ _ _).1 z ⟨h, (areD_3 _ _ _ _).2 ⟨ha, hb, hdd, e1, e5, e3⟩⟩) ?_)
    obtain ⟨⟨h0, h1⟩, _, _⟩ := (areOk_iff _ _).1 h
    obtain ⟨N, rfl⟩ : ∃ N : Nat, n = (N : Int) := Int.eq_ofNat_of_zero_le (by omega)
    obtain ⟨a, rfl⟩ := nat_of ha
    obtain ⟨b, rfl⟩ := nat_of hb
    obtain ⟨c, rfl⟩ := nat_of hc
    obtain ⟨d, rfl⟩ := nat_of hdd
    simp only [Int.toNat_natCast]
    exact Ev.bind (spec_circ4 h (by omega) (by omega) (by omega) (by omega) (by omega) (by omega) (by omega) (by omega) (by omega) (by omega)) (Ev.now _)
  · rw [if_neg g]
    refine Ev.bind (spec_signAt n t a b c hs) ?_
    by_cases g1 : signAt n t a b c = 0
    · exact ev_pos g1 (Ev.now _)
    refine ev_neg g1 (Ev.bind (spec_signAt n t b c d hs) ?_)
    by_cases g2 : signAt n t b c d = 0
    · exact ev_pos g2 (Ev.now _)
    refine ev_neg g2 (Ev.bind (spec_signAt n t a c d hs) ?_)
    by_cases g3 : signAt n t a c d = 0
    · exact ev_pos g3 (Ev.now _)
    refine ev_neg g3 (Ev.bind (spec_signAt n t a b d hs) ?_)
    by_cases g4 : signAt n t a b d = 0
    · exact ev_pos g4 (Ev.now _)
    exfalso
    rw [signAt_zero, Classical.not_not, areD_3] at g1 g2 g3 g4
    exact g ⟨g1.1, (areD_4 _ _ _ _ _).2 (by omega)⟩
end Go.Proofs.Ytckkfjdkaimmhaa.M
namespace Go.Proofs.Ytckkfjdkaimmhaa.M
open Go.RowKit Go.Proofs.YtckkfjdkaimmhaaW.PrintWords Go.Proofs.Ytckkfjdkaimmhaa.PX
theorem and255 (n : Int) : Go.bits .and .i64 n 255 = n % 256 := by
  have h255 : (BitVec.ofInt 64 255).toNat = 2 ^ 8 - 1 := by decide
  have key : (BitVec.ofInt 64 n &&& BitVec.ofInt 64 255).toNat = (n % ((2 ^ 64 : Nat) : Int)).toNat % 2 ^ 8 := by
    rw [BitVec.toNat_and, BitVec.toNat_ofInt, h255, Nat.and_two_pow_sub_one_eq_mod]
  show IntKind.i64.wrap ((BitVec.ofInt 64 n &&& BitVec.ofInt 64 255).toNat : Nat) = n % 256
  rw [key, IntKind.wrap_i64]
  omega
def Cur (l : List Int) (i : Int) : Prop := 0 ≤ i ∧ i ≤ (l.length : Int)
theorem byte_ok {l : List Int} (hl : l.length ≤ 1048576) {i : Int} (hc : Cur l i) (h : Int) : ∃ x i' h', spec_l1Byte.f l i h = some (x, i', h') ∧ (0 ≤ x ∧ x ≤ 255) ∧ Cur l i' := by
  obtain ⟨h0, h1⟩ := hc
  unfold spec_l1Byte.f
  by_cases g : i < (l.length : Int)
  · rw [if_pos g, if_pos h0, and255, and255]
    refine ⟨_, _, _, rfl, by omega, ?_, ?_⟩
    · rw [wrap_id (by omega) (by omega)]; omega
    · rw [wrap_id (by omega) (by omega)]; omega
  · rw [if_neg g, and255]
    exact ⟨_, _, _, rfl, by omega, h0, h1⟩
theorem below_ok {l : List Int} (hl : l.length ≤ 1048576) {i : Int} (hc : Cur l i) (h n : Int) : ∃ x i' h', spec_l1Below.f l i h n = some (x, i', h') ∧ (n ≤ 0 → x = 0) ∧ (0 < n → 0 ≤ x ∧ x < n) ∧ Cur l i' := by
  unfold spec_l1Below.f
  by_cases g : n ≤ 0
  · rw [if_pos g]
    exact ⟨_, _, _, rfl, fun _ => rfl, fun h => by omega, hc⟩
  · rw [if_neg g]
    have tm : ∀ x : Int, 0 ≤ x → 0 ≤ Int.tmod x n ∧ Int.tmod x n < n := fun x hx => by
      rw [Int.tmod_eq_emod_of_nonneg hx]
      exact ⟨Int.emod_nonneg _ (by omega), Int.emod_lt_of_pos _ (by omega)⟩
    by_cases g' : n ≤ 256
    · rw [if_pos g']
      obtain ⟨x, i1, h1, e1, b1, c1⟩ := byte_ok hl hc h
      rw [e1]
      simp only [Option.bind_some]
      rw [if_neg (by omega)]
      exact ⟨_, _, _, rfl, fun h => by omega, fun _ => tm x b1.1, c1⟩
    · rw [if_neg g']
      obtain ⟨x, i1, h1, e1, b1, c1⟩ := byte_ok hl hc h
      obtain ⟨y, i2, h2, e2, b2, c2⟩ := byte_ok hl c1 h1
      obtain ⟨z, i3, h3, e3, b3, c3⟩ := byte_ok hl c2 h2
      obtain ⟨w, i4, h4, e4, b4, c4⟩ := byte_ok hl c3 h3
      rw [e1]
      simp only [Option.bind_some]
      rw [e2]
      simp only [Option.bind_some]
      rw [e3]
      simp only [Option.bind_some]
      rw [e4]
      simp only [Option.bind_some]
      rw [if_neg (by omega)]
      refine ⟨_, _, _, rfl, fun h => by omega, fun _ => tm _ ?_, c4⟩
      rw [wrap_id (x := x * 16777216) (by omega) (by omega), wrap_id (x := y * 65536) (by omega) (by omega), wrap_id (x := z * 256) (by omega) (by omega), wrap_id (x := x * 16777216 + y * 65536) (by omega) (by omega)]
      rw [wrap_id (x := x * 16777216 + y * 65536 + z * 256) (by omega) (by omega), wrap_id (by omega) (by omega)]
      omega
theorem new_ok (l : List Int) (_ : l.length ≤ 1048576) : ∃ h, Ev (fun k => spec_l1New.f k l) (l, 0, h) := by
  have key : ∀ (d i : Nat) (x : Int), i + d = l.length → ∃ h, Ev (fun k => spec_l1New.l0 k l x (i : Int)) (l, 0, h) := by
    intro d
    induction d with
    | zero =>
      intro i x hi
      refine ⟨x, ev_step ?_⟩
      simp only [spec_l1New.l0]
      exact ev_neg (by omega) (Ev.now _)
    | succ d ih =>
      intro i x hi
      by_cases g : (i : Int) < 4000
      · obtain ⟨h, hh⟩ := ih (i + 1) (Go.bits .and .i64 (wrap64 ((wrap64 ((wrap64 (x * 131)) + (wrap64 (rd l (i : Int))))) + 7)) 1073741823) (by omega)
        refine ⟨h, ev_step ?_⟩
        simp only [spec_l1New.l0]
        rw [wrap_id (x := (i : Int) + 1) (by omega) (by omega)]
        exact ev_pos (by omega) (ev_pos g (ev_pos (by omega) hh))
      · refine ⟨x, ev_step ?_⟩
        simp only [spec_l1New.l0]
        exact ev_pos (by omega) (ev_neg g (Ev.now _))
  unfold spec_l1New.f
  exact key l.length 0 _ (by omega)
theorem cur0 (l : List Int) : Cur l 0 := ⟨Int.le_refl 0, by omega⟩
theorem pick_ok {l : List Int} (hl : l.length ≤ 1048576) {i : Int} (hc : Cur l i) (h : Int) (ts : List ByteArray) (ht : ts ≠ []) : ∃ x i' h', spec_l1Pick.f l i h ts = some (x, i', h') ∧ x ∈ ts ∧ Cur l i' := by
  have hp : 0 < ts.length := List.length_pos_iff.2 ht
  obtain ⟨x, i', h', e, _, b, c⟩ := below_ok hl hc h (ts.length : Int)
  have b := b (by omega)
  unfold spec_l1Pick.f
  rw [e]
  simp only [Option.bind_some]
  rw [if_pos b.1, if_pos b.2]
  refine ⟨_, _, _, rfl, ?_, c⟩
  obtain ⟨j, rfl⟩ := Int.eq_ofNat_of_zero_le b.1
  have hj : j < ts.length := by omega
  unfold rdOf
  rw [Int.toNat_natCast, List.getD_eq_getElem?_getD, List.getElem?_eq_getElem hj]
  exact List.getElem_mem hj
theorem pickInt_ok {l : List Int} (hl : l.length ≤ 1048576) {i : Int} (hc : Cur l i) (h : Int) (ts : List Int) (ht : ts ≠ []) : ∃ x i' h', spec_l1PickInt.f l i h ts = some (x, i', h') ∧ x ∈ ts ∧ Cur l i' := by
  have hp : 0 < ts.length := List.length_pos_iff.2 ht
  obtain ⟨x, i', h', e, _, b, c⟩ := below_ok hl hc h (ts.length : Int)
  have b := b (by omega)
  unfold spec_l1PickInt.f
  rw [e]
  simp only [Option.bind_some]
  rw [if_pos b.1, if_pos b.2]
  refine ⟨_, _, _, rfl, ?_, c⟩
  obtain ⟨j, rfl⟩ := Int.eq_ofNat_of_zero_le b.1
  have hj : j < ts.length := by omega
  unfold rd
  rw [Int.toNat_natCast, List.getD_eq_getElem?_getD, List.getElem?_eq_getElem hj]
  exact List.getElem_mem hj
theorem once_ok {l : List Int} (hl : l.length ≤ 1048576) {i : Int} (hc : Cur l i) (h n : Int) : ∃ b i' h', spec_l1Once.f l i h n = some (b, i', h') ∧ Cur l i' := by
  obtain ⟨x, i', h', e, _, _, c⟩ := below_ok hl hc h n
  unfold spec_l1Once.f
  rw [e]
  exact ⟨_, _, _, rfl, c⟩
end Go.Proofs.Ytckkfjdkaimmhaa.M
namespace Go.Proofs.Ytckkfjdkaimmhaa.M
open Go.RowKit Go.Proofs.YtckkfjdkaimmhaaW.PrintWords Go.Proofs.Ytckkfjdkaimmhaa.PX Go.Proofs.Ytckkfjdkaimmhaa.G
theorem l2_inner {x3 x5 : Int} {ps : List IP} {l : List Int} {i h p q : Int} {x8 : Nat} (h8 : x8 < ps.length) (hps : ps.length ≤ 100) (d : Nat) : ∀ (x9 : Nat) (x7 : Bool), x9 + d = x8 →
    ∃ x7', ∀ r, Ev (fun k => spec_l2Draw.l1 k x3 ps x5 x7' ((x8 + 1 : Nat) : Int) l i h p q) r → Ev (fun k => spec_l2Draw.l2 k x3 ps x5 x7 (x8 : Int) (x9 : Int) l i h p q) r := by
  induction d with
  | zero =>
    intro x9 x7 hd
    refine ⟨x7, fun r hr => ev_step ?_⟩
    simp only [spec_l2Draw.l2]
    rw [wrap_id (x := (x8 : Int) + 1) (by omega) (by omega)]
    exact ev_neg (by omega) hr
  | succ d ih =>
    intro x9 x7 hd
    cases x7 with
    | false =>
      refine ⟨false, fun r hr => ev_step ?_⟩
      simp only [spec_l2Draw.l2]
      rw [wrap_id (x := (x8 : Int) + 1) (by omega) (by omega)]
      exact ev_pos (by omega) (ev_neg (by decide) hr)
    | true =>
      obtain ⟨v, hv⟩ : ∃ v, spec_l2Area.f ((rd_T83 ps (x9 : Int)).f0) ((rd_T83 ps (x9 : Int)).f1) ((rd_T83 ps (x8 : Int)).f0) ((rd_T83 ps (x8 : Int)).f1) p q = some v := ⟨_, rfl⟩
      obtain ⟨x7', h'⟩ := ih (x9 + 1) (v != 0) (by omega)
      refine ⟨x7', fun r hr => ev_step ?_⟩
      simp only [spec_l2Draw.l2]
      rw [wrap_id (x := (x9 : Int) + 1) (by omega) (by omega)]
      exact ev_pos (by omega) (ev_pos (by trivial) (ev_pos (by omega) (ev_pos (by omega) (ev_pos (by omega) (ev_pos (by omega) (ev_call hv (h' r hr)))))))
theorem l2_outer {x3 : Int} {x5 : Nat} (h5 : x5 ≤ 12) {ps : List IP} {l : List Int} {i h p q : Int} (hps : ps.length ≤ 100) (d : Nat) : ∀ (x8 : Nat) (x7 : Bool), x8 + d = ps.length →
    ∃ ps' : List IP, ps'.length ≤ ps.length + 1 ∧ ∀ r, Ev (fun k => spec_l2Draw.l0 k x3 ps' ((x5 + 1 : Nat) : Int) l i h) r → Ev (fun k => spec_l2Draw.l1 k x3 ps (x5 : Int) x7 (x8 : Int) l i h p q) r := by
  have fin : ∀ (x8 : Nat) (x7 : Bool), ∃ ps' : List IP, ps'.length ≤ ps.length + 1 ∧ ∀ r, Ev (fun k => spec_l2Draw.l0 k x3 ps' ((x5 + 1 : Nat) : Int) l i h) r → Ev (fun k => spec_l2Draw.j3 k x3 ps (x5 : Int) x7 (x8 : Int) false l i h p q) r := by
    intro x8 x7
    cases x7 with
    | true =>
      refine ⟨ps ++ [(⟨p, q⟩ : IP)], by simp, fun r hr => ev_step ?_⟩
      simp only [spec_l2Draw.j3]
      rw [wrap_id (x := (x5 : Int) + 1) (by omega) (by omega)]
      exact ev_neg (by decide) (ev_pos (by trivial) (ev_pos (by omega) hr))
    | false =>
      refine ⟨ps, by omega, fun r hr => ev_step ?_⟩
      simp only [spec_l2Draw.j3]
      rw [wrap_id (x := (x5 : Int) + 1) (by omega) (by omega)]
      exact ev_neg (by decide) (ev_neg (by decide) hr)
  induction d with
  | zero =>
    intro x8 x7 hd
    obtain ⟨ps', hl, hr⟩ := fin x8 x7
    refine ⟨ps', hl, fun r h => ev_step ?_⟩
    simp only [spec_l2Draw.l1]
    exact ev_neg (by omega) (hr r h)
  | succ d ih =>
    intro x8 x7 hd
    cases x7 with
    | false =>
      obtain ⟨ps', hl, hr⟩ := fin x8 false
      refine ⟨ps', hl, fun r h => ev_step ?_⟩
      simp only [spec_l2Draw.l1]
      exact ev_pos (by omega) (hr r h)
    | true =>
      obtain ⟨x7', hi⟩ := l2_inner (x3 := x3) (x5 := (x5 : Int)) (l := l) (i := i) (h := h) (p := p) (q := q) (ps := ps) (x8 := x8) (by omega) hps x8 0 (!(((rd_T83 ps (x8 : Int)).f0) == p) || (!(((rd_T83 ps (x8 : Int)).f1) == q))) (by omega)
      obtain ⟨ps', hl, hr⟩ := ih (x8 + 1) x7' (by omega)
      refine ⟨ps', hl, fun r h => ev_step ?_⟩
      simp only [spec_l2Draw.l1]
      refine ev_pos (by omega) (ev_step ?_)
      simp only [spec_l2Draw.j3]
      exact ev_pos (by trivial) (ev_pos (by omega) (ev_pos (by omega) (hi r (hr r h))))
theorem l2Draw_ok {l : List Int} (hl : l.length ≤ 1048576) {i : Int} (hc : Cur l i) (h : Int) : ∃ (ps : List IP) (i' h' : Int), Ev (fun k => spec_l2Draw.f k l i h) (ps, i', h') ∧ 3 ≤ ps.length ∧ ps.length ≤ 20 ∧ Cur l i' := by
  have done : ∀ (x5 : Nat) (ps : List IP) (i h x3 : Int), ps.length ≤ 12 → Cur l i → ∃ (ps' : List IP) (i' h' : Int), Ev (fun k => spec_l2Draw.j1 k x3 ps (x5 : Int) false l i h) (ps', i', h') ∧ 3 ≤ ps'.length ∧ ps'.length ≤ 20 ∧ Cur l i' := by
    intro x5 ps i h x3 hp hc
    by_cases g : (ps.length : Int) < 3
    · refine ⟨[(⟨0, 0⟩ : IP), (⟨4, 1⟩ : IP), (⟨1, 3⟩ : IP), (⟨2, 2⟩ : IP)], i, h, ev_step ?_, by simp, by simp, hc⟩
      simp only [spec_l2Draw.j1]
      exact ev_neg (by decide) (ev_pos g (Ev.now _))
    · refine ⟨ps, i, h, ev_step ?_, by omega, by omega, hc⟩
      simp only [spec_l2Draw.j1]
      exact ev_neg (by decide) (ev_neg g (Ev.now _))
  have key : ∀ (d x5 : Nat) (ps : List IP) (i h x3 : Int), x5 + d = 12 → ps.length ≤ x5 → Cur l i → ∃ (ps' : List IP) (i' h' : Int), Ev (fun k => spec_l2Draw.l0 k x3 ps (x5 : Int) l i h) (ps', i', h') ∧ 3 ≤ ps'.length ∧ ps'.length ≤ 20 ∧ Cur l i' := by
    intro d
    induction d with
    | zero =>
      intro x5 ps i h x3 hd hp hc
      obtain ⟨ps', i', h', e, r⟩ := done x5 ps i h x3 (by omega) hc
      refine ⟨ps', i', h', ev_step ?_, r⟩
      simp only [spec_l2Draw.l0]
      exact ev_neg (by omega) e
    | succ d ih =>
      intro x5 ps i h x3 hd hp hc
      by_cases g : (ps.length : Int) < x3
      · obtain ⟨x, i1, h1, e1, _, _, c1⟩ := below_ok hl hc h 13
        obtain ⟨y, i2, h2, e2, _, _, c2⟩ := below_ok hl c1 h1 13
        obtain ⟨ps1, hl1, hr1⟩ := l2_outer (x3 := x3) (x5 := x5) (by omega) (l := l) (i := i2) (h := h2) (p := wrap64 (x - 6)) (q := wrap64 (y - 6)) (ps := ps) (by omega) ps.length 0 true (by omega)
        obtain ⟨ps', i', h', e, r⟩ := ih (x5 + 1) ps1 i2 h2 x3 (by omega) (by omega) c2
        refine ⟨ps', i', h', ev_step ?_, r⟩
        simp only [spec_l2Draw.l0]
        refine ev_pos (by omega) (ev_step ?_)
        simp only [spec_l2Draw.j1]
        exact ev_pos (decide_eq_true g) (ev_call e1 (ev_call e2 (hr1 _ e)))
      · obtain ⟨ps', i', h', e, r⟩ := done x5 ps i h x3 (by omega) hc
        refine ⟨ps', i', h', ev_step ?_, r⟩
        simp only [spec_l2Draw.l0]
        rw [decide_eq_false g]
        exact ev_pos (by omega) e
  obtain ⟨x, i1, h1, e1, _, _, c1⟩ := below_ok hl hc h 4
  obtain ⟨ps', i', h', e, r⟩ := key 12 0 [] i1 h1 (wrap64 (3 + x)) rfl (Nat.le_refl _) c1
  refine ⟨ps', i', h', ?_, r⟩
  unfold spec_l2Draw.f
  exact ev_call e1 e
theorem l2Bent_ok {l : List Int} (hl : l.length ≤ 1048576) {i : Int} (hc : Cur l i) (h : Int) : ∃ (ps : List IP) (i' h' : Int), Ev (fun k => spec_l2Bent.f k l i h) (ps, i', h') ∧ 3 ≤ ps.length ∧ ps.length ≤ 21 ∧ Cur l i' := by
  obtain ⟨ps, i1, h1, e1, m1, m2, c1⟩ := l2Draw_ok hl hc h
  obtain ⟨x, i2, h2, e2, _, _, c2⟩ := below_ok hl c1 h1 14
  by_cases g : x = 0
  · obtain ⟨y, i3, h3, e3, _, c3⟩ := pickInt_ok hl c2 h2 [50, 51, -51] (by decide)
    refine ⟨ps.set (0 : Int).toNat (⟨y, (rd_T83 ps 0).f1⟩ : IP), i3, h3, ?_, ?_, ?_, c3⟩
    · unfold spec_l2Bent.f
      exact Ev.bind e1 (ev_call e2 (ev_pos g (ev_call e3 (ev_pos (by simp only; omega) (Ev.now _)))))
    · rw [List.length_set]; omega
    · rw [List.length_set]; omega
  · by_cases g1 : x = 1
    · refine ⟨ps ++ [(⟨(rd_T83 ps 0).f0, (rd_T83 ps 0).f1⟩ : IP)], i2, h2, ?_, ?_, ?_, c2⟩
      · unfold spec_l2Bent.f
        exact Ev.bind e1 (ev_call e2 (ev_neg g (ev_pos g1 (ev_pos (by simp only; omega) (ev_pos (by simp only; omega) (Ev.now _))))))
      · rw [List.length_append]; omega
      · rw [List.length_append, List.length_singleton]; omega
    · refine ⟨ps, i2, h2, ?_, m1, by omega, c2⟩
      unfold spec_l2Bent.f
      exact Ev.bind e1 (ev_call e2 (ev_neg g (ev_neg g1 (Ev.now _))))
end Go.Proofs.Ytckkfjdkaimmhaa.M
namespace Go.Proofs.Ytckkfjdkaimmhaa.M
open Go.RowKit Go.Proofs.YtckkfjdkaimmhaaW.PrintWords Go.Proofs.Ytckkfjdkaimmhaa.PX Go.Proofs.Ytckkfjdkaimmhaa.G
def sgC (x : Int) : UInt8 := if x > 0 then 43 else 45
def mkB (l : List UInt8) : ByteArray := ⟨l.toArray⟩
theorem mkB_size (l : List UInt8) : (mkB l).size = l.length := by simp [mkB, ByteArray.size]
theorem mkB_append (l l' : List UInt8) : mkB l ++ mkB l' = mkB (l ++ l') := by
  apply ByteArray.ext
  rw [ByteArray.data_append]
  simp [mkB]
theorem byte_ev (x : Int) : spec_l3Byte.f x = some (mkB [sgC x]) := by
  unfold spec_l3Byte.f sgC
  split <;> rfl
end Go.Proofs.Ytckkfjdkaimmhaa.M
namespace Go.Proofs.Ytckkfjdkaimmhaa.M
open Go.RowKit Go.Proofs.YtckkfjdkaimmhaaW.PrintWords Go.Proofs.Ytckkfjdkaimmhaa.PX Go.Proofs.Ytckkfjdkaimmhaa.G
theorem list_ext0 {l l' : List Int} (h : l.length = l'.length) (h' : ∀ x, x < l.length → l.getD x 0 = l'.getD x 0) : l = l' := by
  refine List.ext_getElem h fun x h1 h2 => ?_
  have := h' x h1
  rw [List.getD_eq_getElem?_getD, List.getD_eq_getElem?_getD, List.getElem?_eq_getElem h1, List.getElem?_eq_getElem h2] at this
  exact this
def valS (n : Nat) (s : Nat → Int) (x : Nat) : Int := match lookT (tripN n) 0 x with | some z => sgv z.1 (s z.2) | none => 0
def chiS (n : Nat) (s : Nat → Int) (a b c : Nat) : Int := valS n s (ix3 a b c)
def tblS (n : Nat) (s : Nat → Int) : List Int := (n : Int) :: (List.range 343).map fun x => valS n s (x + 1)
theorem tblS_length (n : Nat) (s : Nat → Int) : (tblS n s).length = 344 := by simp [tblS]
theorem tblS_getD (n : Nat) (s : Nat → Int) {x : Nat} (h0 : x ≠ 0) (hx : x < 344) : (tblS n s).getD x 0 = valS n s x := by
  obtain ⟨y, rfl⟩ : ∃ y, x = y + 1 := ⟨x - 1, by omega⟩
  rw [tblS, List.getD_cons_succ, List.getD_eq_getElem?_getD, List.getElem?_map, List.getElem?_range (by omega)]
  rfl
theorem tblS_n (n : Nat) (s : Nat → Int) : rd (tblS n s) 0 = n := rfl
theorem tblS_rd (n : Nat) (s : Nat → Int) {a b c : Nat} (ha : a < 7) (hb : b < 7) (hc : c < 7) : rd3 (tblS n s) (a : Int) (b : Int) (c : Int) = chiS n s a b c := by
  have e : rd3 (tblS n s) (a : Int) (b : Int) (c : Int) = (tblS n s).getD (ix3 a b c) 0 := by
    unfold rd3 rd
    have : (1 + (a : Int) * 49 + (b : Int) * 7 + (c : Int)).toNat = ix3 a b c := by unfold ix3; omega
    rw [this]
  rw [e, tblS_getD n s (by unfold ix3; omega) (by unfold ix3; omega)]
  rfl
theorem chi_chiS (n : Nat) (t : ByteArray) (a b c : Nat) : chi n t a b c = chiS n (sgB t) a b c := rfl
theorem tblL_S (n : Nat) (t : ByteArray) : tblL n t = tblS n (sgB t) := by
  refine list_ext0 (by rw [tblL_length, tblS_length]) fun x hx => ?_
  rw [tblL_length] at hx
  by_cases h0 : x = 0
  · subst h0
    exact tbl_n n t
  · rw [tblS_getD n _ h0 hx]
    unfold tblL valS
    rw [foldTbl_getD t _ _ _ _ (by rw [List.length_cons, List.length_replicate]; exact hx)]
    obtain ⟨y, rfl⟩ : ∃ y, x = y + 1 := ⟨x - 1, by omega⟩
    have : ((n : Int) :: List.replicate 343 (0 : Int)).getD (y + 1) 0 = 0 := by
      rw [List.getD_cons_succ, List.getD_eq_getElem?_getD, List.getElem?_replicate]
      split <;> rfl
    rw [this]
    all_goals (cases lookT (tripN n) 0 (y + 1) <;> rfl)
theorem lookT_at (ts : List S99) : ∀ (m0 x : Nat) (z : Bool × Nat), lookT ts m0 x = some z → ∃ p, ∃ h : p < ts.length, z.2 = m0 + p ∧ six ts[p].f0.toNat ts[p].f1.toNat ts[p].f2.toNat (m0 + p) x = some z := by
  induction ts with
  | nil => intro m0 x z h; cases h
  | cons y r ih =>
    intro m0 x z h
    rw [lookT] at h
    cases hr : lookT r (m0 + 1) x with
    | some z' =>
      rw [hr] at h
      cases h
      obtain ⟨p, hp, h1, h2⟩ := ih (m0 + 1) x _ hr
      refine ⟨p + 1, by simp only [List.length_cons]; omega, by omega, ?_⟩
      simp only [List.getElem_cons_succ]
      rw [show m0 + (p + 1) = m0 + 1 + p by omega]
      exact h2
    | none =>
      rw [hr] at h
      have h' : six y.f0.toNat y.f1.toNat y.f2.toNat m0 x = some z := h
      exact ⟨0, by simp, by rw [six_snd h']; rfl, h'⟩
def idx6 (a b c : Nat) : List Nat := [ix3 b a c, ix3 c b a, ix3 a c b, ix3 c a b, ix3 b c a, ix3 a b c]
theorem six_none {a b c m x : Nat} : six a b c m x = none ↔ x ∉ idx6 a b c := by
  unfold six idx6
  simp only [List.mem_cons, List.not_mem_nil, or_false, not_or]
  constructor
  · intro h
    (repeat' split at h) <;> first | exact ⟨by assumption, by assumption, by assumption, by assumption, by assumption, by assumption⟩ | cases h
  · rintro ⟨h1, h2, h3, h4, h5, h6⟩
    rw [if_neg h1, if_neg h2, if_neg h3, if_neg h4, if_neg h5, if_neg h6]
def tripAt (n p : Nat) : S99 := (tripN n).getD p ⟨0, 0, 0⟩
theorem tripAt_eq {n p : Nat} (h : p < (tripN n).length) : tripAt n p = (tripN n)[p] := by
  unfold tripAt
  rw [List.getD_eq_getElem?_getD, List.getElem?_eq_getElem h]; rfl
def chkP1 (n a b c : Nat) : Bool :=
  match lookT (tripN n) 0 (ix3 a b c) with
  | some (neg, p) => decide (p < (tripN n).length) && (lookT (tripN n) 0 (ix3 b a c) == some (!neg, p)) && (lookT (tripN n) 0 (ix3 c b a) == some (!neg, p)) && (lookT (tripN n) 0 (ix3 a c b) == some (!neg, p)) &&
      (lookT (tripN n) 0 (ix3 c a b) == some (neg, p)) && (lookT (tripN n) 0 (ix3 b c a) == some (neg, p)) &&
      ((idx6 (tripAt n p).f0.toNat (tripAt n p).f1.toNat (tripAt n p).f2.toNat).all fun x => (idx6 a b c).contains x)
  | none => false
def chkP (n : Nat) : Bool := (List.range n).all fun a => (List.range n).all fun b => (List.range n).all fun c => (decide (a = b) || decide (b = c) || decide (a = c)) || chkP1 n a b c
theorem chkP_all {n : Nat} (h0 : 3 ≤ n) (h1 : n ≤ 7) : chkP n = true := by
  refine five (p := fun n => chkP n = true) h0 h1 ?_ ?_ ?_ ?_ ?_ <;> decide +kernel
theorem look_of {n a b c : Nat} (h0 : 3 ≤ n) (h1 : n ≤ 7) (ha : a < n) (hb : b < n) (hc : c < n) (hab : a ≠ b) (hbc : b ≠ c) (hac : a ≠ c) :
    ∃ neg p, lookT (tripN n) 0 (ix3 a b c) = some (neg, p) ∧ p < (tripN n).length ∧ lookT (tripN n) 0 (ix3 b a c) = some (!neg, p) ∧ lookT (tripN n) 0 (ix3 c b a) = some (!neg, p) ∧ lookT (tripN n) 0 (ix3 a c b) = some (!neg, p) ∧
      lookT (tripN n) 0 (ix3 c a b) = some (neg, p) ∧ lookT (tripN n) 0 (ix3 b c a) = some (neg, p) ∧ ∀ x ∈ idx6 (tripAt n p).f0.toNat (tripAt n p).f1.toNat (tripAt n p).f2.toNat, x ∈ idx6 a b c := by
  have h := chkP_all h0 h1
  have h := List.all_eq_true.1 h a (List.mem_range.2 ha)
  have h := List.all_eq_true.1 h b (List.mem_range.2 hb)
  have h := List.all_eq_true.1 h c (List.mem_range.2 hc)
  rw [decide_eq_false hab, decide_eq_false hbc, decide_eq_false hac] at h
  simp only [Bool.or_self, Bool.false_or] at h
  unfold chkP1 at h
  split at h
  · rename_i neg p hp
    simp only [Bool.and_eq_true, decide_eq_true_eq, beq_iff_eq, List.all_eq_true, List.contains_iff_mem] at h
    obtain ⟨⟨⟨⟨⟨⟨g0, g1⟩, g2⟩, g3⟩, g4⟩, g5⟩, g6⟩ := h
    exact ⟨neg, p, hp, g0, g1, g2, g3, g4, g5, g6⟩
  · cases h
def upd (s : Nat → Int) (p : Nat) (v : Int) : Nat → Int := fun q => if q = p then v else s q
theorem upd_self (s : Nat → Int) (p : Nat) (v : Int) : upd s p v p = v := if_pos rfl
theorem upd_ne (s : Nat → Int) {p q : Nat} (v : Int) (h : q ≠ p) : upd s p v q = s q := if_neg h
theorem sgv_sgv (f neg : Bool) (v : Int) : sgv (f ^^ neg) (sgv neg v) = sgv f v := by
  cases f <;> cases neg <;> simp [sgv]
theorem set_tblS {n a b c p : Nat} {neg : Bool} (s : Nat → Int) (v : Int) (h0 : 3 ≤ n) (h1 : n ≤ 7) (ha : a < n) (hb : b < n) (hc : c < n) (hab : a ≠ b) (hbc : b ≠ c) (hac : a ≠ c) (hl : lookT (tripN n) 0 (ix3 a b c) = some (neg, p)) :
    set6 (tblS n s) a b c v = tblS n (upd s p (sgv neg v)) := by
  obtain ⟨neg', p', e0, hp, e1, e2, e3, e4, e5, e6⟩ := look_of h0 h1 ha hb hc hab hbc hac
  rw [hl] at e0
  cases e0
  refine list_ext0 (by rw [set6_length, tblS_length, tblS_length]) fun x hx => ?_
  rw [set6_length] at hx
  have hx' := hx
  rw [tblS_length] at hx'
  rw [set6_getD _ _ _ _ 0 _ _ hx]
  have key : ∀ (f : Bool) (y : Nat), y ≠ 0 → y < 344 → lookT (tripN n) 0 y = some (f ^^ neg, p) → sgv f v = (tblS n (upd s p (sgv neg v))).getD y 0 := by
    intro f y hy0 hy hly
    rw [tblS_getD _ _ hy0 hy]
    unfold valS
    rw [hly]
    show _ = sgv (f ^^ neg) (upd s p (sgv neg v) p)
    rw [upd_self, sgv_sgv]
  have nz : ∀ i j k : Nat, ix3 i j k ≠ 0 := fun i j k => by unfold ix3; omega
  cases hs : six a b c 0 x with
  | some z =>
    have hs' := hs
    unfold six at hs'
    split at hs'
    · rename_i e; cases hs'; subst e; exact key true _ (nz _ _ _) hx' (by rw [e1]; cases neg <;> rfl)
    split at hs'
    · rename_i e; cases hs'; subst e; exact key true _ (nz _ _ _) hx' (by rw [e2]; cases neg <;> rfl)
    split at hs'
    · rename_i e; cases hs'; subst e; exact key true _ (nz _ _ _) hx' (by rw [e3]; cases neg <;> rfl)
    split at hs'
    · rename_i e; cases hs'; subst e; exact key false _ (nz _ _ _) hx' (by rw [e4]; cases neg <;> rfl)
    split at hs'
    · rename_i e; cases hs'; subst e; exact key false _ (nz _ _ _) hx' (by rw [e5]; cases neg <;> rfl)
    split at hs'
    · rename_i e; cases hs'; subst e; exact key false _ (nz _ _ _) hx' (by rw [hl]; cases neg <;> rfl)
    · cases hs'
  | none =>
    show (tblS n s).getD x 0 = _
    by_cases hz : x = 0
    · subst hz; rfl
    rw [tblS_getD _ _ hz hx', tblS_getD _ _ hz hx']
    unfold valS
    cases hx0 : lookT (tripN n) 0 x with
    | none => rfl
    | some z =>
      show sgv z.1 (s z.2) = sgv z.1 (upd s p (sgv neg v) z.2)
      rw [upd_ne]
      intro hzp
      obtain ⟨q, hq, g1, g2⟩ := lookT_at (tripN n) 0 x z hx0
      obtain rfl : q = p := by omega
      rw [← tripAt_eq hq] at g2
      refine six_none.1 hs (e6 x ?_)
      refine Classical.byContradiction fun hn => ?_
      rw [six_none.2 hn] at g2
      cases g2
theorem tblS_congr {n : Nat} {s s' : Nat → Int} (h : ∀ p, p < (tripN n).length → s p = s' p) : tblS n s = tblS n s' := by
  unfold tblS
  congr 1
  refine List.map_congr_left fun x _ => ?_
  unfold valS
  cases hx0 : lookT (tripN n) 0 (x + 1) with
  | none => rfl
  | some z =>
    obtain ⟨q, hq, g1, g2⟩ := lookT_at (tripN n) 0 _ z hx0
    show sgv z.1 (s z.2) = sgv z.1 (s' z.2)
    rw [h z.2 (by omega)]
def chkI (n : Nat) : Bool := (List.range (tripN n).length).all fun p => (lookT (tripN n) 0 (ix3 (tripAt n p).f0.toNat (tripAt n p).f1.toNat (tripAt n p).f2.toNat) == some (false, p)) && decide ((tripAt n p).f0 < (tripAt n p).f1) && decide ((tripAt n p).f1 < (tripAt n p).f2) && decide ((tripAt n p).f2 < n) && decide (0 ≤ (tripAt n p).f0)
theorem chkI_all {n : Nat} (h0 : 3 ≤ n) (h1 : n ≤ 7) : (chkI n && decide ((tripN n).length ≤ 35)) = true := by
  refine five (p := fun n => (chkI n && decide ((tripN n).length ≤ 35)) = true) h0 h1 ?_ ?_ ?_ ?_ ?_ <;> decide +kernel
theorem trip_len {n : Nat} (h0 : 3 ≤ n) (h1 : n ≤ 7) : (tripN n).length ≤ 35 := by
  have h := chkI_all h0 h1
  simp only [Bool.and_eq_true, decide_eq_true_eq] at h
  exact h.2
theorem tripN_L {n : Nat} (h0 : 3 ≤ n) (h1 : n ≤ 7) : tripN n = (tripsL n).map fun q => ⟨(q.1 : Int), (q.2.1 : Int), (q.2.2 : Int)⟩ := by
  refine five (p := fun n => tripN n = (tripsL n).map fun q => ⟨(q.1 : Int), (q.2.1 : Int), (q.2.2 : Int)⟩) h0 h1 ?_ ?_ ?_ ?_ ?_ <;> kernel_rfl
theorem trip_at {n p : Nat} (h0 : 3 ≤ n) (h1 : n ≤ 7) (hp : p < (tripN n).length) : ∃ a b c : Nat, (tripN n)[p] = ⟨(a : Int), (b : Int), (c : Int)⟩ ∧ a < b ∧ b < c ∧ c < n ∧ lookT (tripN n) 0 (ix3 a b c) = some (false, p) := by
  have h := chkI_all h0 h1
  simp only [Bool.and_eq_true, decide_eq_true_eq] at h
  have h := List.all_eq_true.1 h.1 p (List.mem_range.2 hp)
  simp only [Bool.and_eq_true, decide_eq_true_eq, beq_iff_eq] at h
  obtain ⟨⟨⟨⟨g0, g1⟩, g2⟩, g3⟩, g4⟩ := h
  rw [tripAt_eq hp] at *
  generalize (tripN n)[p] = y at *
  obtain ⟨x0, x1, x2⟩ := y
  simp only at *
  refine ⟨x0.toNat, x1.toNat, x2.toNat, ?_, by omega, by omega, by omega, g0⟩
  rw [Int.toNat_of_nonneg (by omega), Int.toNat_of_nonneg (by omega), Int.toNat_of_nonneg (by omega)]
theorem chiS_at {n p a b c : Nat} {neg : Bool} (s : Nat → Int) (h : lookT (tripN n) 0 (ix3 a b c) = some (neg, p)) : chiS n s a b c = sgv neg (s p) := by
  unfold chiS valS
  rw [h]
def txtS (n : Nat) (s : Nat → Int) : ByteArray := mkB ((List.range (tripN n).length).map fun p => sgC (s p))
theorem foldl_snoc {α β : Type} (f : α → β) (l : List α) : ∀ s : List β, l.foldl (fun s a => s ++ [f a]) s = s ++ l.map f := by
  induction l with
  | nil => intro s; simp
  | cons x l ih => intro s; rw [List.foldl_cons, ih, List.map_cons, List.append_assoc]; rfl
theorem txtS_list (n : Nat) (s : Nat → Int) : (txtS n s).data.toList = (List.range (tripN n).length).map fun p => sgC (s p) := rfl
theorem txtS_congr {n : Nat} {s s' : Nat → Int} (h : ∀ p, p < (tripN n).length → s p = s' p) : txtS n s = txtS n s' := by
  unfold txtS
  congr 1
  refine List.map_congr_left fun p hp => ?_
  rw [h p (List.mem_range.1 hp)]
theorem txtS_ok {n : Nat} (s : Nat → Int) (h0 : 3 ≤ n) (h1 : n ≤ 7) : areOk n (txtS n s) = true := by
  rw [areOk_iff]
  refine ⟨by omega, ?_, fun c hc => ?_⟩
  · rw [← (trip_small h0 h1).2, txtS, mkB_size, List.length_map, List.length_range]
  · rw [txtS_list, List.mem_map] at hc
    obtain ⟨p, _, rfl⟩ := hc
    unfold sgC
    split <;> simp
theorem sgB_txtS {n p : Nat} {s : Nat → Int} (hp : p < (tripN n).length) (hs : s p = 1 ∨ s p = -1) : sgB (txtS n s) p = s p := by
  have hl : p < (txtS n s).data.toList.length := by rw [txtS_list, List.length_map, List.length_range]; exact hp
  unfold sgB
  rw [bt_nat hl]
  have : (txtS n s).data.toList[p] = sgC (s p) := by simp only [txtS_list, List.getElem_map, List.getElem_range]
  rw [this]
  rcases hs with h | h <;> rw [h] <;> rfl
theorem tblL_txtS {n : Nat} {s : Nat → Int} (hs : ∀ p, p < (tripN n).length → s p = 1 ∨ s p = -1) : tblL n (txtS n s) = tblS n s := by
  rw [tblL_S]
  exact tblS_congr fun p hp => sgB_txtS hp (hs p hp)
theorem txtS_sgB {n : Nat} {t : ByteArray} (h : areOk n t = true) : txtS n (sgB t) = t := by
  obtain ⟨⟨h0, h1⟩, h2, ht⟩ := (areOk_iff _ _).1 h
  have hc := (trip_small (n := n) (by omega) (by omega)).2
  rw [size_list] at h2
  have e : (List.range (tripN n).length).map (fun p => sgC (sgB t p)) = t.data.toList := ?_
  · unfold txtS
    rw [e]
    rfl
  refine List.ext_getElem (by rw [List.length_map, List.length_range]; omega) fun p hp1 hp2 => ?_
  simp only [List.getElem_map, List.getElem_range]
  unfold sgB
  rw [bt_nat hp2]
  rcases ht _ (List.getElem_mem hp2) with e | e
  · rw [e]; rfl
  · rw [e]; rfl
theorem chi_txtS {n a b c : Nat} {s : Nat → Int} (hs : ∀ p, p < (tripN n).length → s p = 1 ∨ s p = -1) : chi n (txtS n s) a b c = chiS n s a b c := by
  rw [chi_chiS]
  unfold chiS valS
  cases hx0 : lookT (tripN n) 0 (ix3 a b c) with
  | none => rfl
  | some z =>
    obtain ⟨q, hq, g1, g2⟩ := lookT_at (tripN n) 0 _ z hx0
    show sgv z.1 _ = sgv z.1 _
    have hz : z.2 < (tripN n).length := by omega
    rw [sgB_txtS hz (hs _ hz)]
theorem rd_trip {ts : List S99} {i : Nat} (h : i < ts.length) : rd_T99 ts (i : Int) = ts[i] := by
  unfold rd_T99
  rw [Int.toNat_natCast, List.getD_eq_getElem?_getD, List.getElem?_eq_getElem h]
  rfl
theorem place_of {n a b c : Nat} (h0 : 3 ≤ n) (h1 : n ≤ 7) (hab : a < b) (hbc : b < c) (hc : c < n) : ∃ p, ∃ hp : p < (tripN n).length, (tripN n)[p] = ⟨(a : Int), (b : Int), (c : Int)⟩ ∧ lookT (tripN n) 0 (ix3 a b c) = some (false, p) ∧ lookT (tripN n) 0 (ix3 b a c) = some (true, p) ∧ lookT (tripN n) 0 (ix3 c b a) = some (true, p) ∧ lookT (tripN n) 0 (ix3 a c b) = some (true, p) ∧ lookT (tripN n) 0 (ix3 c a b) = some (false, p) ∧ lookT (tripN n) 0 (ix3 b c a) = some (false, p) := by
  have hm := trips_mem hab hbc hc
  obtain ⟨p, hp, e⟩ := List.getElem_of_mem hm
  have eN := tripN_L h0 h1
  have hp' : p < (tripN n).length := by rw [eN, List.length_map]; exact hp
  have e2 : (tripN n)[p] = ⟨(a : Int), (b : Int), (c : Int)⟩ := by
    simp only [eN, List.getElem_map, e]
  obtain ⟨a', b', c', e3, _, _, _, hlk⟩ := trip_at h0 h1 hp'
  rw [e2] at e3
  injection e3 with i1 i2 i3
  obtain rfl := Int.ofNat_inj.1 i1
  obtain rfl := Int.ofNat_inj.1 i2
  obtain rfl := Int.ofNat_inj.1 i3
  obtain ⟨neg, q, f0, _, f1, f2, f3, f4, f5, _⟩ := look_of (a := a) (b := b) (c := c) h0 h1 (by omega) (by omega) hc (by omega) (by omega) (by omega)
  rw [hlk] at f0
  cases f0
  exact ⟨p, hp', e2, hlk, f1, f2, f3, f4, f5⟩
theorem txtS_trips {n : Nat} {s : Nat → Int} (g : Nat × Nat × Nat → UInt8) (h0 : 3 ≤ n) (h1 : n ≤ 7) (h : ∀ (p : Nat) (hp : p < (tripN n).length) (a b c : Nat), (tripN n)[p] = ⟨(a : Int), (b : Int), (c : Int)⟩ → sgC (s p) = g (a, b, c)) : mkB ((tripsL n).map g) = txtS n s := by
  unfold txtS
  congr 1
  have e := tripN_L h0 h1
  have el : (tripsL n).length = (tripN n).length := by rw [e, List.length_map]
  refine List.ext_getElem (by rw [List.length_map, List.length_map, List.length_range, el]) fun p hp1 hp2 => ?_
  rw [List.length_map, List.length_range] at hp2
  simp only [List.getElem_map, List.getElem_range]
  have hp : p < (tripsL n).length := by omega
  have e1 : (tripN n)[p] = ⟨((tripsL n)[p].1 : Int), ((tripsL n)[p].2.1 : Int), ((tripsL n)[p].2.2 : Int)⟩ := by
    simp only [e, List.getElem_map]
  exact (h p hp2 _ _ _ e1).symm
end Go.Proofs.Ytckkfjdkaimmhaa.M
namespace Go.Proofs.Ytckkfjdkaimmhaa.M
open Go.RowKit Go.Proofs.YtckkfjdkaimmhaaW.PrintWords Go.Proofs.Ytckkfjdkaimmhaa.PX Go.Proofs.Ytckkfjdkaimmhaa.G
def sgPts (l : List IP) (q : Nat) : Int := sgnI (areaP (pt l (tripAt l.length q).f0.toNat) (pt l (tripAt l.length q).f1.toNat) (pt l (tripAt l.length q).f2.toNat))
def signsV (l : List IP) : Int × ByteArray × Bool := if arePts l = true then ((l.length : Int), txtS l.length (sgPts l), true) else (0, ⟨#[]⟩, false)
theorem sgPts_at {l : List IP} {q a b c : Nat} (hq : q < (tripN l.length).length) (e : (tripN l.length)[q] = ⟨(a : Int), (b : Int), (c : Int)⟩) : sgPts l q = sgnI (areaP (pt l a) (pt l b) (pt l c)) := by
  unfold sgPts
  rw [tripAt_eq hq, e]
  rfl
theorem sgnI_pm {x : Int} (h : x ≠ 0) : sgnI x = 1 ∨ sgnI x = -1 := by
  unfold sgnI
  split
  · exact Or.inr rfl
  · rw [if_pos (by omega)]; exact Or.inl rfl
theorem sgnI_pos (x : Int) : (sgnI x > 0) ↔ x > 0 := by
  unfold sgnI
  split
  · constructor <;> intro h <;> omega
  · split <;> constructor <;> intro h <;> omega
theorem spec_signsOf (l : List IP) (hl : l.length ≤ 10000000) : Ev (fun q => spec_SignsOf.f q l) (signsV l) := by
  unfold spec_SignsOf.f signsV
  refine Ev.bind (spec_arePts l hl) ?_
  by_cases ha : arePts l = true
  · rw [if_pos ha]
    refine ev_pos ha ?_
    obtain ⟨⟨h0, h1⟩, hn, _⟩ := arePts_iff.1 ha
    have hn' : l.all (nearP 50) = true := List.all_eq_true.2 hn
    have key := loops3B (σ := List UInt8) (ρ := Int × ByteArray × Bool) (n := l.length) h1 List.length 0 (L0 := fun x s q => spec_SignsOf.l0 q l x (l.length : Int) (mkB s))
      (L1 := fun x y s q => spec_SignsOf.l1 q l x y (l.length : Int) (mkB s)) (L2 := fun x y z s q => spec_SignsOf.l2 q l x y z (l.length : Int) (mkB s)) (K := fun s _ => some ((l.length : Int), mkB s, true))
      (fun s q => .ok (s ++ [sgC (areaP (pt l q.1) (pt l q.2.1) (pt l q.2.2))])) (fun s q s' e => by cases e; rw [List.length_append]; exact Nat.le_refl _)
      (fun s => ?_) (fun a ha s => ?_) (fun a ha s => ?_) (fun a b hab hb s => ?_) (fun a b hab hb s => ?_) (fun a b c hab hbc hc s hs => ?_) [] (Nat.le_refl _)
    · rw [foldlM_ok, foldl_snoc, List.nil_append] at key
      have et : mkB ((tripsL l.length).map fun q => sgC (areaP (pt l q.1) (pt l q.2.1) (pt l q.2.2))) = txtS l.length (sgPts l) := txtS_trips (fun q => sgC (areaP (pt l q.1) (pt l q.2.1) (pt l q.2.2))) h0 h1 fun p hp a b c e => by
        rw [sgPts_at hp e]
        unfold sgC
        simp only [sgnI_pos]
      rw [← et]
      exact key _ (Ev.now _)
    · refine Goes.step ?_
      simp only [spec_SignsOf.l0]
      exact Goes.neg (by omega) (Goes.ok (K := fun s (_ : Nat) => some ((l.length : Int), mkB s, true)) s)
    · refine Goes.step ?_
      simp only [spec_SignsOf.l0]
      rw [wrap_id (by omega) (by omega)]
      exact Goes.pos (by omega) (Goes.ok (K := fun s q => spec_SignsOf.l1 q l (a : Int) ((a + 1 : Nat) : Int) (l.length : Int) (mkB s)) s)
    · refine Goes.step ?_
      simp only [spec_SignsOf.l1]
      rw [wrap_id (x := (a : Int) + 1) (by omega) (by omega)]
      exact Goes.neg (by omega) (Goes.ok (K := fun s q => spec_SignsOf.l0 q l ((a + 1 : Nat) : Int) (l.length : Int) (mkB s)) s)
    · refine Goes.step ?_
      simp only [spec_SignsOf.l1]
      rw [wrap_id (x := (b : Int) + 1) (by omega) (by omega)]
      exact Goes.pos (by omega) (Goes.ok (K := fun s q => spec_SignsOf.l2 q l (a : Int) (b : Int) ((b + 1 : Nat) : Int) (l.length : Int) (mkB s)) s)
    · refine Goes.step ?_
      simp only [spec_SignsOf.l2]
      rw [wrap_id (x := (b : Int) + 1) (by omega) (by omega)]
      exact Goes.neg (by omega) (Goes.ok (K := fun s q => spec_SignsOf.l1 q l (a : Int) ((b + 1 : Nat) : Int) (l.length : Int) (mkB s)) s)
    · refine Goes.step ?_
      simp only [spec_SignsOf.l2]
      rw [wrap_id (x := (c : Int) + 1) (by omega) (by omega)]
      refine Goes.pos (by omega) (Goes.pos (by omega) (Goes.pos (by omega) (Goes.pos (by omega) (Goes.pos (by omega) (Goes.pos (by omega) (Goes.call (spec_area (a := pt l a) (b := pt l b) (c := pt l c) (pts_near3 hn' (by omega) (by omega) (by omega))) (Goes.call (byte_ev _) (Goes.pos ?_ ?_))))))))
      · rw [mkB_size, mkB_size]
        simp only [List.length_singleton]
        omega
      · rw [mkB_append]
        exact Goes.ok (K := fun s q => spec_SignsOf.l2 q l (a : Int) (b : Int) ((c + 1 : Nat) : Int) (l.length : Int) (mkB s)) _
  · rw [if_neg ha]
    exact ev_neg ha (Ev.now _)
end Go.Proofs.Ytckkfjdkaimmhaa.M
namespace Go.Proofs.Ytckkfjdkaimmhaa.M
open Go.RowKit Go.Proofs.YtckkfjdkaimmhaaW.PrintWords Go.Proofs.Ytckkfjdkaimmhaa.PX Go.Proofs.Ytckkfjdkaimmhaa.G
theorem signsV_small (ps : List IP) : (0 ≤ (signsV ps).1 ∧ (signsV ps).1 ≤ 7) ∧ (signsV ps).2.1.size ≤ 35 := by
  unfold signsV
  by_cases g : arePts ps = true
  · rw [if_pos g]
    obtain ⟨⟨h0, h1⟩, _⟩ := arePts_iff.1 g
    have := areOk_size (txtS_ok (sgPts ps) h0 h1)
    simp only
    omega
  · rw [if_neg g]
    decide
theorem l3Draw_ok {l : List Int} (hl : l.length ≤ 1048576) {i : Int} (hc : Cur l i) (h : Int) : ∃ (n : Int) (t : ByteArray) (i' h' : Int), Ev (fun k => spec_l3Draw.f k l i h) (n, t, i', h') ∧ (0 ≤ n ∧ n ≤ 7) ∧ t.size ≤ 100 ∧ Cur l i' := by
  obtain ⟨b, i1, h1, e1, c1⟩ := once_ok hl hc h 5
  cases b with
  | true =>
    obtain ⟨x, i2, h2, e2, _, b2, c2⟩ := below_ok hl c1 h1 3
    have b2 := b2 (by omega)
    have key : ∀ (d x5 : Nat) (i h : Int) (t : ByteArray) (n : Int), n ∈ [(3 : Int), 4, 5] → x5 + d = 20 → t.size ≤ x5 → Cur l i → ∃ (t' : ByteArray) (i' h' : Int), Ev (fun k => spec_l3Draw.l0 k n (x5 : Int) l i h n t) (n, t', i', h') ∧ t'.size ≤ 100 ∧ Cur l i' := by
      intro d
      induction d with
      | zero =>
        intro x5 i h t n hn hd ht hc
        refine ⟨t, i, h, ev_step ?_, by omega, hc⟩
        simp only [spec_l3Draw.l0]
        refine ev_neg ?_ (Ev.now _)
        have : wrap64 (Int.tdiv (wrap64 ((wrap64 (n * (wrap64 (n - 1)))) * (wrap64 (n - 2)))) 6) ≤ 10 := by
          simp only [List.mem_cons, List.not_mem_nil, or_false] at hn
          rcases hn with rfl | rfl | rfl <;> decide +kernel
        omega
      | succ d ih =>
        intro x5 i h t n hn hd ht hc
        by_cases g : (x5 : Int) < wrap64 (Int.tdiv (wrap64 ((wrap64 (n * (wrap64 (n - 1)))) * (wrap64 (n - 2)))) 6)
        · obtain ⟨y, i3, h3, e3, m3, c3⟩ := pick_ok hl hc h [(⟨#[43]⟩ : ByteArray), (⟨#[45]⟩ : ByteArray), (⟨#[43]⟩ : ByteArray)] (by simp)
          have hy : y.size = 1 := by
            simp only [List.mem_cons, List.not_mem_nil, or_false] at m3
            rcases m3 with rfl | rfl | rfl <;> rfl
          obtain ⟨t', i', h', e, r⟩ := ih (x5 + 1) i3 h3 (t ++ y) n hn (by omega) (by rw [ByteArray.size_append]; omega) c3
          refine ⟨t', i', h', ev_step ?_, r⟩
          simp only [spec_l3Draw.l0]
          rw [wrap_id (x := (x5 : Int) + 1) (by omega) (by omega)]
          exact ev_pos g (ev_call e3 (ev_pos (by simp only; omega) e))
        · refine ⟨t, i, h, ev_step ?_, by omega, hc⟩
          simp only [spec_l3Draw.l0]
          exact ev_neg g (Ev.now _)
    have hn : (3 + x) ∈ [(3 : Int), 4, 5] := by
      have : x = 0 ∨ x = 1 ∨ x = 2 := by omega
      rcases this with rfl | rfl | rfl <;> decide
    obtain ⟨t', i', h', e, r⟩ := key 20 0 i2 h2 (⟨#[]⟩ : ByteArray) (3 + x) hn rfl (Nat.le_refl _) c2
    refine ⟨3 + x, t', i', h', ?_, by omega, r⟩
    unfold spec_l3Draw.f
    refine ev_call e1 (ev_pos (by trivial) (ev_call e2 ?_))
    simp only
    rw [wrap_id (by omega) (by omega)]
    exact e
  | false =>
    obtain ⟨ps, i2, h2, e2, m1, m2, c2⟩ := l2Draw_ok hl c1 h1
    have hs := spec_signsOf ps (by omega)
    have hb := signsV_small ps
    refine ⟨(signsV ps).1, (signsV ps).2.1, i2, h2, ?_, hb.1, by omega, c2⟩
    unfold spec_l3Draw.f
    exact ev_call e1 (ev_neg (by simp) (Ev.bind e2 (Ev.bind hs (Ev.now _))))
theorem l3Bent_ok {l : List Int} (hl : l.length ≤ 1048576) {i : Int} (hc : Cur l i) (h : Int) : ∃ (n : Int) (t : ByteArray) (i' h' : Int), Ev (fun k => spec_l3Bent.f k l i h) (n, t, i', h') ∧ (0 ≤ n ∧ n ≤ 8) ∧ t.size ≤ 101 ∧ Cur l i' := by
  obtain ⟨n, t, i1, h1, e1, m1, m2, c1⟩ := l3Draw_ok hl hc h
  obtain ⟨x, i2, h2, e2, _, _, c2⟩ := below_ok hl c1 h1 18
  by_cases g : x = 0
  · obtain ⟨y, i3, h3, e3, m3, c3⟩ := pickInt_ok hl c2 h2 [2, 8, 4, 5] (by decide)
    have hy : 0 ≤ y ∧ y ≤ 8 := by
      simp only [List.mem_cons, List.not_mem_nil, or_false] at m3
      omega
    refine ⟨y, t, i3, h3, ?_, hy, by omega, c3⟩
    unfold spec_l3Bent.f
    exact Ev.bind e1 (ev_call e2 (ev_pos g (ev_call e3 (Ev.now _))))
  · by_cases g1 : x = 1
    · obtain ⟨y, i3, h3, e3, m3, c3⟩ := pick_ok hl c2 h2 [(⟨#[43]⟩ : ByteArray), (⟨#[48]⟩ : ByteArray)] (by simp)
      have hy : y.size = 1 := by
        simp only [List.mem_cons, List.not_mem_nil, or_false] at m3
        rcases m3 with rfl | rfl <;> rfl
      refine ⟨n, t ++ y, i3, h3, ?_, by omega, by rw [ByteArray.size_append]; omega, c3⟩
      unfold spec_l3Bent.f
      exact Ev.bind e1 (ev_call e2 (ev_neg g (ev_pos g1 (ev_call e3 (ev_pos (by simp only; omega) (Ev.now _))))))
    · refine ⟨n, t, i2, h2, ?_, by omega, by omega, c2⟩
      unfold spec_l3Bent.f
      exact Ev.bind e1 (ev_call e2 (ev_neg g (ev_neg g1 (Ev.now _))))
theorem l3Order_ok {l : List Int} (hl : l.length ≤ 1048576) {i : Int} (hc : Cur l i) (h : Int) (n : Nat) (hn : n ≤ 100) : ∃ (o : List Int) (i' h' : Int), Ev (fun k => spec_l3Order.f k l i h (n : Int)) (o, i', h') ∧ o.length = n ∧ o.Nodup ∧ (∀ x ∈ o, 0 ≤ x ∧ x < (n : Int)) ∧ Cur l i' := by
  have key : ∀ (d m : Nat) (o : List Int) (i h : Int), m + d = n → o.length = m → o.Nodup → (∀ x ∈ o, 0 ≤ x ∧ x < (m : Int)) → Cur l i → ∃ (o' : List Int) (i' h' : Int), Ev (fun k => spec_l3Order.l0 k (n : Int) o (m : Int) l i h) (o', i', h') ∧ o'.length = n ∧ o'.Nodup ∧ (∀ x ∈ o', 0 ≤ x ∧ x < (n : Int)) ∧ Cur l i' := by
    intro d
    induction d with
    | zero =>
      intro m o i h hd ho hnd hb hc
      obtain rfl : m = n := by omega
      refine ⟨o, i, h, ev_step ?_, ho, hnd, hb, hc⟩
      simp only [spec_l3Order.l0]
      exact ev_neg (by omega) (Ev.now _)
    | succ d ih =>
      intro m o i h hd ho hnd hb hc
      obtain ⟨x, i1, h1, e1, _, b1, c1⟩ := below_ok hl hc h ((o.length : Int) + 1)
      have b1 := b1 (by omega)
      obtain ⟨j, rfl⟩ := Int.eq_ofNat_of_zero_le b1.1
      have hlen : (o.take j ++ [(m : Int)] ++ ([] ++ o.drop j)).length = m + 1 := by
        rw [List.length_append, List.length_append, List.nil_append, List.length_take, List.length_drop, List.length_singleton]
        omega
      have hperm : (o.take j ++ [(m : Int)] ++ ([] ++ o.drop j)).Perm ((m : Int) :: o) := by
        rw [List.nil_append, List.append_assoc, List.singleton_append]
        refine List.perm_middle.trans ?_
        rw [List.take_append_drop]
      have hmo : (m : Int) ∉ o := fun hm => by have := hb _ hm; omega
      obtain ⟨o', i', h', e, r⟩ := ih (m + 1) (o.take j ++ [(m : Int)] ++ ([] ++ o.drop j)) i1 h1 (by omega) hlen (hperm.nodup_iff.2 (List.nodup_cons.2 ⟨hmo, hnd⟩)) (fun y hy => by
        rcases List.mem_cons.1 (hperm.mem_iff.1 hy) with rfl | hy
        · omega
        · have := hb _ hy; omega) c1
      refine ⟨o', i', h', ev_step ?_, r⟩
      simp only [spec_l3Order.l0]
      rw [wrap_id (x := (o.length : Int) + 1) (by omega) (by omega), wrap_id (x := (m : Int) + 1) (by omega) (by omega)]
      refine ev_pos (by omega) (ev_call e1 (ev_call rfl (ev_pos (by simp only; omega) (ev_pos (by simp only; omega) (ev_call rfl (ev_pos ?_ (ev_call rfl (ev_call rfl (ev_pos ?_ (ev_call rfl (ev_pos ?_ e)))))))))))
      · simp only [List.length_nil, Int.toNat_natCast, List.length_drop]; omega
      · simp only [Int.toNat_natCast, List.length_take]; omega
      · simp only [Int.toNat_natCast, List.length_append, List.length_take, List.length_drop, List.length_nil, List.length_singleton]; omega
  unfold spec_l3Order.f
  exact key n 0 [] i h (by omega) rfl List.nodup_nil (fun x hx => by cases hx) hc
end Go.Proofs.Ytckkfjdkaimmhaa.M
namespace Go.Proofs.Ytckkfjdkaimmhaa.M
open Go.RowKit Go.Proofs.YtckkfjdkaimmhaaW.PrintWords Go.Proofs.Ytckkfjdkaimmhaa.PX Go.Proofs.Ytckkfjdkaimmhaa.G
def hasP (n i p : Nat) : Bool := decide ((tripAt n p).f0 = i) || decide ((tripAt n p).f1 = i) || decide ((tripAt n p).f2 = i)
def revS (n i : Nat) (s : Nat → Int) : Nat → Int := fun p => if hasP n i p then -(s p) else s p
def pmS (n : Nat) (s : Nat → Int) : Prop := ∀ p, p < (tripN n).length → s p = 1 ∨ s p = -1
theorem revS_pm {n i : Nat} {s : Nat → Int} (h : pmS n s) : pmS n (revS n i s) := fun p hp => by
  unfold revS
  rcases h p hp with e | e <;> split <;> omega
theorem revStep_fold (n i : Nat) (d : Nat) : ∀ (p0 : Nat) (s : Nat → Int) (q : Nat), ((List.range' p0 d).foldl (fun s p => if hasP n i p then upd s p (-(s p)) else s) s) q = if p0 ≤ q ∧ q < p0 + d then revS n i s q else s q := by
  induction d with
  | zero =>
    intro p0 s q
    have a1 : ¬ (p0 ≤ q ∧ q < p0 + 0) := by omega
    rw [if_neg a1]; rfl
  | succ d ih =>
    intro p0 s q
    rw [List.range'_succ, List.foldl_cons, ih]
    by_cases hq : q = p0
    · subst hq
      have a1 : ¬ (q + 1 ≤ q ∧ q < q + 1 + d) := by omega
      have a2 : q ≤ q ∧ q < q + (d + 1) := by omega
      rw [if_neg a1, if_pos a2]
      unfold revS
      by_cases g : hasP n i q = true
      · rw [if_pos g, if_pos g, upd_self]
      · rw [if_neg g, if_neg g]
    · have e : (if hasP n i p0 then upd s p0 (-(s p0)) else s) q = s q := by
        split
        · exact upd_ne _ _ hq
        · rfl
      have e' : revS n i (if hasP n i p0 then upd s p0 (-(s p0)) else s) q = revS n i s q := by
        unfold revS
        rw [e]
      rw [e, e']
      by_cases g : p0 + 1 ≤ q ∧ q < p0 + 1 + d
      · have a2 : p0 ≤ q ∧ q < p0 + (d + 1) := by omega
        rw [if_pos g, if_pos a2]
      · have a2 : ¬ (p0 ≤ q ∧ q < p0 + (d + 1)) := by omega
        rw [if_neg g, if_neg a2]
theorem reverse_ev {n i : Nat} {s : Nat → Int} (h0 : 3 ≤ n) (h1 : n ≤ 7) (hs : pmS n s) : Ev (fun k => impl_chi_reverse.f k (tblS n s) (i : Int)) (tblS n (revS n i s)) := by
  unfold impl_chi_reverse.f
  refine ev_pos (tblS_length _ _) ?_
  rw [tblS_n]
  refine Ev.bind (triples_ev h0 h1) ?_
  have hl := trip_len h0 h1
  have h := loop_up' (K := fun s _ => some (tblS n s)) (L := fun p s k => impl_chi_reverse.l0 k (tblS n s) (i : Int) (tripN n) ((tripN n).length : Int) p) (lo := 0) (n := (tripN n).length)
    (fun _ s => pmS n s) (fun s p => .ok (if hasP n i p then upd s p (-(s p)) else s)) (fun s hs => ?_) (fun p _ hp s hs => ?_) (fun p _ hp s hs s' e => ?_) (by omega) s hs
  · rw [foldlM_ok] at h
    refine ev_cast (h _ (Ev.now _)) ?_
    refine tblS_congr fun p hp => ?_
    rw [revStep_fold, if_pos (by omega)]
  · refine Goes.step ?_
    simp only [impl_chi_reverse.l0]
    exact Goes.neg (by omega) (Goes.ok (K := fun s _ => some (tblS n s)) s)
  · obtain ⟨a, b, c, e, hab, hbc, hc, hlk⟩ := trip_at h0 h1 hp
    have hh : hasP n i p = (decide ((a : Int) = i) || decide ((b : Int) = i) || decide ((c : Int) = i)) := by unfold hasP; rw [tripAt_eq hp, e]
    have hset : ∀ v, v = 1 ∨ v = -1 → impl_chi_set.f (tblS n s) (a : Int) (b : Int) (c : Int) v = some (tblS n (upd s p v)) := fun v hv => by
      rw [set_some _ _ _ _ _ (tblS_length _ _) (by omega) (by omega) (by omega) hv]
      simp only [Int.toNat_natCast]
      rw [set_tblS s v h0 h1 (by omega) (by omega) hc (by omega) (by omega) (by omega) hlk]
      rfl
    have hpm := hs p hp
    have hval : wrap64 (-(rd3 (tblS n s) (a : Int) (b : Int) (c : Int))) = -(s p) := by
      rw [tblS_rd n s (by omega) (by omega) (by omega), chiS_at s hlk]
      show wrap64 (-(s p)) = _
      exact wrap_id (by omega) (by omega)
    refine Goes.step ?_
    simp only [impl_chi_reverse.l0, rd_trip hp, e]
    refine Goes.pos (by omega) (Goes.pos (by omega) (Goes.pos (by omega) ?_))
    rw [hval, wrap_id (by omega) (by omega), hh]
    have fin : Goes (ρ := List Int) (.ok (upd s p (-(s p)))) (fun s k => impl_chi_reverse.l0 k (tblS n s) (i : Int) (tripN n) ((tripN n).length : Int) ((p + 1 : Nat) : Int))
        (fun k => if (tblS n s).length = 344 then (if 0 ≤ (a : Int) then (if (a : Int) < 7 then (if 0 ≤ (b : Int) then (if (b : Int) < 7 then (if 0 ≤ (c : Int) then (if (c : Int) < 7 then ((impl_chi_set.f (tblS n s) (a : Int) (b : Int) (c : Int) (-(s p))).bind fun t => impl_chi_reverse.l0 k t (i : Int) (tripN n) ((tripN n).length : Int) ((p : Int) + 1)) else none) else none) else none) else none) else none) else none) else none) := by
      refine Goes.pos (tblS_length _ _) (Goes.pos (by omega) (Goes.pos (by omega) (Goes.pos (by omega) (Goes.pos (by omega) (Goes.pos (by omega) (Goes.pos (by omega) (Goes.call (hset _ (by omega)) ?_)))))))
      exact Goes.ok (K := fun s k => impl_chi_reverse.l0 k (tblS n s) (i : Int) (tripN n) ((tripN n).length : Int) ((p + 1 : Nat) : Int)) _
    by_cases ha : (a : Int) = i
    · rw [decide_eq_true ha]
      exact Goes.pos ha fin
    rw [decide_eq_false ha]
    refine Goes.neg ha ?_
    by_cases hb : (b : Int) = i
    · rw [decide_eq_true hb]
      exact Goes.pos hb fin
    rw [decide_eq_false hb]
    refine Goes.neg hb ?_
    by_cases hcc : (c : Int) = i
    · rw [decide_eq_true hcc]
      exact Goes.pos hcc fin
    rw [decide_eq_false hcc]
    exact Goes.neg hcc (Goes.ok (K := fun s k => impl_chi_reverse.l0 k (tblS n s) (i : Int) (tripN n) ((tripN n).length : Int) ((p + 1 : Nat) : Int)) s)
  · cases e
    intro q hq
    show (if hasP n i p = true then upd s p (-(s p)) else s) q = 1 ∨ _
    have := hs q hq
    split
    · by_cases hqp : q = p
      · subst hqp; rw [upd_self]; omega
      · rw [upd_ne _ _ hqp]; exact this
    · exact this
end Go.Proofs.Ytckkfjdkaimmhaa.M
namespace Go.Proofs.Ytckkfjdkaimmhaa.M
open Go.RowKit Go.Proofs.YtckkfjdkaimmhaaW.PrintWords Go.Proofs.Ytckkfjdkaimmhaa.PX Go.Proofs.Ytckkfjdkaimmhaa.G Go.Proofs.YtckkfjdkaimmhaaW.PrintMore
def par (set : Int) (a b c : Nat) : Bool := decide (Go.bits .and .i64 (wrap64 ((wrap64 ((shr .i64 set (IntKind.u64.wrap (a : Int))) + (shr .i64 set (IntKind.u64.wrap (b : Int))))) + (shr .i64 set (IntKind.u64.wrap (c : Int))))) 1 = 1)
theorem u64_nat {a : Nat} (h : a ≤ 1000) : 0 ≤ IntKind.u64.wrap (a : Int) := by
  simp [IntKind.wrap, IntKind.signed, IntKind.bits]; omega
def revB (n : Nat) (set : Int) (s : Nat → Int) : Nat → Int := fun p => if par set (tripAt n p).f0.toNat (tripAt n p).f1.toNat (tripAt n p).f2.toNat then -(s p) else s p
theorem revB_pm {n : Nat} {set : Int} {s : Nat → Int} (h : pmS n s) : pmS n (revB n set s) := fun p hp => by
  unfold revB
  rcases h p hp with e | e <;> split <;> omega
theorem l4Reverse_ev {n : Nat} {t : ByteArray} (h : areOk n t = true) (set : Int) : Ev (fun k => spec_l4Reverse.f k (n : Int) t set) ((n : Int), txtS n (revB n set (sgB t))) := by
  obtain ⟨⟨h0, h1⟩, _, _⟩ := (areOk_iff _ _).1 h
  have h0 : 3 ≤ n := by omega
  have h1 : n ≤ 7 := by omega
  unfold spec_l4Reverse.f
  have key := loops3B (σ := List UInt8) (ρ := Int × ByteArray) (n := n) (K := fun u _ => some ((n : Int), mkB u)) (L0 := fun a u k => spec_l4Reverse.l0 k set a (n : Int) t (n : Int) (mkB u)) (L1 := fun a b u k => spec_l4Reverse.l1 k set a b (n : Int) t (n : Int) (mkB u))
    (L2 := fun a b c u k => spec_l4Reverse.l2 k set a b c (n : Int) t (n : Int) (mkB u)) h1 List.length 0 (fun u q => .ok (u ++ [sgC (if par set q.1 q.2.1 q.2.2 then -(chi n t q.1 q.2.1 q.2.2) else chi n t q.1 q.2.1 q.2.2)]))
    (foldlM_okL _ _ fun s a => by rw [List.length_append]; exact Nat.le_refl _) (fun u => ?_) (fun a ha u => ?_) (fun a ha u => ?_) (fun a b hab hb u => ?_) (fun a b hab hb u => ?_) (fun a b c hab hbc hc u hu => ?_) [] (Nat.le_refl _)
  · rw [foldlM_ok, foldl_snoc, List.nil_append] at key
    refine ev_cast (key _ (Ev.now _)) ?_
    refine Prod.ext rfl ?_
    show mkB _ = txtS n _
    unfold txtS
    congr 1
    have e := tripN_L h0 h1
    have el : (tripsL n).length = (tripN n).length := by rw [e, List.length_map]
    refine List.ext_getElem (by rw [List.length_map, List.length_map, List.length_range, el]) fun p hp1 hp2 => ?_
    rw [List.length_map, List.length_range] at hp2
    obtain ⟨a, b, c, e1, hab, hbc, hc, hlk⟩ := trip_at h0 h1 hp2
    simp only [List.getElem_map, List.getElem_range, revB, tripAt_eq hp2, e1, Int.toNat_natCast]
    have e2 : (tripsL n)[p]'(by rw [el]; exact hp2) = (a, b, c) := by
      have : (tripN n)[p] = ⟨(((tripsL n)[p]'(by rw [el]; exact hp2)).1 : Int), (((tripsL n)[p]'(by rw [el]; exact hp2)).2.1 : Int), (((tripsL n)[p]'(by rw [el]; exact hp2)).2.2 : Int)⟩ := by
        simp only [e, List.getElem_map]
      rw [e1] at this
      injection this with i1 i2 i3
      refine Prod.ext ?_ (Prod.ext ?_ ?_)
      · exact (Int.ofNat_inj.1 i1).symm
      · exact (Int.ofNat_inj.1 i2).symm
      · exact (Int.ofNat_inj.1 i3).symm
    rw [e2, chi_chiS, chiS_at _ hlk]
    rfl
  · refine Goes.step ?_
    simp only [spec_l4Reverse.l0]
    exact Goes.neg (by omega) (Goes.ok (K := fun u _ => some ((n : Int), mkB u)) u)
  · refine Goes.step ?_
    simp only [spec_l4Reverse.l0]
    refine Goes.pos (by omega) ?_
    rw [wrap_id (by omega) (by omega)]
    exact Goes.ok (K := fun u k => spec_l4Reverse.l1 k set (a : Int) ((a + 1 : Nat) : Int) (n : Int) t (n : Int) (mkB u)) u
  · refine Goes.step ?_
    simp only [spec_l4Reverse.l1]
    refine Goes.neg (by omega) ?_
    rw [wrap_id (by omega) (by omega)]
    exact Goes.ok (K := fun u k => spec_l4Reverse.l0 k set ((a + 1 : Nat) : Int) (n : Int) t (n : Int) (mkB u)) u
  · refine Goes.step ?_
    simp only [spec_l4Reverse.l1]
    refine Goes.pos (by omega) ?_
    rw [wrap_id (by omega) (by omega)]
    exact Goes.ok (K := fun u k => spec_l4Reverse.l2 k set (a : Int) (b : Int) ((b + 1 : Nat) : Int) (n : Int) t (n : Int) (mkB u)) u
  · refine Goes.step ?_
    simp only [spec_l4Reverse.l2]
    refine Goes.neg (by omega) ?_
    rw [wrap_id (by omega) (by omega)]
    exact Goes.ok (K := fun u k => spec_l4Reverse.l1 k set (a : Int) ((b + 1 : Nat) : Int) (n : Int) t (n : Int) (mkB u)) u
  · refine Goes.step ?_
    simp only [spec_l4Reverse.l2]
    refine Goes.pos (by omega) (Goes.ev (l3At_ev h (by omega) (by omega) hc (by omega) (by omega) (by omega)) (Goes.pos (u64_nat (by omega)) (Goes.pos (u64_nat (by omega)) (Goes.pos (u64_nat (by omega)) ?_))))
    have hpm := chi_pm (a := a) (b := b) (c := c) t h0 h1 (by omega) (by omega) hc (by omega) (by omega) (by omega)
    rw [wrap_id (x := (c : Int) + 1) (by omega) (by omega)]
    have fin : ∀ v, Goes (ρ := Int × ByteArray) (.ok (u ++ [sgC v])) (fun u k => spec_l4Reverse.l2 k set (a : Int) (b : Int) ((c + 1 : Nat) : Int) (n : Int) t (n : Int) (mkB u)) (fun k => if (mkB u).size + (mkB [sgC v]).size ≤ 9223372036854775807 then spec_l4Reverse.l2 k set (a : Int) (b : Int) ((c : Int) + 1) (n : Int) t (n : Int) (mkB u ++ mkB [sgC v]) else none) := fun v => by
      refine Goes.pos (by rw [mkB_size, mkB_size, List.length_cons, List.length_nil]; omega) ?_
      rw [mkB_append]
      exact Goes.ok (K := fun u k => spec_l4Reverse.l2 k set (a : Int) (b : Int) ((c + 1 : Nat) : Int) (n : Int) t (n : Int) (mkB u)) _
    by_cases g : par set a b c = true
    · refine Goes.pos (of_decide_eq_true g) (Goes.call (byte_ev _) ?_)
      rw [wrap_id (by omega) (by omega)]
      simp only [g, if_true]
      exact fin _
    · refine Goes.neg (fun e => g (decide_eq_true e)) (Goes.call (byte_ev _) ?_)
      simp only [g]
      exact fin _
end Go.Proofs.Ytckkfjdkaimmhaa.M
namespace Go.Proofs.Ytckkfjdkaimmhaa.M
open Go.RowKit Go.Proofs.YtckkfjdkaimmhaaW.PrintWords Go.Proofs.Ytckkfjdkaimmhaa.PX Go.Proofs.Ytckkfjdkaimmhaa.G Go.Proofs.YtckkfjdkaimmhaaW.PrintMore
def SmallS (n : Int) (t : ByteArray) : Prop := (0 ≤ n ∧ n ≤ 8) ∧ t.size ≤ 101
theorem l4Draw_ok {l : List Int} (hl : l.length ≤ 1048576) {i : Int} (hc : Cur l i) (h : Int) : ∃ (n : Int) (t : ByteArray) (i' h' : Int), Ev (fun k => spec_l4Draw.f k l i h) (n, t, i', h') ∧ SmallS n t ∧ Cur l i' := by
  obtain ⟨n, t, i1, h1, e1, m1, m2, c1⟩ := l3Bent_ok hl hc h
  have ea := spec_are n t (by omega)
  have no : ∀ (i h : Int), Cur l i → ∃ (n' : Int) (t' : ByteArray) (i' h' : Int), Ev (fun k => spec_l4Draw.j0 k false l i h n t) (n', t', i', h') ∧ SmallS n' t' ∧ Cur l i' := fun i h hc => by
    refine ⟨n, t, i, h, ev_step ?_, ⟨m1, m2⟩, hc⟩
    simp only [spec_l4Draw.j0]
    exact ev_neg (by decide) (Ev.now _)
  by_cases g : areOk n t = true
  · obtain ⟨b, i2, h2, e2, c2⟩ := once_ok hl c1 h1 4
    cases b with
    | false =>
      obtain ⟨n', t', i', h', e, r⟩ := no i2 h2 c2
      refine ⟨n', t', i', h', ?_, r⟩
      unfold spec_l4Draw.f
      exact Ev.bind e1 (Ev.bind ea (ev_pos g (ev_call e2 e)))
    | true =>
      obtain ⟨⟨h0, h1'⟩, _, _⟩ := (areOk_iff _ _).1 g
      obtain ⟨N, rfl⟩ := Int.eq_ofNat_of_zero_le m1.1
      obtain ⟨x, i3, h3, e3, _, b3, c3⟩ := below_ok hl c2 h2 (N : Int)
      have b3 := b3 (by omega)
      obtain ⟨y, rfl⟩ := Int.eq_ofNat_of_zero_le b3.1
      have er := l4Reverse_ev g (shl .i64 1 (IntKind.u64.wrap (y : Int)))
      have hs := areOk_size (txtS_ok (revB N (shl .i64 1 (IntKind.u64.wrap (y : Int))) (sgB t)) (n := N) (by omega) (by omega))
      refine ⟨(N : Int), _, i3, h3, ?_, ⟨m1, Nat.le_trans hs (by decide)⟩, c3⟩
      unfold spec_l4Draw.f
      refine Ev.bind e1 (Ev.bind ea (ev_pos g (ev_call e2 (ev_step ?_))))
      simp only [spec_l4Draw.j0]
      exact ev_pos (by trivial) (ev_call e3 (ev_pos (u64_nat (by omega)) (Ev.bind er (Ev.now _))))
  · obtain ⟨n', t', i', h', e, r⟩ := no i1 h1 c1
    refine ⟨n', t', i', h', ?_, r⟩
    unfold spec_l4Draw.f
    exact Ev.bind e1 (Ev.bind ea (ev_neg g e))
theorem max_ev (a b : Int) : spec_l1Max.f a b = some (if a > b then a else b) := by
  unfold spec_l1Max.f
  split <;> rfl
theorem bit_ev (b : Bool) : spec_l1Bit.f b = some (if b = true then 1 else 0) := by cases b <;> rfl
theorem l3One_ok {l : List Int} (hl : l.length ≤ 1048576) : ∃ (n : Int) (t : ByteArray) (x : Int), Ev (fun k => spec_l3One.f k l) (n, t, x) ∧ SmallS n t := by
  obtain ⟨h, hn⟩ := new_ok l hl
  obtain ⟨n, t, i1, h1, e1, m1, m2, c1⟩ := l3Bent_ok hl (cur0 l) h
  obtain ⟨x, i2, h2, e2, _, _, c2⟩ := below_ok hl c1 h1 (if (1 : Int) > n then 1 else n)
  obtain ⟨b, i3, h3, e3, c3⟩ := once_ok hl c2 h2 14
  refine ⟨n, t, wrap64 (x - (if b = true then 1 else 0)), ?_, m1, m2⟩
  · unfold spec_l3One.f
    exact Ev.bind hn (Ev.bind e1 (ev_call (max_ev 1 n) (ev_call e2 (ev_call e3 (ev_call (bit_ev b) (Ev.now _))))))
theorem l4Four_ok {l : List Int} (hl : l.length ≤ 1048576) : ∃ (n : Int) (t : ByteArray) (o : List Int), Ev (fun k => spec_l4Four.f k l) (n, t, o) ∧ SmallS n t ∧ o.length = 4 := by
  obtain ⟨h, hn⟩ := new_ok l hl
  obtain ⟨n, t, i1, h1, e1, m1, c1⟩ := l4Draw_ok hl (cur0 l) h
  obtain ⟨M, hM⟩ : ∃ M : Nat, (if (4 : Int) > n then 4 else n) = (M : Int) ∧ 4 ≤ M ∧ M ≤ 8 := by
    obtain ⟨⟨h0, h8⟩, _⟩ := m1
    split
    · exact ⟨4, rfl, by omega, by omega⟩
    · obtain ⟨N, rfl⟩ := Int.eq_ofNat_of_zero_le h0
      exact ⟨N, rfl, by omega, by omega⟩
  obtain ⟨o, i2, h2, e2, lo, _, _, c2⟩ := l3Order_ok hl c1 h1 M (by omega)
  obtain ⟨b, i3, h3, e3, c3⟩ := once_ok hl c2 h2 14
  have em := max_ev 4 n
  rw [hM.1] at em
  cases b with
  | false =>
    refine ⟨n, t, o.take (4 : Int).toNat, ?_, m1, by rw [List.length_take]; simp; omega⟩
    unfold spec_l4Four.f
    exact Ev.bind hn (Ev.bind e1 (ev_call em (Ev.bind e2 (ev_call e3 (ev_neg (by simp) (ev_pos (by simp only; omega) (Ev.now _)))))))
  | true =>
    obtain ⟨x, i4, h4, e4, _, _, c4⟩ := below_ok hl c3 h3 8
    refine ⟨n, t, (o.set (0 : Int).toNat (wrap64 (x - 1))).take (4 : Int).toNat, ?_, m1, by rw [List.length_take, List.length_set]; simp; omega⟩
    unfold spec_l4Four.f
    exact Ev.bind hn (Ev.bind e1 (ev_call em (Ev.bind e2 (ev_call e3 (ev_pos (by trivial) (ev_call e4 (ev_pos (by simp only; omega) (ev_pos (by simp only; omega) (Ev.now _)))))))))
theorem sameInts_self (l : List Int) (hl : l.length ≤ 10000000) : Ev (fun k => laws_sameInts.f k l l) true := by
  unfold laws_sameInts.f
  refine ev_pos rfl ?_
  have key : ∀ (d i : Nat), i + d = l.length → Ev (fun k => laws_sameInts.l0 k l l (i : Int)) true := by
    intro d
    induction d with
    | zero =>
      intro i hi
      refine ev_step ?_
      simp only [laws_sameInts.l0]
      exact ev_neg (by omega) (Ev.now _)
    | succ d ih =>
      intro i hi
      refine ev_step ?_
      simp only [laws_sameInts.l0]
      rw [wrap_id (by omega) (by omega)]
      exact ev_pos (by omega) (ev_pos (by omega) (ev_pos (by omega) (ev_pos (by trivial) (ih (i + 1) (by omega)))))
  exact key l.length 0 (by omega)
theorem hasInt_ev (l : List Int) (x : Int) (hx : x ∈ l) (hl : l.length ≤ 10000000) : Ev (fun k => laws_hasInt.f k l x) true := by
  unfold laws_hasInt.f
  obtain ⟨j, hj, rfl⟩ := List.getElem_of_mem hx
  have key : ∀ (d i : Nat), i + d = j → Ev (fun k => laws_hasInt.l0 k l l[j] (i : Int)) true := by
    intro d
    induction d with
    | zero =>
      intro i hi
      obtain rfl : i = j := by omega
      refine ev_step ?_
      simp only [laws_hasInt.l0]
      refine ev_pos (by omega) (ev_pos (by omega) (ev_pos ?_ (Ev.now _)))
      unfold rd
      rw [Int.toNat_natCast, List.getD_eq_getElem?_getD, List.getElem?_eq_getElem hj]
      rfl
    | succ d ih =>
      intro i hi
      refine ev_step ?_
      simp only [laws_hasInt.l0]
      rw [wrap_id (by omega) (by omega)]
      refine ev_pos (by omega) (ev_pos (by omega) ?_)
      by_cases g : rd l (i : Int) = l[j]
      · exact ev_pos g (Ev.now _)
      · exact ev_neg g (ih (i + 1) (by omega))
  exact key j 0 (by omega)
end Go.Proofs.Ytckkfjdkaimmhaa.M
namespace Go.Proofs.Ytckkfjdkaimmhaa.M
open Go.RowKit Go.Proofs.YtckkfjdkaimmhaaW.PrintWords Go.Proofs.Ytckkfjdkaimmhaa.PX Go.Proofs.Ytckkfjdkaimmhaa.G
def allPlus (n : Nat) (t : ByteArray) (q : Nat × Nat × Nat × Nat) : Bool := decide ((circT (chi n t q.2.1 q.2.2.1 q.2.2.2) (chi n t q.1 q.2.2.1 q.2.2.2) (chi n t q.1 q.2.1 q.2.2.2) (chi n t q.1 q.2.1 q.2.2.1)).toList = ([43, 43, 43, 43] : List UInt8))
def acyc (n : Nat) (t : ByteArray) : Bool := !((quadsL n).any (allPlus n t))
theorem quadQ_L {n : Nat} (h0 : 3 ≤ n) (h1 : n ≤ 7) : quadQ n = quadsL n ∧ (quadsL n).length ≤ 35 := by
  refine five (p := fun n => quadQ n = quadsL n ∧ (quadsL n).length ≤ 35) h0 h1 ?_ ?_ ?_ ?_ ?_ <;> decide +kernel
theorem spec_acyc {n : Nat} {t : ByteArray} (h : areOk n t = true) : Ev (fun k => spec_l4Acyclic.f k (n : Int) t) (acyc n t) := by
  obtain ⟨⟨h0, h1⟩, _, _⟩ := (areOk_iff _ _).1 h
  have h0 : 3 ≤ n := by omega
  have h1 : n ≤ 7 := by omega
  unfold spec_l4Acyclic.f
  have key := loops4 (σ := Unit) (ρ := Bool) (n := n) (K := fun _ _ => some true) (L0 := fun a _ k => spec_l4Acyclic.l0 k a (n : Int) t) (L1 := fun a b _ k => spec_l4Acyclic.l1 k a b (n : Int) t) (L2 := fun a b c _ k => spec_l4Acyclic.l2 k a b c (n : Int) t)
    (L3 := fun a b c d _ k => spec_l4Acyclic.l3 k a b c d (n : Int) t) (fun _ q => if allPlus n t q then .error false else .ok ()) (fun u => ?_) (fun a ha u => ?_) (fun a ha u => ?_) (fun a b hab hb u => ?_) (fun a b hab hb u => ?_) (fun a b c hab hbc hc u => ?_) (fun a b c hab hbc hc u => ?_) (fun a b c d hab hbc hcd hd u => ?_) ()
  · rw [foldlM_any] at key
    unfold acyc
    cases hq : (quadsL n).any (allPlus n t) with
    | true => rw [hq] at key; exact key
    | false => rw [hq] at key; exact key _ (Ev.now _)
  · refine Goes.step ?_
    simp only [spec_l4Acyclic.l0]
    exact Goes.neg (by omega) (Goes.ok (K := fun _ _ => some true) u)
  · refine Goes.step ?_
    simp only [spec_l4Acyclic.l0]
    refine Goes.pos (by omega) ?_
    rw [wrap_id (by omega) (by omega)]
    exact Goes.ok (K := fun _ k => spec_l4Acyclic.l1 k (a : Int) ((a + 1 : Nat) : Int) (n : Int) t) u
  · refine Goes.step ?_
    simp only [spec_l4Acyclic.l1]
    refine Goes.neg (by omega) ?_
    rw [wrap_id (by omega) (by omega)]
    exact Goes.ok (K := fun _ k => spec_l4Acyclic.l0 k ((a + 1 : Nat) : Int) (n : Int) t) u
  · refine Goes.step ?_
    simp only [spec_l4Acyclic.l1]
    refine Goes.pos (by omega) ?_
    rw [wrap_id (by omega) (by omega)]
    exact Goes.ok (K := fun _ k => spec_l4Acyclic.l2 k (a : Int) (b : Int) ((b + 1 : Nat) : Int) (n : Int) t) u
  · refine Goes.step ?_
    simp only [spec_l4Acyclic.l2]
    refine Goes.neg (by omega) ?_
    rw [wrap_id (by omega) (by omega)]
    exact Goes.ok (K := fun _ k => spec_l4Acyclic.l1 k (a : Int) ((b + 1 : Nat) : Int) (n : Int) t) u
  · refine Goes.step ?_
    simp only [spec_l4Acyclic.l2]
    refine Goes.pos (by omega) ?_
    rw [wrap_id (by omega) (by omega)]
    exact Goes.ok (K := fun _ k => spec_l4Acyclic.l3 k (a : Int) (b : Int) (c : Int) ((c + 1 : Nat) : Int) (n : Int) t) u
  · refine Goes.step ?_
    simp only [spec_l4Acyclic.l3]
    refine Goes.neg (by omega) ?_
    rw [wrap_id (by omega) (by omega)]
    exact Goes.ok (K := fun _ k => spec_l4Acyclic.l2 k (a : Int) (b : Int) ((c + 1 : Nat) : Int) (n : Int) t) u
  · refine Goes.step ?_
    simp only [spec_l4Acyclic.l3]
    refine Goes.pos (by omega) (Goes.ev (spec_circ4 h (by omega) (by omega) (by omega) hd (by omega) (by omega) (by omega) (by omega) (by omega) (by omega)) ?_)
    rw [wrap_id (by omega) (by omega)]
    by_cases g : allPlus n t (a, b, c, d) = true
    · rw [if_pos g]
      exact Goes.pos (of_decide_eq_true g) (Goes.ret _)
    · rw [if_neg g]
      exact Goes.neg (fun e => g (decide_eq_true e)) (Goes.ok (K := fun _ k => spec_l4Acyclic.l3 k (a : Int) (b : Int) (c : Int) ((d + 1 : Nat) : Int) (n : Int) t) u)
theorem impl_acyc {n : Nat} {t : ByteArray} (h : areOk n t = true) : Ev (fun k => impl_chi_isAcyclic.f k (tblL n t)) (acyc n t) := by
  obtain ⟨⟨h0, h1⟩, _, _⟩ := (areOk_iff _ _).1 h
  have h0 : 3 ≤ n := by omega
  have h1 : n ≤ 7 := by omega
  obtain ⟨hq, hq35⟩ := quadQ_L h0 h1
  unfold impl_chi_isAcyclic.f
  rw [tbl_n]
  refine Ev.bind (quads_ev h0 h1) ?_
  rw [hq]
  have hl : ((quadsL n).map toS4).length = (quadsL n).length := List.length_map ..
  have key := loop_up (σ := Unit) (ρ := Bool) (lo := 0) (n := (quadsL n).length) (K := fun _ _ => some true) (L := fun i _ k => impl_chi_isAcyclic.l0 k (tblL n t) ((quadsL n).map toS4) (((quadsL n).map toS4).length : Int) i)
    (fun _ i => if allPlus n t ((quadsL n).getD i (0, 0, 0, 0)) then .error false else .ok ()) (fun u => ?_) (fun i _ hi u => ?_) (by omega) ()
  · rw [foldlM_index (0, 0, 0, 0) (fun _ q => if allPlus n t q then (.error false : Except Bool Unit) else .ok ()), foldlM_any] at key
    unfold acyc
    cases hq : (quadsL n).any (allPlus n t) with
    | true => rw [hq] at key; exact key
    | false => rw [hq] at key; exact key _ (Ev.now _)
  · refine Goes.step ?_
    simp only [impl_chi_isAcyclic.l0]
    exact Goes.neg (by omega) (Goes.ok (K := fun _ _ => some true) u)
  · have hg : (quadsL n).getD i (0, 0, 0, 0) = (quadsL n)[i] := by rw [List.getD_eq_getElem?_getD, List.getElem?_eq_getElem hi]; rfl
    have hm := List.getElem_mem hi
    rw [hg]
    refine Goes.step ?_
    simp only [impl_chi_isAcyclic.l0, rd_toS4 hi]
    generalize (quadsL n)[i] = q at *
    obtain ⟨a, b, c, d⟩ := q
    obtain ⟨hab, hbc, hcd, hd⟩ := mem_quads hm
    simp only [toS4]
    refine Goes.pos (by omega) (Goes.pos (by omega) (Goes.pos (by omega) (Goes.ev (chi_circuit_ev h (by omega) (by omega) (by omega) hd (by omega) (by omega) (by omega) (by omega) (by omega) (by omega)) ?_)))
    rw [wrap_id (by omega) (by omega)]
    by_cases g : allPlus n t (a, b, c, d) = true
    · rw [if_pos g]
      exact Goes.pos (of_decide_eq_true g) (Goes.ret _)
    · rw [if_neg g]
      exact Goes.neg (fun e => g (decide_eq_true e)) (Goes.ok (K := fun _ k => impl_chi_isAcyclic.l0 k (tblL n t) ((quadsL n).map toS4) (((quadsL n).map toS4).length : Int) ((i + 1 : Nat) : Int)) u)
end Go.Proofs.Ytckkfjdkaimmhaa.M
namespace Go.Proofs.Ytckkfjdkaimmhaa.M
open Go.RowKit Go.Proofs.YtckkfjdkaimmhaaW.PrintWords Go.Proofs.Ytckkfjdkaimmhaa.PX Go.Proofs.Ytckkfjdkaimmhaa.G
theorem impl_mat (n : Int) (t : ByteArray) (hs : t.size ≤ 9223372036854775807) : impl_IsMatroid.f n t = some (matOk n t) := if_pos hs
theorem spec_mat (n : Int) (t : ByteArray) (hs : t.size ≤ 9223372036854775807) : Ev (fun k => spec_IsMatroid.f k n t) (matOk n t) := by
  unfold spec_IsMatroid.f matOk
  refine Ev.bind (spec_are n t hs) ?_
  cases h : areOk n t with
  | true =>
    refine ev_pos (by trivial) (Ev.bind (spec_break n t hs) (ev_cast (Ev.now _) ?_))
    cases brkA n t with
    | nil => rfl
    | cons x l => rw [Bool.true_and, List.isEmpty_cons, List.length_cons]; exact beq_eq_false_iff_ne.2 (by omega)
  | false => exact ev_neg (by decide) (Ev.now _)
theorem mat_are {n : Int} {t : ByteArray} (h : matOk n t = true) : areOk n t = true := by
  unfold matOk at h
  rw [Bool.and_eq_true] at h
  exact h.1
end Go.Proofs.Ytckkfjdkaimmhaa.M
namespace Go.Proofs.Ytckkfjdkaimmhaa.M
open Go.RowKit Go.Proofs.YtckkfjdkaimmhaaW.PrintWords Go.Proofs.Ytckkfjdkaimmhaa.PX Go.Proofs.Ytckkfjdkaimmhaa.G
def acyOk (n : Int) (t : ByteArray) : Bool := matOk n t && acyc n.toNat t
theorem impl_isA (n : Int) (t : ByteArray) (hs : t.size ≤ 9223372036854775807) : Ev (fun k => impl_IsAcyclic.f k n t) (acyOk n t) := by
  unfold impl_IsAcyclic.f acyOk
  refine ev_call (impl_mat n t hs) ?_
  cases h : matOk n t with
  | false => exact ev_neg (by decide) (Ev.now _)
  | true =>
    have ha := mat_are h
    obtain ⟨⟨h0, h1⟩, _, _⟩ := (areOk_iff _ _).1 ha
    obtain ⟨N, rfl⟩ : ∃ N : Nat, n = (N : Int) := Int.eq_ofNat_of_zero_le (by omega)
    exact ev_pos (by trivial) (Ev.bind (tableOf_ev ha) (ev_pos (tblL_length _ _) (Ev.bind (impl_acyc ha) (Ev.now _))))
theorem spec_isA (n : Int) (t : ByteArray) (hs : t.size ≤ 9223372036854775807) : Ev (fun k => spec_IsAcyclic.f k n t) (acyOk n t) := by
  unfold spec_IsAcyclic.f acyOk
  refine Ev.bind (spec_mat n t hs) ?_
  cases h : matOk n t with
  | false => exact ev_neg (by decide) (Ev.now _)
  | true =>
    have ha := mat_are h
    obtain ⟨⟨h0, h1⟩, _, _⟩ := (areOk_iff _ _).1 ha
    obtain ⟨N, rfl⟩ : ∃ N : Nat, n = (N : Int) := Int.eq_ofNat_of_zero_le (by omega)
    exact ev_pos (by trivial) (Ev.bind (spec_acyc ha) (Ev.now _))
end Go.Proofs.Ytckkfjdkaimmhaa.M
namespace Go.Proofs.Ytckkfjdkaimmhaa.PX
open Go.RowKit Go.Proofs.Ytckkfjdkaimmhaa.G Go.Proofs.YtckkfjdkaimmhaaW.PrintWords Go.Proofs.YtckkfjdkaimmhaaW.PrintLast Go.Proofs.YtckkfjdkaimmhaaW.PrintMore
attribute [local go_sem] max2_int min2_int max_two min_two max_three min_three max_four min_four   -- for this text's walks alone
set_option linter.unusedVariables false
set_option linter.unusedSimpArgs false
/-! ### impl_single: function 150 -/
/-! ### spec_l5Only: function 113 -/
end Go.Proofs.Ytckkfjdkaimmhaa.PX
namespace Go.Proofs.Ytckkfjdkaimmhaa.M
open Go.RowKit Go.Proofs.YtckkfjdkaimmhaaW.PrintWords Go.Proofs.Ytckkfjdkaimmhaa.PX Go.Proofs.YtckkfjdkaimmhaaW.PrintMore
def bitQ (set i : Int) : Int := Go.bits .and .i64 (shr .i64 set i) 1
def bitChk : Bool := (List.range 8).all fun k => decide (IntKind.u64.wrap (k : Int) = (k : Int)) && decide (shl .i64 1 (k : Int) = ((2 ^ k : Nat) : Int)) && decide (2 ^ k ≤ 128) &&
  ((List.range 128).all fun s => decide (bitQ (s : Int) (k : Int) = if s.testBit k then 1 else 0))
theorem bitChk_ok : bitChk = true := by decide +kernel
theorem bit_facts {k : Nat} (hk : k ≤ 7) : IntKind.u64.wrap (k : Int) = (k : Int) ∧ shl .i64 1 (k : Int) = ((2 ^ k : Nat) : Int) ∧ 2 ^ k ≤ 128 ∧ ∀ s : Nat, s < 128 → bitQ (s : Int) (k : Int) = if s.testBit k then 1 else 0 := by
  have h := List.all_eq_true.1 bitChk_ok k (List.mem_range.2 (by omega))
  simp only [Bool.and_eq_true, decide_eq_true_eq, List.all_eq_true, List.mem_range] at h
  exact ⟨h.1.1.1, h.1.1.2, h.1.2, h.2⟩
theorem u64_id {k : Nat} (hk : k ≤ 7) : IntKind.u64.wrap (k : Int) = (k : Int) := (bit_facts hk).1
theorem shl_id {k : Nat} (hk : k ≤ 7) : shl .i64 1 (k : Int) = ((2 ^ k : Nat) : Int) := (bit_facts hk).2.1
end Go.Proofs.Ytckkfjdkaimmhaa.M
namespace Go.Proofs.Ytckkfjdkaimmhaa.PX
open Go.RowKit Go.Proofs.Ytckkfjdkaimmhaa.G Go.Proofs.YtckkfjdkaimmhaaW.PrintWords Go.Proofs.YtckkfjdkaimmhaaW.PrintLast Go.Proofs.YtckkfjdkaimmhaaW.PrintMore
attribute [local go_sem] max2_int min2_int max_two min_two max_three min_three max_four min_four   -- for this text's walks alone
set_option linter.unusedVariables false
set_option linter.unusedSimpArgs false
/-! ### impl_orderOf: function 105 -/
/-! ### impl_chi_split: function 106 -/
/-! ### spec_l5Split: function 108 -/
end Go.Proofs.Ytckkfjdkaimmhaa.PX
namespace Go.Proofs.Ytckkfjdkaimmhaa.M
open Go.RowKit Go.Proofs.YtckkfjdkaimmhaaW.PrintWords Go.Proofs.Ytckkfjdkaimmhaa.PX Go.Proofs.Ytckkfjdkaimmhaa.G Go.Proofs.YtckkfjdkaimmhaaW.PrintMore
def dist4 (a b c d : Nat) : Bool := decide (a ≠ b) && decide (a ≠ c) && decide (a ≠ d) && decide (b ≠ c) && decide (b ≠ d) && decide (c ≠ d)
theorem dist4_iff {a b c d : Nat} : dist4 a b c d = true ↔ (a ≠ b ∧ a ≠ c ∧ a ≠ d ∧ b ≠ c ∧ b ≠ d ∧ c ≠ d) := by
  simp only [dist4, Bool.and_eq_true, decide_eq_true_eq]
  constructor <;> intro h <;> omega
section
variable {n : Nat} {t : ByteArray} (h : areOk n t = true) {a b c d : Nat} (ha : a < n) (hb : b < n) (hc : c < n) (hd : d < n) (hx : dist4 a b c d = true)
include h ha hb hc hd hx
end
end Go.Proofs.Ytckkfjdkaimmhaa.M
