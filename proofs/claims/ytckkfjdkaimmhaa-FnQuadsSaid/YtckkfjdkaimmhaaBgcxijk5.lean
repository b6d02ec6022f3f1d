/- A part of proofs about signs and points: what some functions answer, and that their calls answer so. No condition. -/
import Derived.Test.YtckkfjdkaimmhaaProg
import Derived.Laws.Bits128
import Derived.Test.YtckkfjdkaimmhaaV1
import Derived.Test.YtckkfjdkaimmhaaBgcxijk1
import Derived.Test.YtckkfjdkaimmhaaBgcxijk2
import Derived.Test.YtckkfjdkaimmhaaBgcxijk3
import Derived.Test.YtckkfjdkaimmhaaBgcxijk4
set_option linter.unusedVariables false
set_option linter.unusedSimpArgs false
namespace Go.Proofs.Ytckkfjdkaimmhaa.PX
open Go.RowKit Go.Proofs.Ytckkfjdkaimmhaa.G Go.Proofs.YtckkfjdkaimmhaaW.PrintWords Go.Proofs.YtckkfjdkaimmhaaW.PrintLast Go.Proofs.YtckkfjdkaimmhaaW.PrintMore
attribute [local go_sem] max2_int min2_int max_two min_two max_three min_three max_four min_four   -- for this text's walks alone
set_option linter.unusedVariables false
set_option linter.unusedSimpArgs false
/-! ### laws_FnQuads: function 4 -/
mutual
def laws_FnQuads.j0 : Nat → Int → Int → Int → Int → Int → Int → List (List Int) → Int → Int → Int → Int → Bool → Int → ByteArray → Int → ByteArray → Int → ByteArray → Option (Bool)
 | 0, _, _, _, _, _, _, _, _, _, _, _, _, _, _, _, _, _, _ => none
 | k + 1, x4, x5, x6, x7, x8, x9, x13, x15, x16, x17, x18, x133, x925000, x925001, x932000, x932001, x942000, x942001 => if x133 = true then (some false) else (if x8 > 0 then (if (Go.bits .and .i64 x8 x9) = 0 then ((laws_size.f k x8).bind fun t956 => ((laws_size.f k x9).bind fun t957 => (if (wrap64 (t956 + t957)) = 4 then ((laws_size.f k x8).bind fun t958 => (if t958 < 1 then (laws_FnQuads.j1 k x4 x5 x6 x7 x8 x9 x13 x15 x16 x17 x18 true x925000 x925001 x932000 x932001 x942000 x942001) else ((laws_size.f k x8).bind fun t959 => (if t959 > 3 then (laws_FnQuads.j1 k x4 x5 x6 x7 x8 x9 x13 x15 x16 x17 x18 true x925000 x925001 x932000 x932001 x942000 x942001) else ((impl_InnerOf.f k x925000 x925001 x4 x5 x6 x7).bind fun t960 => ((laws_size.f k x8).bind fun t961 => (laws_FnQuads.j1 k x4 x5 x6 x7 x8 x9 x13 x15 x16 x17 x18 ((decide (t960 < 0)) != (t961 == 2)) x925000 x925001 x932000 x932001 x942000 x942001))))))) else (laws_FnQuads.j1 k x4 x5 x6 x7 x8 x9 x13 x15 x16 x17 x18 true x925000 x925001 x932000 x932001 x942000 x942001)))) else (laws_FnQuads.j1 k x4 x5 x6 x7 x8 x9 x13 x15 x16 x17 x18 true x925000 x925001 x932000 x932001 x942000 x942001)) else (laws_FnQuads.j2 k x13 x15 x16 x17 x18 x932000 x932001 x942000 x942001))
def laws_FnQuads.j2 : Nat → List (List Int) → Int → Int → Int → Int → Int → ByteArray → Int → ByteArray → Option (Bool)
 | 0, _, _, _, _, _, _, _, _, _ => none
 | k + 1, x13, x15, x16, x17, x18, x932000, x932001, x942000, x942001 => (impl_CountQuads.f k x932000 x932001).bind fun t964 => (if t964 ≥ 0 then ((impl_CountQuads.f k x932000 x932001).bind fun t965 => (if t965 = (x13.length : Int) then ((spec_IsAcyclic.f k x932000 x932001).bind fun t966 => (if t966 = true then (if x932000 ≥ 5 then (laws_FnQuads.j3 k x13 x15 x16 x17 x18 ((x13.length : Int) == 0) x932000 x932001 x942000 x942001) else (laws_FnQuads.j3 k x13 x15 x16 x17 x18 false x932000 x932001 x942000 x942001)) else (laws_FnQuads.j3 k x13 x15 x16 x17 x18 false x932000 x932001 x942000 x942001))) else (laws_FnQuads.j3 k x13 x15 x16 x17 x18 true x932000 x932001 x942000 x942001))) else ((spec_IsAcyclic.f k x932000 x932001).bind fun t967 => (if t967 = true then (if x932000 ≥ 5 then (laws_FnQuads.j3 k x13 x15 x16 x17 x18 ((x13.length : Int) == 0) x932000 x932001 x942000 x942001) else (laws_FnQuads.j3 k x13 x15 x16 x17 x18 false x932000 x932001 x942000 x942001)) else (laws_FnQuads.j3 k x13 x15 x16 x17 x18 false x932000 x932001 x942000 x942001))))
def laws_FnQuads.j3 : Nat → List (List Int) → Int → Int → Int → Int → Bool → Int → ByteArray → Int → ByteArray → Option (Bool)
 | 0, _, _, _, _, _, _, _, _, _, _ => none
 | k + 1, x13, x15, x16, x17, x18, x222, x932000, x932001, x942000, x942001 => if x222 = true then (some false) else (laws_FnQuads.l0 k x13 x15 x16 x17 x18 0 x932000 x932001 x942000 x942001)
def laws_FnQuads.l0 : Nat → List (List Int) → Int → Int → Int → Int → Int → Int → ByteArray → Int → ByteArray → Option (Bool)
 | 0, _, _, _, _, _, _, _, _, _, _ => none
 | k + 1, x13, x15, x16, x17, x18, x21, x932000, x932001, x942000, x942001 => if x21 < (x13.length : Int) then (if 0 ≤ x21 then (if 0 < ((rd_L6 x13 x21).length : Int) then (if 1 < ((rd_L6 x13 x21).length : Int) then (if 2 < ((rd_L6 x13 x21).length : Int) then (if 3 < ((rd_L6 x13 x21).length : Int) then ((impl_InnerOf.f k x932000 x932001 (rd (rd_L6 x13 x21) 0) (rd (rd_L6 x13 x21) 1) (rd (rd_L6 x13 x21) 2) (rd (rd_L6 x13 x21) 3)).bind fun t976 => (if t976 = (-1) then (laws_FnQuads.l0 k x13 x15 x16 x17 x18 (wrap64 (x21 + 1)) x932000 x932001 x942000 x942001) else (some false))) else (none)) else (none)) else (none)) else (none)) else (none)) else ((impl_IsInside.f k x942000 x942001 x15 x16 x17 x18).bind fun t977 => (if t977 = true then ((impl_IsInside.f k x942000 x942001 x16 x15 x17 x18).bind fun t978 => (if t978 = true then (some false) else ((impl_CountInside.f k x942000 x942001 x16 x17 x18).bind fun t979 => (some (decide (t979 ≥ 1)))))) else (some true)))
def laws_FnQuads.j1 : Nat → Int → Int → Int → Int → Int → Int → List (List Int) → Int → Int → Int → Int → Bool → Int → ByteArray → Int → ByteArray → Int → ByteArray → Option (Bool)
 | 0, _, _, _, _, _, _, _, _, _, _, _, _, _, _, _, _, _, _ => none
 | k + 1, x4, x5, x6, x7, x8, x9, x13, x15, x16, x17, x18, x170, x925000, x925001, x932000, x932001, x942000, x942001 => if x170 = true then (some false) else ((impl_SplitOf.f k x925000 x925001 x5 x4 x6 x7).bind fun bt962 => (if bt962.1 = x8 then (if bt962.2 = x9 then (laws_FnQuads.j2 k x13 x15 x16 x17 x18 x932000 x932001 x942000 x942001) else (if bt962.1 = x9 then (if bt962.2 = x8 then (laws_FnQuads.j2 k x13 x15 x16 x17 x18 x932000 x932001 x942000 x942001) else (some false)) else (some false))) else (if bt962.1 = x9 then (if bt962.2 = x8 then (laws_FnQuads.j2 k x13 x15 x16 x17 x18 x932000 x932001 x942000 x942001) else (some false)) else (some false))))
end
def laws_FnQuads.f (k : Nat) (l0 : List Int) : Option (Bool) := (laws_big.f l0).bind fun t917 => (if t917 = true then (some true) else ((spec_DrawSplitOf.f k l0).bind fun bt918 => ((impl_SplitOf.f k bt918.1 bt918.2.1 bt918.2.2.1 bt918.2.2.2.1 bt918.2.2.2.2.1 bt918.2.2.2.2.2).bind fun bt925 => ((spec_SplitOf.f k bt918.1 bt918.2.1 bt918.2.2.1 bt918.2.2.2.1 bt918.2.2.2.2.1 bt918.2.2.2.2.2).bind fun bt927 => ((spec_DrawQuadsOf.f k l0).bind fun bt929 => ((impl_QuadsOf.f k bt929.1 bt929.2).bind fun t932 => ((spec_DrawIsInside.f k l0).bind fun bt935 => (if bt925.1 = bt927.1 then (if bt925.2 = bt927.2 then ((impl_InnerOf.f k bt918.1 bt918.2.1 bt918.2.2.1 bt918.2.2.2.1 bt918.2.2.2.2.1 bt918.2.2.2.2.2).bind fun t942 => ((spec_InnerOf.f k bt918.1 bt918.2.1 bt918.2.2.1 bt918.2.2.2.1 bt918.2.2.2.2.1 bt918.2.2.2.2.2).bind fun t943 => (if t942 = t943 then ((spec_QuadsOf.f k bt929.1 bt929.2).bind fun t944 => ((laws_sameLists.f k t932 t944).bind fun t947 => (if t947 = true then ((impl_CountQuads.f k bt929.1 bt929.2).bind fun t948 => ((spec_CountQuads.f k bt929.1 bt929.2).bind fun t949 => (if t948 = t949 then ((impl_IsInside.f k bt935.1 bt935.2.1 bt935.2.2.1 bt935.2.2.2.1 bt935.2.2.2.2.1 bt935.2.2.2.2.2).bind fun t950 => ((spec_IsInside.f k bt935.1 bt935.2.1 bt935.2.2.1 bt935.2.2.2.1 bt935.2.2.2.2.1 bt935.2.2.2.2.2).bind fun t951 => (if (t950 != t951) = true then (laws_FnQuads.j0 k bt918.2.2.1 bt918.2.2.2.1 bt918.2.2.2.2.1 bt918.2.2.2.2.2 bt925.1 bt925.2 t932 bt935.2.2.1 bt935.2.2.2.1 bt935.2.2.2.2.1 bt935.2.2.2.2.2 true bt918.1 bt918.2.1 bt929.1 bt929.2 bt935.1 bt935.2.1) else ((impl_CountInside.f k bt918.1 bt918.2.1 bt918.2.2.1 bt918.2.2.2.1 bt918.2.2.2.2.1).bind fun t952 => ((spec_CountInside.f k bt918.1 bt918.2.1 bt918.2.2.1 bt918.2.2.2.1 bt918.2.2.2.2.1).bind fun t953 => (if t952 = t953 then ((impl_EmptyTriangles.f k bt929.1 bt929.2).bind fun t954 => ((spec_EmptyTriangles.f k bt929.1 bt929.2).bind fun t955 => (laws_FnQuads.j0 k bt918.2.2.1 bt918.2.2.2.1 bt918.2.2.2.2.1 bt918.2.2.2.2.2 bt925.1 bt925.2 t932 bt935.2.2.1 bt935.2.2.2.1 bt935.2.2.2.2.1 bt935.2.2.2.2.2 (t954 != t955) bt918.1 bt918.2.1 bt929.1 bt929.2 bt935.1 bt935.2.1))) else (laws_FnQuads.j0 k bt918.2.2.1 bt918.2.2.2.1 bt918.2.2.2.2.1 bt918.2.2.2.2.2 bt925.1 bt925.2 t932 bt935.2.2.1 bt935.2.2.2.1 bt935.2.2.2.2.1 bt935.2.2.2.2.2 true bt918.1 bt918.2.1 bt929.1 bt929.2 bt935.1 bt935.2.1))))))) else (laws_FnQuads.j0 k bt918.2.2.1 bt918.2.2.2.1 bt918.2.2.2.2.1 bt918.2.2.2.2.2 bt925.1 bt925.2 t932 bt935.2.2.1 bt935.2.2.2.1 bt935.2.2.2.2.1 bt935.2.2.2.2.2 true bt918.1 bt918.2.1 bt929.1 bt929.2 bt935.1 bt935.2.1)))) else (laws_FnQuads.j0 k bt918.2.2.1 bt918.2.2.2.1 bt918.2.2.2.2.1 bt918.2.2.2.2.2 bt925.1 bt925.2 t932 bt935.2.2.1 bt935.2.2.2.1 bt935.2.2.2.2.1 bt935.2.2.2.2.2 true bt918.1 bt918.2.1 bt929.1 bt929.2 bt935.1 bt935.2.1)))) else (laws_FnQuads.j0 k bt918.2.2.1 bt918.2.2.2.1 bt918.2.2.2.2.1 bt918.2.2.2.2.2 bt925.1 bt925.2 t932 bt935.2.2.1 bt935.2.2.2.1 bt935.2.2.2.2.1 bt935.2.2.2.2.2 true bt918.1 bt918.2.1 bt929.1 bt929.2 bt935.1 bt935.2.1)))) else (laws_FnQuads.j0 k bt918.2.2.1 bt918.2.2.2.1 bt918.2.2.2.2.1 bt918.2.2.2.2.2 bt925.1 bt925.2 t932 bt935.2.2.1 bt935.2.2.2.1 bt935.2.2.2.2.1 bt935.2.2.2.2.2 true bt918.1 bt918.2.1 bt929.1 bt929.2 bt935.1 bt935.2.1)) else (laws_FnQuads.j0 k bt918.2.2.1 bt918.2.2.2.1 bt918.2.2.2.2.1 bt918.2.2.2.2.2 bt925.1 bt925.2 t932 bt935.2.2.1 bt935.2.2.2.1 bt935.2.2.2.2.1 bt935.2.2.2.2.2 true bt918.1 bt918.2.1 bt929.1 bt929.2 bt935.1 bt935.2.1)))))))))
def laws_FnQuads.T9 : Bool × List (List Nat × List Nat) := (true, [([], []), ([], []), ([0, 1], [0, 1]), ([2], [2]), ([3], [3]), ([3], [3]), ([4, 5, 3], [3, 4, 5]), ([3, 6], [3, 6]), ([7, 3], [7]), ([8], [8]), ([8], [8]), ([8], [8]), ([8], [8]), ([8], [8]), ([9, 10, 11, 12, 13, 8, 8], [8, 9, 10, 11, 12, 13]), ([8], [8]), ([8], [8]), ([8], [8]), ([8], [8]), ([8], [8]), ([15, 16, 17, 18, 19, 14, 8], [8, 15, 16, 17, 18, 19]), ([14, 20, 8], [8, 14, 20]), ([8, 21], [8, 21]), ([22, 20], [22]), ([23], [23]), ([23], [23]), ([25, 23, 23], [23, 25]), ([24, 26, 26, 23], [23, 24, 26]), ([27, 23], [23, 27]), ([23, 28], [23, 28]), ([29, 27], [29]), ([30], [30]), ([31, 30, 30], [30, 31]), ([30], [30]), ([33, 32, 30], [30, 33]), ([32, 34, 30], [30, 32, 34]), ([30, 35], [30, 35]), ([36, 34], [36]), ([37], [37]), ([37], [37]), ([37], [37]), ([37], [37]), ([37], [37]), ([38, 39, 40, 41, 42, 37, 37], [37, 38, 39, 40, 41, 42]), ([37], [37]), ([37], [37]), ([37], [37]), ([37], [37]), ([37], [37]), ([44, 45, 46, 47, 48, 43, 37], [37, 44, 45, 46, 47, 48]), ([43, 49, 37], [37, 43, 49]), ([37, 50], [37, 50]), ([51, 49], [51]), ([52], [52]), ([52], [52]), ([52], [52]), ([52], [52]), ([53, 54, 55, 56, 52, 52], [52, 53, 54, 55, 56]), ([52], [52]), ([52], [52]), ([52], [52]), ([52], [52]), ([58, 59, 60, 61, 57, 52], [52, 58, 59, 60, 61]), ([57, 62, 52], [52, 57, 62]), ([52, 63], [52, 63]), ([64, 62], [64]), ([65], [65]), ([66, 65, 65], [65, 66]), ([65], [65]), ([68, 67, 65], [65, 68]), ([67, 69, 65], [65, 67, 69]), ([65, 70], [65, 70])])
def laws_FnQuads.B9 : List Nat := [0, 0, 3, 7, 15, 15, 63, 127, 255, 511, 511, 511, 511, 511, 16383, 511, 511, 511, 511, 511, 1048575, 2097151, 4194303, 8388607, 16777215, 16777215, 50331647, 134217727, 268435455, 536870911, 1073741823, 2147483647, 4294967295, 2147483647, 17179869183, 34359738367, 68719476735, 137438953471, 274877906943, 274877906943, 274877906943, 274877906943, 274877906943, 8796093022207, 274877906943, 274877906943, 274877906943, 274877906943, 274877906943, 562949953421311, 1125899906842623, 2251799813685247, 4503599627370495, 9007199254740991, 9007199254740991, 9007199254740991, 9007199254740991, 144115188075855871, 9007199254740991, 9007199254740991, 9007199254740991, 9007199254740991, 4611686018427387903, 9223372036854775807, 18446744073709551615, 36893488147419103231, 73786976294838206463, 147573952589676412927, 73786976294838206463, 590295810358705651711, 1180591620717411303423, 2361183241434822606847]
theorem laws_FnQuads.tab9 : rtab .any (opsOf Try.f4 9) = laws_FnQuads.T9 := by kernel_rfl
theorem laws_FnQuads.bits9 : waitsOk laws_FnQuads.T9.2 laws_FnQuads.B9 = true := by kernel_rfl
def laws_FnQuads.T22 : Bool × List (List Nat × List Nat) := (true, [([], []), ([], []), ([], []), ([1, 2], [1, 2]), ([3], [3]), ([4], [4]), ([5], [5]), ([], []), ([], []), ([7, 8], [7, 8]), ([9], [9]), ([10], [10]), ([11], [11]), ([], []), ([], []), ([13, 14], [13, 14]), ([15], [15]), ([16], [16]), ([17], [17]), ([], []), ([], []), ([19, 20], [19, 20]), ([21], [21]), ([22], [22]), ([23], [23]), ([0, 6, 12, 18, 24], [0, 6, 12, 18, 24]), ([25], [25])])
def laws_FnQuads.B22 : List Nat := [0, 0, 0, 6, 14, 30, 62, 0, 0, 384, 896, 1920, 3968, 0, 0, 24576, 57344, 122880, 253952, 0, 0, 1572864, 3670016, 7864320, 16252928, 33554431, 67108863]
theorem laws_FnQuads.tab22 : rtab .any (opsOf Try.f4 22) = laws_FnQuads.T22 := by kernel_rfl
theorem laws_FnQuads.bits22 : waitsOk laws_FnQuads.T22.2 laws_FnQuads.B22 = true := by kernel_rfl
theorem laws_FnQuads.j0_no (k : Nat) (y0 : Int) (y1 : Int) (y2 : Int) (y3 : Int) (y4 : Int) (y5 : Int) (y6 : List (List Int)) (y7 : Int) (y8 : Int) (y9 : Int) (y10 : Int) (y12 : Int) (y13 : ByteArray) (y14 : Int) (y15 : ByteArray) (y16 : Int) (y17 : ByteArray) (r : Bool) (h_ : r = true) : ¬ laws_FnQuads.j0 k y0 y1 y2 y3 y4 y5 y6 y7 y8 y9 y10 true y12 y13 y14 y15 y16 y17 = some r := by
 subst h_
 cases k <;> simp [laws_FnQuads.j0]
theorem laws_FnQuads.j3_no (k : Nat) (y0 : List (List Int)) (y1 : Int) (y2 : Int) (y3 : Int) (y4 : Int) (y6 : Int) (y7 : ByteArray) (y8 : Int) (y9 : ByteArray) (r : Bool) (h_ : r = true) : ¬ laws_FnQuads.j3 k y0 y1 y2 y3 y4 true y6 y7 y8 y9 = some r := by
 subst h_
 cases k <;> simp [laws_FnQuads.j3]
theorem laws_FnQuads.j1_no (k : Nat) (y0 : Int) (y1 : Int) (y2 : Int) (y3 : Int) (y4 : Int) (y5 : Int) (y6 : List (List Int)) (y7 : Int) (y8 : Int) (y9 : Int) (y10 : Int) (y12 : Int) (y13 : ByteArray) (y14 : Int) (y15 : ByteArray) (y16 : Int) (y17 : ByteArray) (r : Bool) (h_ : r = true) : ¬ laws_FnQuads.j1 k y0 y1 y2 y3 y4 y5 y6 y7 y8 y9 y10 true y12 y13 y14 y15 y16 y17 = some r := by
 subst h_
 cases k <;> simp [laws_FnQuads.j1]
set_option maxHeartbeats 8000000 in
set_option maxRecDepth 100000 in
theorem laws_FnQuads.calls (k : Nat) (A0 : Option Addr) (c0 : Nat) (l0 : List Int) (r : Bool) (w : World) (hr0 : Kd.C (Kd.int .u8) w A0 l0.length l0) (hc0 : l0.length ≤ c0) (h : laws_FnQuads.f k l0 = some r) (hr_ : r = true) :
  Calls Try.prog 4 #[.slice A0 l0.length c0] w fun e w' => e = .returned (.bool r) ∧ Below w.heap.size w w' := by
 have hu25 := Try.underlying25
 have HR0 := Aside0.mk hr0
 have HC0 := Aside0.mk hc0
 clear hr0 hc0
 have HB := Aside0.mk (Below.refl w.heap.size w)
 have H : ((laws_big.f l0).bind fun t917 => (if t917 = true then (some true) else ((spec_DrawSplitOf.f k l0).bind fun bt918 => ((impl_SplitOf.f k bt918.1 bt918.2.1 bt918.2.2.1 bt918.2.2.2.1 bt918.2.2.2.2.1 bt918.2.2.2.2.2).bind fun bt925 => ((spec_SplitOf.f k bt918.1 bt918.2.1 bt918.2.2.1 bt918.2.2.2.1 bt918.2.2.2.2.1 bt918.2.2.2.2.2).bind fun bt927 => ((spec_DrawQuadsOf.f k l0).bind fun bt929 => ((impl_QuadsOf.f k bt929.1 bt929.2).bind fun t932 => ((spec_DrawIsInside.f k l0).bind fun bt935 => (if bt925.1 = bt927.1 then (if bt925.2 = bt927.2 then ((impl_InnerOf.f k bt918.1 bt918.2.1 bt918.2.2.1 bt918.2.2.2.1 bt918.2.2.2.2.1 bt918.2.2.2.2.2).bind fun t942 => ((spec_InnerOf.f k bt918.1 bt918.2.1 bt918.2.2.1 bt918.2.2.2.1 bt918.2.2.2.2.1 bt918.2.2.2.2.2).bind fun t943 => (if t942 = t943 then ((spec_QuadsOf.f k bt929.1 bt929.2).bind fun t944 => ((laws_sameLists.f k t932 t944).bind fun t947 => (if t947 = true then ((impl_CountQuads.f k bt929.1 bt929.2).bind fun t948 => ((spec_CountQuads.f k bt929.1 bt929.2).bind fun t949 => (if t948 = t949 then ((impl_IsInside.f k bt935.1 bt935.2.1 bt935.2.2.1 bt935.2.2.2.1 bt935.2.2.2.2.1 bt935.2.2.2.2.2).bind fun t950 => ((spec_IsInside.f k bt935.1 bt935.2.1 bt935.2.2.1 bt935.2.2.2.1 bt935.2.2.2.2.1 bt935.2.2.2.2.2).bind fun t951 => (if (t950 != t951) = true then (laws_FnQuads.j0 k bt918.2.2.1 bt918.2.2.2.1 bt918.2.2.2.2.1 bt918.2.2.2.2.2 bt925.1 bt925.2 t932 bt935.2.2.1 bt935.2.2.2.1 bt935.2.2.2.2.1 bt935.2.2.2.2.2 true bt918.1 bt918.2.1 bt929.1 bt929.2 bt935.1 bt935.2.1) else ((impl_CountInside.f k bt918.1 bt918.2.1 bt918.2.2.1 bt918.2.2.2.1 bt918.2.2.2.2.1).bind fun t952 => ((spec_CountInside.f k bt918.1 bt918.2.1 bt918.2.2.1 bt918.2.2.2.1 bt918.2.2.2.2.1).bind fun t953 => (if t952 = t953 then ((impl_EmptyTriangles.f k bt929.1 bt929.2).bind fun t954 => ((spec_EmptyTriangles.f k bt929.1 bt929.2).bind fun t955 => (laws_FnQuads.j0 k bt918.2.2.1 bt918.2.2.2.1 bt918.2.2.2.2.1 bt918.2.2.2.2.2 bt925.1 bt925.2 t932 bt935.2.2.1 bt935.2.2.2.1 bt935.2.2.2.2.1 bt935.2.2.2.2.2 (t954 != t955) bt918.1 bt918.2.1 bt929.1 bt929.2 bt935.1 bt935.2.1))) else (laws_FnQuads.j0 k bt918.2.2.1 bt918.2.2.2.1 bt918.2.2.2.2.1 bt918.2.2.2.2.2 bt925.1 bt925.2 t932 bt935.2.2.1 bt935.2.2.2.1 bt935.2.2.2.2.1 bt935.2.2.2.2.2 true bt918.1 bt918.2.1 bt929.1 bt929.2 bt935.1 bt935.2.1))))))) else (laws_FnQuads.j0 k bt918.2.2.1 bt918.2.2.2.1 bt918.2.2.2.2.1 bt918.2.2.2.2.2 bt925.1 bt925.2 t932 bt935.2.2.1 bt935.2.2.2.1 bt935.2.2.2.2.1 bt935.2.2.2.2.2 true bt918.1 bt918.2.1 bt929.1 bt929.2 bt935.1 bt935.2.1)))) else (laws_FnQuads.j0 k bt918.2.2.1 bt918.2.2.2.1 bt918.2.2.2.2.1 bt918.2.2.2.2.2 bt925.1 bt925.2 t932 bt935.2.2.1 bt935.2.2.2.1 bt935.2.2.2.2.1 bt935.2.2.2.2.2 true bt918.1 bt918.2.1 bt929.1 bt929.2 bt935.1 bt935.2.1)))) else (laws_FnQuads.j0 k bt918.2.2.1 bt918.2.2.2.1 bt918.2.2.2.2.1 bt918.2.2.2.2.2 bt925.1 bt925.2 t932 bt935.2.2.1 bt935.2.2.2.1 bt935.2.2.2.2.1 bt935.2.2.2.2.2 true bt918.1 bt918.2.1 bt929.1 bt929.2 bt935.1 bt935.2.1)))) else (laws_FnQuads.j0 k bt918.2.2.1 bt918.2.2.2.1 bt918.2.2.2.2.1 bt918.2.2.2.2.2 bt925.1 bt925.2 t932 bt935.2.2.1 bt935.2.2.2.1 bt935.2.2.2.2.1 bt935.2.2.2.2.2 true bt918.1 bt918.2.1 bt929.1 bt929.2 bt935.1 bt935.2.1)) else (laws_FnQuads.j0 k bt918.2.2.1 bt918.2.2.2.1 bt918.2.2.2.2.1 bt918.2.2.2.2.2 bt925.1 bt925.2 t932 bt935.2.2.1 bt935.2.2.2.1 bt935.2.2.2.2.1 bt935.2.2.2.2.2 true bt918.1 bt918.2.1 bt929.1 bt929.2 bt935.1 bt935.2.1)))))))))) = some r := h
 clear h
 obtain ⟨t917, A2, H⟩ := zO H
 by_cases c3 : t917 = true
 ·subst c3
  replace H := (if_pos rfl).symm.trans H
  obtain rfl := Option.some.inj H
  go_enter Try.func4, Try.ntmps4
  go_wp2_with (first | ((with_reducible refine gate_callee (f := 7) rfl ?_); refine zD (some 23) Try.func7 #[.slice A0 l0.length c0] ?_; (with_reducible refine (laws_big.calls _ _ l0 true _ ?side1 ?side2 A2.out).mono ?_); (case side1 => repeat (first | exact HR0.out | (with_reducible refine Kd.C_alloc ?_ _) | (with_reducible refine Kd.C_drewN ?_ _) | (with_reducible refine Kd.C_drew ?_))); (case side2 => exact HC0.out); rintro e w' ⟨rfl, ⟨nd, rfl⟩⟩; refine ⟨_, rfl, ?_⟩))
  go_ret
  exact ⟨zE, zB⟩
 replace c3 := Bool.eq_false_iff.mpr c3
 subst c3
 replace H := (if_neg zFf).symm.trans H
 obtain ⟨⟨t918, t919, t920, t921, t922, t923⟩, A4, H⟩ := zO H
 dsimp only at H
 obtain ⟨⟨t925, t926⟩, A5, H⟩ := zO H
 dsimp only at H
 obtain ⟨⟨t927, t928⟩, A6, H⟩ := zO H
 dsimp only at H
 obtain ⟨⟨t929, t930⟩, A7, H⟩ := zO H
 dsimp only at H
 obtain ⟨t932, A8, H⟩ := zO H
 obtain ⟨⟨t935, t936, t937, t938, t939, t940⟩, A9, H⟩ := zO H
 dsimp only at H
 have HC10 := Aside0.mk H
 clear H
 go_enter Try.func4, Try.ntmps4
 go_upto_region 9 with (first | ((with_reducible refine gate_callee (f := 7) rfl ?_); refine zD (some 23) Try.func7 #[.slice A0 l0.length c0] ?_; (with_reducible refine (laws_big.calls _ _ l0 false _ ?side1 ?side2 A2.out).mono ?_); (case side1 => repeat (first | exact HR0.out | (with_reducible refine Kd.C_alloc ?_ _) | (with_reducible refine Kd.C_drewN ?_ _) | (with_reducible refine Kd.C_drew ?_))); (case side2 => exact HC0.out); rintro e w' ⟨rfl, ⟨nd, rfl⟩⟩; refine ⟨_, rfl, ?_⟩) | ((with_reducible refine gate_callee (f := 29) rfl ?_); refine zD (some 26) Try.func29 #[.slice A0 l0.length c0] ?_; (with_reducible refine (spec_DrawSplitOf.calls k _ _ l0 t918 t919 t920 t921 t922 t923 _ ?side1 ?side2 A4.out).mono ?_); (case side1 => repeat (first | exact HR0.out | (with_reducible refine Kd.C_alloc ?_ _) | (with_reducible refine Kd.C_drewN ?_ _) | (with_reducible refine Kd.C_drew ?_))); (case side2 => exact HC0.out); rintro e w11 ⟨rfl, hb⟩; refine ⟨_, rfl, ?_⟩; replace HB := zX hb; (try clear hb)) | ((with_reducible refine gate_dst (N := 3) rfl ?_); (try (refine gate_guard (by rfl) ?_; dsimp only)); refine zBx (N := 3) #[.int .i64 0, .string (⟨#[]⟩ : ByteArray)] 25 ?_; intro gb924 hg w12 hbox hb; have BK924 := Aside0.mk (hbox); have GW924 := zS hg; have GE924 := zS hg; replace HB := zX hb; clear hb hbox hg; obtain ⟨hcz13_0, hcz13_1, hfz13_0, hfz13_1⟩ := zq2 BK924.out) | ((with_reducible refine gate_callee (f := 30) rfl ?_); refine zD (some 38) Try.func30 #[.agg #[.int .i64 t918, .string t919], .int .i64 t920, .int .i64 t921, .int .i64 t922, .int .i64 t923] ?_; (with_reducible refine (impl_SplitOf.calls k t918 t919 t920 t921 t922 t923 t925 t926 _ A5.out).mono ?_); rintro e w14 ⟨rfl, hb⟩; refine ⟨_, rfl, ?_⟩; replace BK924 := Aside0.mk (blk_below (g := gb924) (o := .cells #[.int .i64 t918, .string t919] 25 (0, 0)) (zk0 BK924.out) hb); replace HB := zX1 GE924.out hb; (try clear hb); obtain ⟨hcz15_0, hcz15_1, hfz15_0, hfz15_1⟩ := zq2 BK924.out) | ((with_reducible refine gate_callee (f := 31) rfl ?_); refine zD (some 47) Try.func31 #[.agg #[.int .i64 t918, .string t919], .int .i64 t920, .int .i64 t921, .int .i64 t922, .int .i64 t923] ?_; (with_reducible refine (spec_SplitOf.calls k t918 t919 t920 t921 t922 t923 t927 t928 _ A6.out).mono ?_); rintro e w16 ⟨rfl, hb⟩; refine ⟨_, rfl, ?_⟩; replace BK924 := zV BK924.out hb; replace HB := zX1 GE924.out hb; (try clear hb)) | ((with_reducible refine gate_callee (f := 32) rfl ?_); refine zD (some 51) Try.func32 #[.slice A0 l0.length c0] ?_; (with_reducible refine (spec_DrawQuadsOf.calls k _ _ l0 t929 t930 _ ?side1 ?side2 A7.out).mono ?_); (case side1 => repeat (first | exact (Kd.C_below HR0.out HB.out) | (with_reducible refine Kd.C_alloc ?_ _) | (with_reducible refine Kd.C_drewN ?_ _) | (with_reducible refine Kd.C_drew ?_))); (case side2 => exact HC0.out); rintro e w17 ⟨rfl, hb⟩; refine ⟨_, rfl, ?_⟩; replace BK924 := zV BK924.out hb; replace HB := zX1 GE924.out hb; (try clear hb)) | ((with_reducible refine gate_dst (N := 12) rfl ?_); (try (refine gate_guard (by rfl) ?_; dsimp only)); refine zBx (N := 12) #[.int .i64 0, .string (⟨#[]⟩ : ByteArray)] 25 ?_; intro gb931 hg w18 hbox hb; have BK931 := Aside0.mk (hbox); have GW931 := zSg hg (zG GE924.out); have GE931 := zSg hg (zG GE924.out); have NB924_931 := zL hg BK924.out; have NB931_924 := zLg hg BK924.out; replace BK924 := zV BK924.out hb; replace HB := zX1 GE924.out hb; clear hb hbox hg; have hnb19 := NB931_924.out; have hnc19 := NB924_931.out; obtain ⟨hcz20_0, hcz20_1, hfz20_0, hfz20_1⟩ := zq2 BK931.out) | ((with_reducible refine gate_callee (f := 33) rfl ?_); refine zD (some 53) Try.func33 #[.agg #[.int .i64 t929, .string t930]] ?_; (with_reducible refine (impl_QuadsOf.calls k t929 t930 t932 _ A8.out).mono ?_); rintro e w21 ⟨v933, rfl, ho0, hb⟩; refine ⟨_, rfl, ?_⟩; have HO934 := Aside0.mk (Kd.S_lower ho0 (below_size (zG2 GE924.out GE931.out))); replace BK924 := Aside0.mk (blk_below (g := gb924) (o := .cells #[.int .i64 t918, .string t919] 25 (0, 0)) (zk2 BK924.out NB924_931.out NB924_931.out) hb); replace BK931 := Aside0.mk (blk_below (g := gb931) (o := .cells #[.int .i64 t929, .string t930] 25 (0, 0)) (zk0 BK931.out) hb); replace HB := Aside0.mk (below_step (zG2 GE924.out GE931.out) hb); (try clear hb); (try clear ho0)) | ((with_reducible refine gate_callee (f := 34) rfl ?_); refine zD (some 56) Try.func34 #[.slice A0 l0.length c0] ?_; (with_reducible refine (spec_DrawIsInside.calls k _ _ l0 t935 t936 t937 t938 t939 t940 _ ?side1 ?side2 A9.out).mono ?_); (case side1 => repeat (first | exact (Kd.C_below HR0.out HB.out) | (with_reducible refine Kd.C_alloc ?_ _) | (with_reducible refine Kd.C_drewN ?_ _) | (with_reducible refine Kd.C_drew ?_))); (case side2 => exact HC0.out); rintro e w22 ⟨rfl, hb⟩; refine ⟨_, rfl, ?_⟩; replace HO934 := Aside0.mk (Kd.S_below (by (with_reducible repeat (first | apply Kd.S_alloc | apply Kd.S_drewN | apply Kd.S_drew)); exact HO934.out) hb); replace BK924 := zV BK924.out hb; replace BK931 := zV BK931.out hb; replace HB := Aside0.mk (below_step (zG2 GE924.out GE931.out) hb); (try clear hb)) | ((with_reducible refine gate_dst (N := 14) rfl ?_); (try (refine gate_guard (by rfl) ?_; dsimp only)); refine zBx (N := 14) #[.int .i64 0, .string (⟨#[]⟩ : ByteArray)] 25 ?_; intro gb941 hg w23 hbox hb; replace HO934 := Aside0.mk (Kd.S_below (by (with_reducible repeat (first | apply Kd.S_alloc | apply Kd.S_drewN | apply Kd.S_drew)); exact HO934.out) hb); have BK941 := Aside0.mk (hbox); have GW941 := zSg hg (zG2 GE924.out GE931.out); have GE941 := zSg hg (zG2 GE924.out GE931.out); have NB924_941 := zL hg BK924.out; have NB941_924 := zLg hg BK924.out; replace BK924 := zV BK924.out hb; have NB931_941 := zL hg BK931.out; have NB941_931 := zLg hg BK931.out; replace BK931 := zV BK931.out hb; replace HB := Aside0.mk (below_step (zG2 GE924.out GE931.out) hb); clear hb hbox hg; have hnb24 := NB941_924.out; have hnc24 := NB924_941.out; have hnb25 := NB941_931.out; have hnc25 := NB931_941.out; obtain ⟨hcz26_0, hcz26_1, hfz26_0, hfz26_1⟩ := zq2 BK941.out))
 (try simp only [Act.put, List.setIfInBounds_toArray, List.set_cons_zero, List.set_cons_succ])
 go_cut [133] (fun v133 wc => ∃ (kq : Nat) (x133_9 : Bool), v133 = .bool x133_9 ∧ Aside0 (laws_FnQuads.j0 kq t920 t921 t922 t923 t925 t926 t932 t937 t938 t939 t940 x133_9 t918 t919 t929 t930 t935 t936 = some r) ∧ Aside0 (kq ≤ k) ∧ Aside0 (Kd.S (Kd.slice 3 (Kd.int .i64)) 27 wc w.heap.size (fun _ => True) v933 t932) ∧ Aside0 (wc.heap[gb924]? = some (.cells #[.int .i64 t918, .string t919] 25 (0, 0))) ∧ Aside0 (wc.heap[gb931]? = some (.cells #[.int .i64 t929, .string t930] 25 (0, 0))) ∧ Aside0 (wc.heap[gb941]? = some (.cells #[.int .i64 t935, .string t936] 25 (0, 0))) ∧ Aside0 (Below w.heap.size w wc))
 case first => as_aux_lemma =>
  have H := HC10.out
  clear HC10
  by_cases c27 : t925 = t927
  ·rw [if_pos c27] at H
   have c27b0 : (t925 == t927) = true := beq_iff_eq.mpr c27
   have c27b1 : (t925 != t927) = false := bne_eq_false_iff_eq.mpr c27
   clear c27
   (first | rw [c27b0] | (simp only [i64_w, i32_w]; rw [c27b0]) | skip)
   by_cases c28 : t926 = t928
   ·rw [if_pos c28] at H
    have c28b0 : (t926 == t928) = true := beq_iff_eq.mpr c28
    have c28b1 : (t926 != t928) = false := bne_eq_false_iff_eq.mpr c28
    clear c28
    obtain ⟨t942, A29, H⟩ := zO H
    obtain ⟨t943, A30, H⟩ := zO H
    by_cases c31 : t942 = t943
    ·rw [if_pos c31] at H
     have c31b0 : (t942 == t943) = true := beq_iff_eq.mpr c31
     have c31b1 : (t942 != t943) = false := bne_eq_false_iff_eq.mpr c31
     clear c31
     obtain ⟨t944, A32, H⟩ := zO H
     obtain ⟨t947, A33, H⟩ := zO H
     by_cases c34 : t947 = true
     ·subst c34
      replace H := (if_pos rfl).symm.trans H
      obtain ⟨t948, A35, H⟩ := zO H
      obtain ⟨t949, A36, H⟩ := zO H
      by_cases c37 : t948 = t949
      ·rw [if_pos c37] at H
       have c37b0 : (t948 == t949) = true := beq_iff_eq.mpr c37
       have c37b1 : (t948 != t949) = false := bne_eq_false_iff_eq.mpr c37
       clear c37
       obtain ⟨t950, A38, H⟩ := zO H
       obtain ⟨t951, A39, H⟩ := zO H
       by_cases c40 : (t950 != t951) = true
       ·rw [if_pos c40] at H
        exact absurd H (laws_FnQuads.j0_no _ _ _ _ _ _ _ _ _ _ _ _ _ _ _ _ _ _ _ hr_)
       rw [if_neg c40] at H
       have c40b0 : (t950 != t951) = false := by simpa using c40
       (try (have c40b1 : decide (t950 = t951) = true := by simpa using c40))
       (try (have c40b2 : (t950 == t951) = true := by simpa using c40))
       clear c40
       obtain ⟨t952, A52, H⟩ := zO H
       obtain ⟨t953, A53, H⟩ := zO H
       by_cases c54 : t952 = t953
       ·rw [if_pos c54] at H
        have c54b0 : (t952 == t953) = true := beq_iff_eq.mpr c54
        have c54b1 : (t952 != t953) = false := bne_eq_false_iff_eq.mpr c54
        clear c54
        obtain ⟨t954, A55, H⟩ := zO H
        obtain ⟨t955, A56, H⟩ := zO H
        have H' := Aside0.mk H; clear H
        try go_wp2
        have n0_ : Aside0 (Kd.S (Kd.slice 3 (Kd.int .i64)) 27 ((w23.setCell ⟨gb941, 0, none⟩ (.int .i64 t935)).setCell ⟨gb941, 1, none⟩ (.string t936)) w.heap.size (fun _ => True) v933 t932) := ⟨by (with_reducible repeat (first | apply Kd.S_alloc | apply Kd.S_drewN | apply Kd.S_drew)); exact Kd.S_mono (Kd.S_far (p := ⟨gb941, 1, none⟩) (Kd.S_far (p := ⟨gb941, 0, none⟩) (Kd.S_types HO934.out BK941.out (by decide)) (fun _ hk => hk.2) (.int .i64 t935)) (fun _ hk => hk.2) (.string t936)) (fun _ hk => trivial)⟩
        have n1_ : Aside0 (((w23.setCell ⟨gb941, 0, none⟩ (.int .i64 t935)).setCell ⟨gb941, 1, none⟩ (.string t936)).heap[gb924]? = some (.cells #[.int .i64 t918, .string t919] 25 (0, 0))) := ⟨zk2 BK924.out NB924_941.out NB924_941.out⟩
        have n2_ : Aside0 (((w23.setCell ⟨gb941, 0, none⟩ (.int .i64 t935)).setCell ⟨gb941, 1, none⟩ (.string t936)).heap[gb931]? = some (.cells #[.int .i64 t929, .string t930] 25 (0, 0))) := ⟨zk2 BK931.out NB931_941.out NB931_941.out⟩
        have n3_ : Aside0 (((w23.setCell ⟨gb941, 0, none⟩ (.int .i64 t935)).setCell ⟨gb941, 1, none⟩ (.string t936)).heap[gb941]? = some (.cells #[.int .i64 t935, .string t936] 25 (0, 0))) := ⟨zk0 BK941.out⟩
        have n4_ : Aside0 (Below w.heap.size w ((w23.setCell ⟨gb941, 0, none⟩ (.int .i64 t935)).setCell ⟨gb941, 1, none⟩ (.string t936))) := ⟨zG3 GE924.out GE931.out GE941.out⟩
        (try clear HO934)
        (try clear BK924)
        (try clear BK931)
        (try clear BK941)
        (try clear HB)
        generalize ((w23.setCell ⟨gb941, 0, none⟩ (.int .i64 t935)).setCell ⟨gb941, 1, none⟩ (.string t936)) = w57 at n0_ n1_ n2_ n3_ n4_ ⊢
        have HO934 := n0_
        have BK924 := n1_
        have BK931 := n2_
        have BK941 := n3_
        have HB := n4_
        clear n0_ n1_ n2_ n3_ n4_
        replace HO934 := Aside0.mk (Kd.S_drew HO934.out)
        replace BK924 := Aside0.mk (blk_drew BK924.out)
        replace BK931 := Aside0.mk (blk_drew BK931.out)
        replace BK941 := Aside0.mk (blk_drew BK941.out)
        replace HB := Aside0.mk (below_drew1 HB.out)
        refine start_ (n := 72) (S := fun w' => w'.cell? ⟨gb924, 0, none⟩ = some (.int .i64 t918) ∧ w'.cell? ⟨gb924, 1, none⟩ = some (.string t919) ∧ w'.cell? ⟨gb931, 0, none⟩ = some (.int .i64 t929) ∧ w'.cell? ⟨gb931, 1, none⟩ = some (.string t930) ∧ w'.cell? ⟨gb941, 0, none⟩ = some (.int .i64 t935) ∧ w'.cell? ⟨gb941, 1, none⟩ = some (.string t936)) (ds := []) #[false, false, false, false, false, false, false, false, false, false, false, false, false, false, false, false, false, false, false, false, false, false, false, false, false, false, false, false, false, false, false, false, false, false, false, false, false, false, false, false, false, false, false, false, false, false, false, false, false, false, false, false, false, false, false, false, false, false, false, false, false, false, false, false, false, false, false, false, false, false, false, false] (by kernel_rfl) rfl rfl ⟨(blk_cell BK924.out 0).trans rfl, (blk_cell BK924.out 1).trans rfl, (blk_cell BK931.out 0).trans rfl, (blk_cell BK931.out 1).trans rfl, (blk_cell BK941.out 0).trans rfl, (blk_cell BK941.out 1).trans rfl⟩ (fun hHeld => ?_); refine with_tabW laws_FnQuads.tab9 laws_FnQuads.bits9 (fun HT_ HW_ => ?_)
        generalize w57.drew = w58 at HO934 BK924 BK931 BK941 HB hHeld ⊢
        refine zP 0 (some 62) rfl rfl ?_
        refine zP 1 (some 63) rfl rfl ?_
        refine zP 2 (some 64) rfl rfl ?_
        refine zP 3 (some 65) rfl rfl ?_
        refine zP 4 (some 66) rfl rfl ?_
        refine zP 5 (some 67) rfl rfl ?_
        refine zP 6 (some 68) rfl rfl ?_
        refine zP 7 (some 69) rfl rfl ?_
        refine zP 8 (some 70) rfl rfl ?_
        refine zP 10 (some 72) rfl rfl ?_
        refine zP 11 (some 73) rfl rfl ?_
        refine zP 12 (some 74) rfl rfl ?_
        refine zP 13 (some 75) rfl rfl ?_
        refine zP 16 (some 78) rfl rfl ?_
        refine zP 17 (some 79) rfl rfl ?_
        refine zP 18 (some 80) rfl rfl ?_
        refine zP 19 (some 81) rfl rfl ?_
        refine zY6 9 (some 71) rfl rfl hHeld ?_
        refine zY6 15 (some 77) rfl rfl hHeld ?_
        refine zU 14 (some 76) rfl rfl (fun K hK => ?_)
        refine goes_ Try.func35 (by kernel_rfl) rfl #[.agg #[.int .i64 t918, .string t919], .int .i64 t920, .int .i64 t921, .int .i64 t922, .int .i64 t923] (by rfl) rfl rfl zM ?_
        with_reducible refine (impl_InnerOf.calls k t918 t919 t920 t921 t922 t923 t942 _ A29.out).mono ?_
        rintro e w59 ⟨rfl, hb⟩
        refine ⟨_, rfl, ?_⟩
        replace HO934 := Aside0.mk (Kd.S_below (by (with_reducible repeat (first | apply Kd.S_alloc | apply Kd.S_drewN | apply Kd.S_drew)); exact HO934.out) hb)
        replace BK924 := zV BK924.out hb
        replace BK931 := zV BK931.out hb
        replace BK941 := zV BK941.out hb
        replace HB := Aside0.mk (below_step (zG3 GE924.out GE931.out GE941.out) hb)
        (try clear hb)
        refine hK.out _ _ (zh BK924.out (zh BK931.out (zh2 BK941.out))) (fun hHeld => ?_)
        clear hK K
        refine zN ?_
        refine zU 20 (some 82) rfl rfl (fun K hK => ?_)
        refine goes_ Try.func36 (by kernel_rfl) rfl #[.agg #[.int .i64 t918, .string t919], .int .i64 t920, .int .i64 t921, .int .i64 t922, .int .i64 t923] (by rfl) rfl rfl zM ?_
        with_reducible refine (spec_InnerOf.calls k t918 t919 t920 t921 t922 t923 t943 _ A30.out).mono ?_
        rintro e w60 ⟨rfl, hb⟩
        refine ⟨_, rfl, ?_⟩
        replace HO934 := Aside0.mk (Kd.S_below (by (with_reducible repeat (first | apply Kd.S_alloc | apply Kd.S_drewN | apply Kd.S_drew)); exact HO934.out) hb)
        replace BK924 := zV BK924.out hb
        replace BK931 := zV BK931.out hb
        replace BK941 := zV BK941.out hb
        replace HB := Aside0.mk (below_step (zG3 GE924.out GE931.out GE941.out) hb)
        (try clear hb)
        refine hK.out _ _ (zh BK924.out (zh BK931.out (zh2 BK941.out))) (fun hHeld => ?_)
        clear hK K
        refine zN ?_
        refine zP 21 (some 83) rfl rfl ?_
        refine zP 22 (some 84) rfl rfl ?_
        refine zP 23 (some 85) rfl rfl ?_
        refine zP 24 (some 86) rfl rfl ?_
        refine zY6 25 (some 87) rfl rfl hHeld ?_
        refine zU 26 (some 88) rfl rfl (fun K hK => ?_)
        refine goes_ Try.func38 (by kernel_rfl) rfl #[.agg #[.int .i64 t929, .string t930]] (by rfl) rfl rfl zM ?_
        with_reducible refine (spec_QuadsOf.calls k t929 t930 t944 _ A32.out).mono ?_
        rintro e w61 ⟨v945, rfl, ho0, hb⟩
        refine ⟨_, rfl, ?_⟩
        have HO946 := Aside0.mk (Kd.S_lower (Kd.S_new' ho0 (Kd.S_lt (by (with_reducible repeat (first | apply Kd.S_alloc | apply Kd.S_drewN | apply Kd.S_drew)); exact HO934.out))) (below_size (zG3 GE924.out GE931.out GE941.out)))
        replace HO934 := Aside0.mk (Kd.S_elder' (by (with_reducible repeat (first | apply Kd.S_alloc | apply Kd.S_drewN | apply Kd.S_drew)); exact HO934.out) (Kd.S_base ho0) hb)
        replace BK924 := zV BK924.out hb
        replace BK931 := zV BK931.out hb
        replace BK941 := zV BK941.out hb
        replace HB := Aside0.mk (below_step (zG3 GE924.out GE931.out GE941.out) hb)
        (try clear hb)
        (try clear ho0)
        obtain ⟨Ao62, co62, eo62⟩ := Kd.S_slice HO934.out
        (first | subst eo62 | (injection eo62 with f1_ f2_ f3_; have f4_ := f1_.symm; have f5_ := f3_.symm; clear f1_ f2_ f3_; subst f4_; subst f5_))
        obtain ⟨Ao63, co63, eo63⟩ := Kd.S_slice HO946.out
        (first | subst eo63 | (injection eo63 with f1_ f2_ f3_; have f4_ := f1_.symm; have f5_ := f3_.symm; clear f1_ f2_ f3_; subst f4_; subst f5_))
        refine hK.out _ _ (zh BK924.out (zh BK931.out (zh2 BK941.out))) (fun hHeld => ?_)
        clear hK K
        refine zN ?_
        refine zU 27 (some 89) rfl rfl (fun K hK => ?_)
        refine goes_ Try.func37 (by kernel_rfl) rfl #[.slice Ao62 t932.length co62, .slice Ao63 t944.length co63] (by rfl) rfl rfl zM ?_
        with_reducible refine (laws_sameLists.calls k _ _ t932 _ _ t944 true _ ?side1 ?side2 ?side3 ?side4 A33.out).mono ?_
        (case side1 => repeat (first | exact (Kd.S_reads' HO934.out).2.2 | (with_reducible refine Kd.C_alloc ?_ _) | (with_reducible refine Kd.C_drewN ?_ _) | (with_reducible refine Kd.C_drew ?_)))
        (case side2 => exact (Kd.S_reads' HO934.out).2.1)
        (case side3 => repeat (first | exact (Kd.S_reads' HO946.out).2.2 | (with_reducible refine Kd.C_alloc ?_ _) | (with_reducible refine Kd.C_drewN ?_ _) | (with_reducible refine Kd.C_drew ?_)))
        (case side4 => exact (Kd.S_reads' HO946.out).2.1)
        rintro e w' ⟨rfl, ⟨nd, rfl⟩⟩
        refine ⟨_, rfl, ?_⟩
        refine hK.out _ _ (zh BK924.out (zh BK931.out (zh2 BK941.out))) (fun hHeld => ?_)
        clear hK K
        refine zN ?_
        refine zP 28 (some 90) rfl rfl ?_
        refine zP 29 (some 91) rfl rfl ?_
        refine zP 30 (some 92) rfl rfl ?_
        refine zY6 31 (some 93) rfl rfl hHeld ?_
        refine zY6 33 (some 95) rfl rfl hHeld ?_
        refine zU 32 (some 94) rfl rfl (fun K hK => ?_)
        refine goes_ Try.func39 (by kernel_rfl) rfl #[.agg #[.int .i64 t929, .string t930]] (by rfl) rfl rfl zM ?_
        with_reducible refine (impl_CountQuads.calls k t929 t930 t948 _ A35.out).mono ?_
        rintro e w64 ⟨rfl, hb⟩
        refine ⟨_, rfl, ?_⟩
        replace HO934 := Aside0.mk (Kd.S_below (by (with_reducible repeat (first | apply Kd.S_alloc | apply Kd.S_drewN | apply Kd.S_drew)); exact HO934.out) hb)
        replace HO946 := Aside0.mk (Kd.S_below (by (with_reducible repeat (first | apply Kd.S_alloc | apply Kd.S_drewN | apply Kd.S_drew)); exact HO946.out) hb)
        replace BK924 := zV BK924.out hb
        replace BK931 := zV BK931.out hb
        replace BK941 := zV BK941.out hb
        replace HB := Aside0.mk (below_step (zG3 GE924.out GE931.out GE941.out) hb)
        (try clear hb)
        refine hK.out _ _ (zh BK924.out (zh BK931.out (zh2 BK941.out))) (fun hHeld => ?_)
        clear hK K
        refine zN ?_
        refine zU 34 (some 96) rfl rfl (fun K hK => ?_)
        refine goes_ Try.func40 (by kernel_rfl) rfl #[.agg #[.int .i64 t929, .string t930]] (by rfl) rfl rfl zM ?_
        with_reducible refine (spec_CountQuads.calls k t929 t930 t949 _ A36.out).mono ?_
        rintro e w65 ⟨rfl, hb⟩
        refine ⟨_, rfl, ?_⟩
        replace HO934 := Aside0.mk (Kd.S_below (by (with_reducible repeat (first | apply Kd.S_alloc | apply Kd.S_drewN | apply Kd.S_drew)); exact HO934.out) hb)
        replace HO946 := Aside0.mk (Kd.S_below (by (with_reducible repeat (first | apply Kd.S_alloc | apply Kd.S_drewN | apply Kd.S_drew)); exact HO946.out) hb)
        replace BK924 := zV BK924.out hb
        replace BK931 := zV BK931.out hb
        replace BK941 := zV BK941.out hb
        replace HB := Aside0.mk (below_step (zG3 GE924.out GE931.out GE941.out) hb)
        (try clear hb)
        refine hK.out _ _ (zh BK924.out (zh BK931.out (zh2 BK941.out))) (fun hHeld => ?_)
        clear hK K
        refine zN ?_
        refine zP 35 (some 97) rfl rfl ?_
        refine zP 36 (some 98) rfl rfl ?_
        refine zP 37 (some 99) rfl rfl ?_
        refine zP 39 (some 101) rfl rfl ?_
        refine zP 40 (some 102) rfl rfl ?_
        refine zP 41 (some 103) rfl rfl ?_
        refine zP 42 (some 104) rfl rfl ?_
        refine zP 45 (some 107) rfl rfl ?_
        refine zP 46 (some 108) rfl rfl ?_
        refine zP 47 (some 109) rfl rfl ?_
        refine zP 48 (some 110) rfl rfl ?_
        refine zY6 38 (some 100) rfl rfl hHeld ?_
        refine zY6 44 (some 106) rfl rfl hHeld ?_
        refine zU 43 (some 105) rfl rfl (fun K hK => ?_)
        refine goes_ Try.func41 (by kernel_rfl) rfl #[.agg #[.int .i64 t935, .string t936], .int .i64 t937, .int .i64 t938, .int .i64 t939, .int .i64 t940] (by rfl) rfl rfl zM ?_
        with_reducible refine (impl_IsInside.calls k t935 t936 t937 t938 t939 t940 t950 _ A38.out).mono ?_
        rintro e w66 ⟨rfl, hb⟩
        refine ⟨_, rfl, ?_⟩
        replace HO934 := Aside0.mk (Kd.S_below (by (with_reducible repeat (first | apply Kd.S_alloc | apply Kd.S_drewN | apply Kd.S_drew)); exact HO934.out) hb)
        replace HO946 := Aside0.mk (Kd.S_below (by (with_reducible repeat (first | apply Kd.S_alloc | apply Kd.S_drewN | apply Kd.S_drew)); exact HO946.out) hb)
        replace BK924 := zV BK924.out hb
        replace BK931 := zV BK931.out hb
        replace BK941 := zV BK941.out hb
        replace HB := Aside0.mk (below_step (zG3 GE924.out GE931.out GE941.out) hb)
        (try clear hb)
        refine hK.out _ _ (zh BK924.out (zh BK931.out (zh2 BK941.out))) (fun hHeld => ?_)
        clear hK K
        refine zN ?_
        refine zU 49 (some 111) rfl rfl (fun K hK => ?_)
        refine goes_ Try.func42 (by kernel_rfl) rfl #[.agg #[.int .i64 t935, .string t936], .int .i64 t937, .int .i64 t938, .int .i64 t939, .int .i64 t940] (by rfl) rfl rfl zM ?_
        with_reducible refine (spec_IsInside.calls k t935 t936 t937 t938 t939 t940 t951 _ A39.out).mono ?_
        rintro e w67 ⟨rfl, hb⟩
        refine ⟨_, rfl, ?_⟩
        replace HO934 := Aside0.mk (Kd.S_below (by (with_reducible repeat (first | apply Kd.S_alloc | apply Kd.S_drewN | apply Kd.S_drew)); exact HO934.out) hb)
        replace HO946 := Aside0.mk (Kd.S_below (by (with_reducible repeat (first | apply Kd.S_alloc | apply Kd.S_drewN | apply Kd.S_drew)); exact HO946.out) hb)
        replace BK924 := zV BK924.out hb
        replace BK931 := zV BK931.out hb
        replace BK941 := zV BK941.out hb
        replace HB := Aside0.mk (below_step (zG3 GE924.out GE931.out GE941.out) hb)
        (try clear hb)
        refine hK.out _ _ (zh BK924.out (zh BK931.out (zh2 BK941.out))) (fun hHeld => ?_)
        clear hK K
        refine zN ?_
        refine zP 50 (some 112) rfl rfl ?_
        refine zP 51 (some 113) rfl rfl ?_
        refine zP 52 (some 114) rfl rfl ?_
        refine zP 54 (some 116) rfl rfl ?_
        refine zP 55 (some 117) rfl rfl ?_
        refine zP 56 (some 118) rfl rfl ?_
        refine zP 59 (some 121) rfl rfl ?_
        refine zP 60 (some 122) rfl rfl ?_
        refine zP 61 (some 123) rfl rfl ?_
        refine zY6 53 (some 115) rfl rfl hHeld ?_
        refine zY6 58 (some 120) rfl rfl hHeld ?_
        refine zU 57 (some 119) rfl rfl (fun K hK => ?_)
        refine goes_ Try.func43 (by kernel_rfl) rfl #[.agg #[.int .i64 t918, .string t919], .int .i64 t920, .int .i64 t921, .int .i64 t922] (by rfl) rfl rfl zM ?_
        with_reducible refine (impl_CountInside.calls k t918 t919 t920 t921 t922 t952 _ A52.out).mono ?_
        rintro e w68 ⟨rfl, hb⟩
        refine ⟨_, rfl, ?_⟩
        replace HO934 := Aside0.mk (Kd.S_below (by (with_reducible repeat (first | apply Kd.S_alloc | apply Kd.S_drewN | apply Kd.S_drew)); exact HO934.out) hb)
        replace HO946 := Aside0.mk (Kd.S_below (by (with_reducible repeat (first | apply Kd.S_alloc | apply Kd.S_drewN | apply Kd.S_drew)); exact HO946.out) hb)
        replace BK924 := zV BK924.out hb
        replace BK931 := zV BK931.out hb
        replace BK941 := zV BK941.out hb
        replace HB := Aside0.mk (below_step (zG3 GE924.out GE931.out GE941.out) hb)
        (try clear hb)
        refine hK.out _ _ (zh BK924.out (zh BK931.out (zh2 BK941.out))) (fun hHeld => ?_)
        clear hK K
        refine zN ?_
        refine zU 62 (some 124) rfl rfl (fun K hK => ?_)
        refine goes_ Try.func44 (by kernel_rfl) rfl #[.agg #[.int .i64 t918, .string t919], .int .i64 t920, .int .i64 t921, .int .i64 t922] (by rfl) rfl rfl zM ?_
        with_reducible refine (spec_CountInside.calls k t918 t919 t920 t921 t922 t953 _ A53.out).mono ?_
        rintro e w69 ⟨rfl, hb⟩
        refine ⟨_, rfl, ?_⟩
        replace HO934 := Aside0.mk (Kd.S_below (by (with_reducible repeat (first | apply Kd.S_alloc | apply Kd.S_drewN | apply Kd.S_drew)); exact HO934.out) hb)
        replace HO946 := Aside0.mk (Kd.S_below (by (with_reducible repeat (first | apply Kd.S_alloc | apply Kd.S_drewN | apply Kd.S_drew)); exact HO946.out) hb)
        replace BK924 := zV BK924.out hb
        replace BK931 := zV BK931.out hb
        replace BK941 := zV BK941.out hb
        replace HB := Aside0.mk (below_step (zG3 GE924.out GE931.out GE941.out) hb)
        (try clear hb)
        refine hK.out _ _ (zh BK924.out (zh BK931.out (zh2 BK941.out))) (fun hHeld => ?_)
        clear hK K
        refine zN ?_
        refine zP 63 (some 125) rfl rfl ?_
        refine zP 64 (some 126) rfl rfl ?_
        refine zP 65 (some 127) rfl rfl ?_
        refine zY6 66 (some 128) rfl rfl hHeld ?_
        refine zY6 68 (some 130) rfl rfl hHeld ?_
        refine zU 67 (some 129) rfl rfl (fun K hK => ?_)
        refine goes_ Try.func45 (by kernel_rfl) rfl #[.agg #[.int .i64 t929, .string t930]] (by rfl) rfl rfl zM ?_
        with_reducible refine (impl_EmptyTriangles.calls k t929 t930 t954 _ A55.out).mono ?_
        rintro e w70 ⟨rfl, hb⟩
        refine ⟨_, rfl, ?_⟩
        replace HO934 := Aside0.mk (Kd.S_below (by (with_reducible repeat (first | apply Kd.S_alloc | apply Kd.S_drewN | apply Kd.S_drew)); exact HO934.out) hb)
        replace HO946 := Aside0.mk (Kd.S_below (by (with_reducible repeat (first | apply Kd.S_alloc | apply Kd.S_drewN | apply Kd.S_drew)); exact HO946.out) hb)
        replace BK924 := zV BK924.out hb
        replace BK931 := zV BK931.out hb
        replace BK941 := zV BK941.out hb
        replace HB := Aside0.mk (below_step (zG3 GE924.out GE931.out GE941.out) hb)
        (try clear hb)
        refine hK.out _ _ (zh BK924.out (zh BK931.out (zh2 BK941.out))) (fun hHeld => ?_)
        clear hK K
        refine zN ?_
        refine zU 69 (some 131) rfl rfl (fun K hK => ?_)
        refine goes_ Try.func46 (by kernel_rfl) rfl #[.agg #[.int .i64 t929, .string t930]] (by rfl) rfl rfl zM ?_
        with_reducible refine (spec_EmptyTriangles.calls k t929 t930 t955 _ A56.out).mono ?_
        rintro e w71 ⟨rfl, hb⟩
        refine ⟨_, rfl, ?_⟩
        replace HO934 := Aside0.mk (Kd.S_below (by (with_reducible repeat (first | apply Kd.S_alloc | apply Kd.S_drewN | apply Kd.S_drew)); exact HO934.out) hb)
        replace HO946 := Aside0.mk (Kd.S_below (by (with_reducible repeat (first | apply Kd.S_alloc | apply Kd.S_drewN | apply Kd.S_drew)); exact HO946.out) hb)
        replace BK924 := zV BK924.out hb
        replace BK931 := zV BK931.out hb
        replace BK941 := zV BK941.out hb
        replace HB := Aside0.mk (below_step (zG3 GE924.out GE931.out GE941.out) hb)
        (try clear hb)
        refine hK.out _ _ (zh BK924.out (zh BK931.out (zh2 BK941.out))) (fun hHeld => ?_)
        clear hK K
        refine zN ?_
        refine zP 70 (some 132) rfl rfl ?_
        refine zP 71 (some 133) rfl rfl ?_
        refine done_ (done_of HT_.out (by kernel_rfl)) ?_
        try go_wp2
        go_meet
        case rel => exact ⟨_, ((t954 != t955)), zF, H', ⟨by first | omega | exact Nat.le_refl _⟩, ⟨by (with_reducible repeat (first | apply Kd.S_alloc | apply Kd.S_drewN | apply Kd.S_drew)); exact Kd.S_mono HO934.out (fun _ hk => trivial)⟩, ⟨zK BK924.out⟩, ⟨zK BK931.out⟩, ⟨zK BK941.out⟩, ⟨zG3 GE924.out GE931.out GE941.out⟩⟩
       rw [if_neg c54] at H
       exact absurd H (laws_FnQuads.j0_no _ _ _ _ _ _ _ _ _ _ _ _ _ _ _ _ _ _ _ hr_)
      rw [if_neg c37] at H
      exact absurd H (laws_FnQuads.j0_no _ _ _ _ _ _ _ _ _ _ _ _ _ _ _ _ _ _ _ hr_)
     replace c34 := Bool.eq_false_iff.mpr c34
     subst c34
     have H1 : (laws_FnQuads.j0 k t920 t921 t922 t923 t925 t926 t932 t937 t938 t939 t940 true t918 t919 t929 t930 t935 t936) = some r := by rw [if_neg (show ¬ (false = true) by decide)] at H; exact H
     exact absurd H1 (laws_FnQuads.j0_no _ _ _ _ _ _ _ _ _ _ _ _ _ _ _ _ _ _ _ hr_)
    rw [if_neg c31] at H
    exact absurd H (laws_FnQuads.j0_no _ _ _ _ _ _ _ _ _ _ _ _ _ _ _ _ _ _ _ hr_)
   rw [if_neg c28] at H
   exact absurd H (laws_FnQuads.j0_no _ _ _ _ _ _ _ _ _ _ _ _ _ _ _ _ _ _ _ hr_)
  rw [if_neg c27] at H
  exact absurd H (laws_FnQuads.j0_no _ _ _ _ _ _ _ _ _ _ _ _ _ _ _ _ _ _ _ hr_)
 case rest => as_aux_lemma =>
 clear HC10
 obtain ⟨kq, x133_9, rfl, HA, HJ9, HO_13, BK924, BK931, BK941, HB⟩ := hcut
 cases kq with
 | zero => exact absurd HA.out (by simp [laws_FnQuads.j0])
 | succ kj9 =>
 have H := HA.out
 clear HA
 simp only [laws_FnQuads.j0] at H
 by_cases c109 : x133_9 = true
 ·subst c109
  replace H := (if_pos rfl).symm.trans H
  obtain rfl := Option.some.inj H
  cases hr_
 replace c109 := Bool.eq_false_iff.mpr c109
 subst c109
 replace H := (if_neg zFf).symm.trans H
 have HC110 := Aside0.mk H
 clear H
 go_upto_if 135 with (fail)
 go_cut [] (fun wc => ∃ (kq : Nat), Aside0 (laws_FnQuads.j2 kq t932 t937 t938 t939 t940 t929 t930 t935 t936 = some r) ∧ Aside0 (kq ≤ kj9) ∧ Aside0 (Kd.S (Kd.slice 3 (Kd.int .i64)) 27 wc w.heap.size (fun _ => True) v933 t932) ∧ Aside0 (wc.heap[gb924]? = some (.cells #[.int .i64 t918, .string t919] 25 (0, 0))) ∧ Aside0 (wc.heap[gb931]? = some (.cells #[.int .i64 t929, .string t930] 25 (0, 0))) ∧ Aside0 (wc.heap[gb941]? = some (.cells #[.int .i64 t935, .string t936] 25 (0, 0))) ∧ Aside0 (Below w.heap.size w wc))
 case first => as_aux_lemma =>
  have H := HC110.out
  clear HC110
  by_cases c111 : t925 > 0
  ·rw [if_pos c111] at H
   have c111b0 : decide (0 < t925) = true := decide_eq_true c111
   clear c111
   (first | rw [c111b0] | (simp only [i64_w, i32_w]; rw [c111b0]) | skip)
   have HC112 := Aside0.mk H
   clear H
   go_upto_region 12 with (fail)
   go_cut [170] (fun v170 wc => ∃ (kq : Nat) (x170_111 : Bool), v170 = .bool x170_111 ∧ Aside0 (laws_FnQuads.j1 kq t920 t921 t922 t923 t925 t926 t932 t937 t938 t939 t940 x170_111 t918 t919 t929 t930 t935 t936 = some r) ∧ Aside0 (kq ≤ kj9) ∧ Aside0 (Kd.S (Kd.slice 3 (Kd.int .i64)) 27 wc w.heap.size (fun _ => True) v933 t932) ∧ Aside0 (wc.heap[gb924]? = some (.cells #[.int .i64 t918, .string t919] 25 (0, 0))) ∧ Aside0 (wc.heap[gb931]? = some (.cells #[.int .i64 t929, .string t930] 25 (0, 0))) ∧ Aside0 (wc.heap[gb941]? = some (.cells #[.int .i64 t935, .string t936] 25 (0, 0))) ∧ Aside0 (Below w.heap.size w wc))
   case first => as_aux_lemma =>
    have H := HC112.out
    clear HC112
    by_cases c113 : (Go.bits .and .i64 t925 t926) = 0
    ·rw [if_pos c113] at H
     have c113b0 : ((Go.bits .and .i64 t925 t926) == 0) = true := beq_iff_eq.mpr c113
     have c113b1 : ((Go.bits .and .i64 t925 t926) != 0) = false := bne_eq_false_iff_eq.mpr c113
     clear c113
     (first | rw [c113b0] | (simp only [i64_w, i32_w]; rw [c113b0]) | skip)
     obtain ⟨t956, A114, H⟩ := zO H
     obtain ⟨t957, A115, H⟩ := zO H
     by_cases c116 : (wrap64 (t956 + t957)) = 4
     ·rw [if_pos c116] at H
      have c116b0 : ((wrap64 (t956 + t957)) == 4) = true := beq_iff_eq.mpr c116
      have c116b1 : ((wrap64 (t956 + t957)) != 4) = false := bne_eq_false_iff_eq.mpr c116
      clear c116
      obtain ⟨t958, A117, H⟩ := zO H
      by_cases c118 : t958 < 1
      ·rw [if_pos c118] at H
       exact absurd H (laws_FnQuads.j1_no _ _ _ _ _ _ _ _ _ _ _ _ _ _ _ _ _ _ _ hr_)
      rw [if_neg c118] at H
      have c118b0 : decide (t958 < 1) = false := decide_eq_false c118
      clear c118
      obtain ⟨t959, A119, H⟩ := zO H
      by_cases c120 : t959 > 3
      ·rw [if_pos c120] at H
       exact absurd H (laws_FnQuads.j1_no _ _ _ _ _ _ _ _ _ _ _ _ _ _ _ _ _ _ _ hr_)
      rw [if_neg c120] at H
      have c120b0 : decide (3 < t959) = false := decide_eq_false c120
      clear c120
      obtain ⟨t960, A121, H⟩ := zO H
      obtain ⟨t961, A122, H⟩ := zO H
      have H' := Aside0.mk H; clear H
      have hczZ_0 := (blk_cell BK924.out 0).trans (show (_ : Option Value) = some (.int .i64 t918) from rfl)
      have hczZ_1 := (blk_cell BK924.out 1).trans (show (_ : Option Value) = some (.string t919) from rfl)
      have hfzZ_0 := blk_frozen BK924.out 0
      have hfzZ_1 := blk_frozen BK924.out 1
      rw [show t958 = t956 from Option.some.inj (A117.out.symm.trans A114.out)] at c118b0
      rw [show t959 = t956 from Option.some.inj (A119.out.symm.trans A114.out)] at c120b0
      go_wp2_with (first | (go_at_call 47; (with_reducible refine (laws_size.calls kj9 t925 t956 _ A114.out).mono ?_); rintro e w' ⟨rfl, ⟨nd, rfl⟩⟩) | (go_at_call 47; (with_reducible refine (laws_size.calls kj9 t926 t957 _ A115.out).mono ?_); rintro e w' ⟨rfl, ⟨nd, rfl⟩⟩) | (go_at_call 47; (with_reducible refine (laws_size.calls kj9 t925 t958 _ A117.out).mono ?_); rintro e w' ⟨rfl, ⟨nd, rfl⟩⟩) | (go_at_call 47; (with_reducible refine (laws_size.calls kj9 t925 t959 _ A119.out).mono ?_); rintro e w' ⟨rfl, ⟨nd, rfl⟩⟩; have hnb123 := NB924_931.out; have hnc123 := NB931_924.out; have hnb124 := NB924_941.out; have hnc124 := NB941_924.out; obtain ⟨hcz125_0, hcz125_1, hfz125_0, hfz125_1⟩ := zq2 BK924.out) | (go_at_call 35; (with_reducible refine (impl_InnerOf.calls kj9 t918 t919 t920 t921 t922 t923 t960 _ A121.out).mono ?_); rintro e w126 ⟨rfl, hb⟩; replace HO_13 := Aside0.mk (Kd.S_below (by (with_reducible repeat (first | apply Kd.S_alloc | apply Kd.S_drewN | apply Kd.S_drew)); exact HO_13.out) hb); replace BK924 := zV BK924.out hb; replace BK931 := zV BK931.out hb; replace BK941 := zV BK941.out hb; replace HB := Aside0.mk (below_step (zG3 GE924.out GE931.out GE941.out) hb); (try clear hb); (try clear hb2); (try clear hk); (try clear hi)) | (go_at_call 47; (with_reducible refine (laws_size.calls kj9 t925 t961 _ A122.out).mono ?_); rintro e w' ⟨rfl, ⟨nd, rfl⟩⟩))
      go_meet
      case rel => exact ⟨_, (((decide (t960 < 0)) != (t961 == 2))), (by have e3 := Option.some.inj (A122.out.symm.trans A114.out); first | (rw [e3]; done) | (rw [e3]; simp [c118b0, c120b0, bne]; done) | (rw [e3]; simp [*, bne])), H', ⟨by have := HJ9.out; first | omega | exact Nat.le_refl _⟩, ⟨by (with_reducible repeat (first | apply Kd.S_alloc | apply Kd.S_drewN | apply Kd.S_drew)); exact HO_13.out⟩, ⟨zK BK924.out⟩, ⟨zK BK931.out⟩, ⟨zK BK941.out⟩, ⟨zG3 GE924.out GE931.out GE941.out⟩⟩
     rw [if_neg c116] at H
     exact absurd H (laws_FnQuads.j1_no _ _ _ _ _ _ _ _ _ _ _ _ _ _ _ _ _ _ _ hr_)
    rw [if_neg c113] at H
    exact absurd H (laws_FnQuads.j1_no _ _ _ _ _ _ _ _ _ _ _ _ _ _ _ _ _ _ _ hr_)
   case rest => as_aux_lemma =>
   clear HC112
   try clear c109
   try clear c111
   try clear c111b0
   obtain ⟨kq, x170_111, rfl, HA, HJ111, HO_13, BK924, BK931, BK941, HB⟩ := hcut
   cases kq with
   | zero => exact absurd HA.out (by simp [laws_FnQuads.j1])
   | succ kj111 =>
   have H := HA.out
   clear HA
   simp only [laws_FnQuads.j1] at H
   by_cases c127 : x170_111 = true
   ·subst c127
    replace H := (if_pos rfl).symm.trans H
    obtain rfl := Option.some.inj H
    cases hr_
   replace c127 := Bool.eq_false_iff.mpr c127
   subst c127
   replace H := (if_neg zFf).symm.trans H
   obtain ⟨⟨t962, t963⟩, A128, H⟩ := zO H
   dsimp only at H
   by_cases c129 : t962 = t925
   ·rw [if_pos c129] at H
    have c129b0 : (t962 == t925) = true := beq_iff_eq.mpr c129
    have c129b1 : (t962 != t925) = false := bne_eq_false_iff_eq.mpr c129
    clear c129
    by_cases c130 : t963 = t926
    ·rw [if_pos c130] at H
     have c130b0 : (t963 == t926) = true := beq_iff_eq.mpr c130
     have c130b1 : (t963 != t926) = false := bne_eq_false_iff_eq.mpr c130
     clear c130
     have H' := Aside0.mk H; clear H
     have hnb131 := NB924_931.out
     have hnc131 := NB931_924.out
     have hnb132 := NB924_941.out
     have hnc132 := NB941_924.out
     obtain ⟨hcz133_0, hcz133_1, hfz133_0, hfz133_1⟩ := zq2 BK924.out
     go_wp2_with (first | ((with_reducible refine gate_callee (f := 30) rfl ?_); refine zD (some 177) Try.func30 #[.agg #[.int .i64 t918, .string t919], .int .i64 t921, .int .i64 t920, .int .i64 t922, .int .i64 t923] ?_; (with_reducible refine (impl_SplitOf.calls kj111 t918 t919 t921 t920 t922 t923 t962 t963 _ A128.out).mono ?_); rintro e w134 ⟨rfl, hb⟩; refine ⟨_, rfl, ?_⟩; replace HO_13 := Aside0.mk (Kd.S_below (by (with_reducible repeat (first | apply Kd.S_alloc | apply Kd.S_drewN | apply Kd.S_drew)); exact HO_13.out) hb); replace BK924 := zV BK924.out hb; replace BK931 := zV BK931.out hb; replace BK941 := zV BK941.out hb; replace HB := Aside0.mk (below_step (zG3 GE924.out GE931.out GE941.out) hb); (try clear hb)))
     go_meet
     case rel => exact ⟨_, H', ⟨by have := HJ9.out; have := HJ111.out; first | omega | exact Nat.le_refl _⟩, ⟨by (with_reducible repeat (first | apply Kd.S_alloc | apply Kd.S_drewN | apply Kd.S_drew)); exact HO_13.out⟩, ⟨zK BK924.out⟩, ⟨zK BK931.out⟩, ⟨zK BK941.out⟩, ⟨zG3 GE924.out GE931.out GE941.out⟩⟩
    rw [if_neg c130] at H
    have c130b0 : (t963 == t926) = false := beq_eq_false_iff_ne.mpr c130
    have c130b1 : (t963 != t926) = true := bne_iff_ne.mpr c130
    by_cases c135 : t962 = t926
    ·rw [if_pos c135] at H
     have c135b0 : (t962 == t926) = true := beq_iff_eq.mpr c135
     have c135b1 : (t962 != t926) = false := bne_eq_false_iff_eq.mpr c135
     clear c135
     by_cases c136 : t963 = t925
     ·rw [if_pos c136] at H
      have c136b0 : (t963 == t925) = true := beq_iff_eq.mpr c136
      have c136b1 : (t963 != t925) = false := bne_eq_false_iff_eq.mpr c136
      clear c136
      have H' := Aside0.mk H; clear H
      have hnb137 := NB924_931.out
      have hnc137 := NB931_924.out
      have hnb138 := NB924_941.out
      have hnc138 := NB941_924.out
      obtain ⟨hcz139_0, hcz139_1, hfz139_0, hfz139_1⟩ := zq2 BK924.out
      go_wp2_with (first | ((with_reducible refine gate_callee (f := 30) rfl ?_); refine zD (some 177) Try.func30 #[.agg #[.int .i64 t918, .string t919], .int .i64 t921, .int .i64 t920, .int .i64 t922, .int .i64 t923] ?_; (with_reducible refine (impl_SplitOf.calls kj111 t918 t919 t921 t920 t922 t923 t962 t963 _ A128.out).mono ?_); rintro e w140 ⟨rfl, hb⟩; refine ⟨_, rfl, ?_⟩; replace HO_13 := Aside0.mk (Kd.S_below (by (with_reducible repeat (first | apply Kd.S_alloc | apply Kd.S_drewN | apply Kd.S_drew)); exact HO_13.out) hb); replace BK924 := zV BK924.out hb; replace BK931 := zV BK931.out hb; replace BK941 := zV BK941.out hb; replace HB := Aside0.mk (below_step (zG3 GE924.out GE931.out GE941.out) hb); (try clear hb)))
      go_meet
      case rel => exact ⟨_, H', ⟨by have := HJ9.out; have := HJ111.out; first | omega | exact Nat.le_refl _⟩, ⟨by (with_reducible repeat (first | apply Kd.S_alloc | apply Kd.S_drewN | apply Kd.S_drew)); exact HO_13.out⟩, ⟨zK BK924.out⟩, ⟨zK BK931.out⟩, ⟨zK BK941.out⟩, ⟨zG3 GE924.out GE931.out GE941.out⟩⟩
     rw [if_neg c136] at H
     have c136b0 : (t963 == t925) = false := beq_eq_false_iff_ne.mpr c136
     have c136b1 : (t963 != t925) = true := bne_iff_ne.mpr c136
     obtain rfl := Option.some.inj H
     cases hr_
    rw [if_neg c135] at H
    have c135b0 : (t962 == t926) = false := beq_eq_false_iff_ne.mpr c135
    have c135b1 : (t962 != t926) = true := bne_iff_ne.mpr c135
    obtain rfl := Option.some.inj H
    cases hr_
   rw [if_neg c129] at H
   have c129b0 : (t962 == t925) = false := beq_eq_false_iff_ne.mpr c129
   have c129b1 : (t962 != t925) = true := bne_iff_ne.mpr c129
   by_cases c149 : t962 = t926
   ·rw [if_pos c149] at H
    have c149b0 : (t962 == t926) = true := beq_iff_eq.mpr c149
    have c149b1 : (t962 != t926) = false := bne_eq_false_iff_eq.mpr c149
    clear c149
    by_cases c150 : t963 = t925
    ·rw [if_pos c150] at H
     have c150b0 : (t963 == t925) = true := beq_iff_eq.mpr c150
     have c150b1 : (t963 != t925) = false := bne_eq_false_iff_eq.mpr c150
     clear c150
     have H' := Aside0.mk H; clear H
     have hnb151 := NB924_931.out
     have hnc151 := NB931_924.out
     have hnb152 := NB924_941.out
     have hnc152 := NB941_924.out
     obtain ⟨hcz153_0, hcz153_1, hfz153_0, hfz153_1⟩ := zq2 BK924.out
     go_wp2_with (first | ((with_reducible refine gate_callee (f := 30) rfl ?_); refine zD (some 177) Try.func30 #[.agg #[.int .i64 t918, .string t919], .int .i64 t921, .int .i64 t920, .int .i64 t922, .int .i64 t923] ?_; (with_reducible refine (impl_SplitOf.calls kj111 t918 t919 t921 t920 t922 t923 t962 t963 _ A128.out).mono ?_); rintro e w154 ⟨rfl, hb⟩; refine ⟨_, rfl, ?_⟩; replace HO_13 := Aside0.mk (Kd.S_below (by (with_reducible repeat (first | apply Kd.S_alloc | apply Kd.S_drewN | apply Kd.S_drew)); exact HO_13.out) hb); replace BK924 := zV BK924.out hb; replace BK931 := zV BK931.out hb; replace BK941 := zV BK941.out hb; replace HB := Aside0.mk (below_step (zG3 GE924.out GE931.out GE941.out) hb); (try clear hb)))
     go_meet
     case rel => exact ⟨_, H', ⟨by have := HJ9.out; have := HJ111.out; first | omega | exact Nat.le_refl _⟩, ⟨by (with_reducible repeat (first | apply Kd.S_alloc | apply Kd.S_drewN | apply Kd.S_drew)); exact HO_13.out⟩, ⟨zK BK924.out⟩, ⟨zK BK931.out⟩, ⟨zK BK941.out⟩, ⟨zG3 GE924.out GE931.out GE941.out⟩⟩
    rw [if_neg c150] at H
    have c150b0 : (t963 == t925) = false := beq_eq_false_iff_ne.mpr c150
    have c150b1 : (t963 != t925) = true := bne_iff_ne.mpr c150
    obtain rfl := Option.some.inj H
    cases hr_
   rw [if_neg c149] at H
   have c149b0 : (t962 == t926) = false := beq_eq_false_iff_ne.mpr c149
   have c149b1 : (t962 != t926) = true := bne_iff_ne.mpr c149
   obtain rfl := Option.some.inj H
   cases hr_
  rw [if_neg c111] at H
  have c111b0 : decide (0 < t925) = false := decide_eq_false c111
  clear c111
  (first | rw [c111b0] | (simp only [i64_w, i32_w]; rw [c111b0]) | skip)
  have H' := Aside0.mk H; clear H
  go_wp2
  go_meet
  case rel => exact ⟨_, H', ⟨by have := HJ9.out; first | omega | exact Nat.le_refl _⟩, ⟨by (with_reducible repeat (first | apply Kd.S_alloc | apply Kd.S_drewN | apply Kd.S_drew)); exact HO_13.out⟩, ⟨zK BK924.out⟩, ⟨zK BK931.out⟩, ⟨zK BK941.out⟩, ⟨zG3 GE924.out GE931.out GE941.out⟩⟩
 case rest => as_aux_lemma =>
 clear HC110
 try clear c3
 try clear c109
 obtain ⟨kq, HA, HJ109, HO_13, BK924, BK931, BK941, HB⟩ := hcut
 cases kq with
 | zero => exact absurd HA.out (by simp [laws_FnQuads.j2])
 | succ kj109 =>
 have H := HA.out
 clear HA
 simp only [laws_FnQuads.j2] at H
 have HC163 := Aside0.mk H
 clear H
 go_upto_region 17 with (fail)
 go_cut [222] (fun v222 wc => ∃ (kq : Nat) (x222_162 : Bool), v222 = .bool x222_162 ∧ Aside0 (laws_FnQuads.j3 kq t932 t937 t938 t939 t940 x222_162 t929 t930 t935 t936 = some r) ∧ Aside0 (kq ≤ kj109) ∧ Aside0 (Kd.S (Kd.slice 3 (Kd.int .i64)) 27 wc w.heap.size (fun _ => True) v933 t932) ∧ Aside0 (wc.heap[gb924]? = some (.cells #[.int .i64 t918, .string t919] 25 (0, 0))) ∧ Aside0 (wc.heap[gb931]? = some (.cells #[.int .i64 t929, .string t930] 25 (0, 0))) ∧ Aside0 (wc.heap[gb941]? = some (.cells #[.int .i64 t935, .string t936] 25 (0, 0))) ∧ Aside0 (Below w.heap.size w wc))
 case first => as_aux_lemma =>
  have H := HC163.out
  clear HC163
  obtain ⟨t964, A164, H⟩ := zO H
  by_cases c165 : t964 ≥ 0
  ·rw [if_pos c165] at H
   have c165b0 : decide (0 ≤ t964) = true := decide_eq_true c165
   clear c165
   (first | rw [c165b0] | (simp only [i64_w, i32_w]; rw [c165b0]) | skip)
   obtain ⟨t965, A166, H⟩ := zO H
   by_cases c167 : t965 = (t932.length : Int)
   ·rw [if_pos c167] at H
    have c167b0 : (t965 == (t932.length : Int)) = true := beq_iff_eq.mpr c167
    have c167b1 : (t965 != (t932.length : Int)) = false := bne_eq_false_iff_eq.mpr c167
    clear c167
    obtain ⟨t966, A168, H⟩ := zO H
    by_cases c169 : t966 = true
    ·subst c169
     replace H := (if_pos rfl).symm.trans H
     by_cases c170 : t929 ≥ 5
     ·rw [if_pos c170] at H
      have c170b0 : decide (5 ≤ t929) = true := decide_eq_true c170
      clear c170
      have H' := Aside0.mk H; clear H
      have hnb171 := NB931_924.out
      have hnc171 := NB924_931.out
      have hnb172 := NB931_941.out
      have hnc172 := NB941_931.out
      obtain ⟨hcz173_0, hcz173_1, hfz173_0, hfz173_1⟩ := zq2 BK931.out
      go_wp2_with (first | ((with_reducible refine gate_callee (f := 39) rfl ?_); refine zD (some 200) Try.func39 #[.agg #[.int .i64 t929, .string t930]] ?_; (with_reducible refine (impl_CountQuads.calls kj109 t929 t930 t964 _ A164.out).mono ?_); rintro e w174 ⟨rfl, hb⟩; refine ⟨_, rfl, ?_⟩; replace HO_13 := Aside0.mk (Kd.S_below (by (with_reducible repeat (first | apply Kd.S_alloc | apply Kd.S_drewN | apply Kd.S_drew)); exact HO_13.out) hb); replace BK924 := zV BK924.out hb; replace BK931 := zV BK931.out hb; replace BK941 := zV BK941.out hb; replace HB := Aside0.mk (below_step (zG3 GE924.out GE931.out GE941.out) hb); (try clear hb); obtain ⟨hcz175_0, hcz175_1, hfz175_0, hfz175_1⟩ := zq2 BK931.out) | (go_at_call 39; (with_reducible refine (impl_CountQuads.calls kj109 t929 t930 t965 _ A166.out).mono ?_); rintro e w176 ⟨rfl, hb⟩; replace HO_13 := Aside0.mk (Kd.S_below (by (with_reducible repeat (first | apply Kd.S_alloc | apply Kd.S_drewN | apply Kd.S_drew)); exact HO_13.out) hb); replace BK924 := zV BK924.out hb; replace BK931 := zV BK931.out hb; replace BK941 := zV BK941.out hb; replace HB := Aside0.mk (below_step (zG3 GE924.out GE931.out GE941.out) hb); (try clear hb); (try clear hb2); (try clear hk); (try clear hi); obtain ⟨Ao177, co177, eo177⟩ := Kd.S_slice HO_13.out; subst eo177; obtain ⟨hcz178_0, hcz178_1, hfz178_0, hfz178_1⟩ := zq2 BK931.out) | (go_at_call 24; (with_reducible refine (spec_IsAcyclic.calls kj109 t929 t930 true _ A168.out).mono ?_); rintro e w179 ⟨rfl, hb⟩; replace HO_13 := Aside0.mk (Kd.S_below (by (with_reducible repeat (first | apply Kd.S_alloc | apply Kd.S_drewN | apply Kd.S_drew)); exact HO_13.out) hb); replace BK924 := zV BK924.out hb; replace BK931 := zV BK931.out hb; replace BK941 := zV BK941.out hb; replace HB := Aside0.mk (below_step (zG3 GE924.out GE931.out GE941.out) hb); (try clear hb); (try clear hb2); (try clear hk); (try clear hi); obtain ⟨hcz180_0, hcz180_1, hfz180_0, hfz180_1⟩ := zq2 BK931.out))
      go_meet
      case rel => exact ⟨_, (((t932.length : Int) == 0)), zF, H', ⟨by have := HJ9.out; have := HJ109.out; first | omega | exact Nat.le_refl _⟩, ⟨by (with_reducible repeat (first | apply Kd.S_alloc | apply Kd.S_drewN | apply Kd.S_drew)); exact HO_13.out⟩, ⟨zK BK924.out⟩, ⟨zK BK931.out⟩, ⟨zK BK941.out⟩, ⟨zG3 GE924.out GE931.out GE941.out⟩⟩
     rw [if_neg c170] at H
     have c170b0 : decide (5 ≤ t929) = false := decide_eq_false c170
     clear c170
     have H' := Aside0.mk H; clear H
     have hnb181 := NB931_924.out
     have hnc181 := NB924_931.out
     have hnb182 := NB931_941.out
     have hnc182 := NB941_931.out
     obtain ⟨hcz183_0, hcz183_1, hfz183_0, hfz183_1⟩ := zq2 BK931.out
     go_wp2_with (first | ((with_reducible refine gate_callee (f := 39) rfl ?_); refine zD (some 200) Try.func39 #[.agg #[.int .i64 t929, .string t930]] ?_; (with_reducible refine (impl_CountQuads.calls kj109 t929 t930 t964 _ A164.out).mono ?_); rintro e w184 ⟨rfl, hb⟩; refine ⟨_, rfl, ?_⟩; replace HO_13 := Aside0.mk (Kd.S_below (by (with_reducible repeat (first | apply Kd.S_alloc | apply Kd.S_drewN | apply Kd.S_drew)); exact HO_13.out) hb); replace BK924 := zV BK924.out hb; replace BK931 := zV BK931.out hb; replace BK941 := zV BK941.out hb; replace HB := Aside0.mk (below_step (zG3 GE924.out GE931.out GE941.out) hb); (try clear hb); obtain ⟨hcz185_0, hcz185_1, hfz185_0, hfz185_1⟩ := zq2 BK931.out) | (go_at_call 39; (with_reducible refine (impl_CountQuads.calls kj109 t929 t930 t965 _ A166.out).mono ?_); rintro e w186 ⟨rfl, hb⟩; replace HO_13 := Aside0.mk (Kd.S_below (by (with_reducible repeat (first | apply Kd.S_alloc | apply Kd.S_drewN | apply Kd.S_drew)); exact HO_13.out) hb); replace BK924 := zV BK924.out hb; replace BK931 := zV BK931.out hb; replace BK941 := zV BK941.out hb; replace HB := Aside0.mk (below_step (zG3 GE924.out GE931.out GE941.out) hb); (try clear hb); (try clear hb2); (try clear hk); (try clear hi); obtain ⟨Ao187, co187, eo187⟩ := Kd.S_slice HO_13.out; subst eo187; obtain ⟨hcz188_0, hcz188_1, hfz188_0, hfz188_1⟩ := zq2 BK931.out) | (go_at_call 24; (with_reducible refine (spec_IsAcyclic.calls kj109 t929 t930 true _ A168.out).mono ?_); rintro e w189 ⟨rfl, hb⟩; replace HO_13 := Aside0.mk (Kd.S_below (by (with_reducible repeat (first | apply Kd.S_alloc | apply Kd.S_drewN | apply Kd.S_drew)); exact HO_13.out) hb); replace BK924 := zV BK924.out hb; replace BK931 := zV BK931.out hb; replace BK941 := zV BK941.out hb; replace HB := Aside0.mk (below_step (zG3 GE924.out GE931.out GE941.out) hb); (try clear hb); (try clear hb2); (try clear hk); (try clear hi); obtain ⟨hcz190_0, hcz190_1, hfz190_0, hfz190_1⟩ := zq2 BK931.out))
     go_meet
     case rel => exact ⟨_, (false), zF, H', ⟨by have := HJ9.out; have := HJ109.out; first | omega | exact Nat.le_refl _⟩, ⟨by (with_reducible repeat (first | apply Kd.S_alloc | apply Kd.S_drewN | apply Kd.S_drew)); exact HO_13.out⟩, ⟨zK BK924.out⟩, ⟨zK BK931.out⟩, ⟨zK BK941.out⟩, ⟨zG3 GE924.out GE931.out GE941.out⟩⟩
    replace c169 := Bool.eq_false_iff.mpr c169
    subst c169
    replace H := (if_neg zFf).symm.trans H
    have H' := Aside0.mk H; clear H
    have hnb191 := NB931_924.out
    have hnc191 := NB924_931.out
    have hnb192 := NB931_941.out
    have hnc192 := NB941_931.out
    obtain ⟨hcz193_0, hcz193_1, hfz193_0, hfz193_1⟩ := zq2 BK931.out
    go_wp2_with (first | ((with_reducible refine gate_callee (f := 39) rfl ?_); refine zD (some 200) Try.func39 #[.agg #[.int .i64 t929, .string t930]] ?_; (with_reducible refine (impl_CountQuads.calls kj109 t929 t930 t964 _ A164.out).mono ?_); rintro e w194 ⟨rfl, hb⟩; refine ⟨_, rfl, ?_⟩; replace HO_13 := Aside0.mk (Kd.S_below (by (with_reducible repeat (first | apply Kd.S_alloc | apply Kd.S_drewN | apply Kd.S_drew)); exact HO_13.out) hb); replace BK924 := zV BK924.out hb; replace BK931 := zV BK931.out hb; replace BK941 := zV BK941.out hb; replace HB := Aside0.mk (below_step (zG3 GE924.out GE931.out GE941.out) hb); (try clear hb); obtain ⟨hcz195_0, hcz195_1, hfz195_0, hfz195_1⟩ := zq2 BK931.out) | (go_at_call 39; (with_reducible refine (impl_CountQuads.calls kj109 t929 t930 t965 _ A166.out).mono ?_); rintro e w196 ⟨rfl, hb⟩; replace HO_13 := Aside0.mk (Kd.S_below (by (with_reducible repeat (first | apply Kd.S_alloc | apply Kd.S_drewN | apply Kd.S_drew)); exact HO_13.out) hb); replace BK924 := zV BK924.out hb; replace BK931 := zV BK931.out hb; replace BK941 := zV BK941.out hb; replace HB := Aside0.mk (below_step (zG3 GE924.out GE931.out GE941.out) hb); (try clear hb); (try clear hb2); (try clear hk); (try clear hi); obtain ⟨Ao197, co197, eo197⟩ := Kd.S_slice HO_13.out; subst eo197; obtain ⟨hcz198_0, hcz198_1, hfz198_0, hfz198_1⟩ := zq2 BK931.out) | (go_at_call 24; (with_reducible refine (spec_IsAcyclic.calls kj109 t929 t930 false _ A168.out).mono ?_); rintro e w199 ⟨rfl, hb⟩; replace HO_13 := Aside0.mk (Kd.S_below (by (with_reducible repeat (first | apply Kd.S_alloc | apply Kd.S_drewN | apply Kd.S_drew)); exact HO_13.out) hb); replace BK924 := zV BK924.out hb; replace BK931 := zV BK931.out hb; replace BK941 := zV BK941.out hb; replace HB := Aside0.mk (below_step (zG3 GE924.out GE931.out GE941.out) hb); (try clear hb); (try clear hb2); (try clear hk); (try clear hi)))
    go_meet
    case rel => exact ⟨_, (false), zF, H', ⟨by have := HJ9.out; have := HJ109.out; first | omega | exact Nat.le_refl _⟩, ⟨by (with_reducible repeat (first | apply Kd.S_alloc | apply Kd.S_drewN | apply Kd.S_drew)); exact HO_13.out⟩, ⟨zK BK924.out⟩, ⟨zK BK931.out⟩, ⟨zK BK941.out⟩, ⟨zG3 GE924.out GE931.out GE941.out⟩⟩
   rw [if_neg c167] at H
   exact absurd H (laws_FnQuads.j3_no _ _ _ _ _ _ _ _ _ _ _ hr_)
  rw [if_neg c165] at H
  have c165b0 : decide (0 ≤ t964) = false := decide_eq_false c165
  clear c165
  (first | rw [c165b0] | (simp only [i64_w, i32_w]; rw [c165b0]) | skip)
  obtain ⟨t967, A207, H⟩ := zO H
  by_cases c208 : t967 = true
  ·subst c208
   replace H := (if_pos rfl).symm.trans H
   by_cases c209 : t929 ≥ 5
   ·rw [if_pos c209] at H
    have c209b0 : decide (5 ≤ t929) = true := decide_eq_true c209
    clear c209
    have H' := Aside0.mk H; clear H
    have hnb210 := NB931_924.out
    have hnc210 := NB924_931.out
    have hnb211 := NB931_941.out
    have hnc211 := NB941_931.out
    obtain ⟨hcz212_0, hcz212_1, hfz212_0, hfz212_1⟩ := zq2 BK931.out
    go_wp2_with (first | ((with_reducible refine gate_callee (f := 39) rfl ?_); refine zD (some 200) Try.func39 #[.agg #[.int .i64 t929, .string t930]] ?_; (with_reducible refine (impl_CountQuads.calls kj109 t929 t930 t964 _ A164.out).mono ?_); rintro e w213 ⟨rfl, hb⟩; refine ⟨_, rfl, ?_⟩; replace HO_13 := Aside0.mk (Kd.S_below (by (with_reducible repeat (first | apply Kd.S_alloc | apply Kd.S_drewN | apply Kd.S_drew)); exact HO_13.out) hb); replace BK924 := zV BK924.out hb; replace BK931 := zV BK931.out hb; replace BK941 := zV BK941.out hb; replace HB := Aside0.mk (below_step (zG3 GE924.out GE931.out GE941.out) hb); (try clear hb); obtain ⟨hcz214_0, hcz214_1, hfz214_0, hfz214_1⟩ := zq2 BK931.out) | (go_at_call 24; (with_reducible refine (spec_IsAcyclic.calls kj109 t929 t930 true _ A207.out).mono ?_); rintro e w215 ⟨rfl, hb⟩; replace HO_13 := Aside0.mk (Kd.S_below (by (with_reducible repeat (first | apply Kd.S_alloc | apply Kd.S_drewN | apply Kd.S_drew)); exact HO_13.out) hb); replace BK924 := zV BK924.out hb; replace BK931 := zV BK931.out hb; replace BK941 := zV BK941.out hb; replace HB := Aside0.mk (below_step (zG3 GE924.out GE931.out GE941.out) hb); (try clear hb); (try clear hb2); (try clear hk); (try clear hi); obtain ⟨hcz216_0, hcz216_1, hfz216_0, hfz216_1⟩ := zq2 BK931.out; obtain ⟨Ao217, co217, eo217⟩ := Kd.S_slice HO_13.out; subst eo217))
    go_meet
    case rel => exact ⟨_, (((t932.length : Int) == 0)), zF, H', ⟨by have := HJ9.out; have := HJ109.out; first | omega | exact Nat.le_refl _⟩, ⟨by (with_reducible repeat (first | apply Kd.S_alloc | apply Kd.S_drewN | apply Kd.S_drew)); exact HO_13.out⟩, ⟨zK BK924.out⟩, ⟨zK BK931.out⟩, ⟨zK BK941.out⟩, ⟨zG3 GE924.out GE931.out GE941.out⟩⟩
   rw [if_neg c209] at H
   have c209b0 : decide (5 ≤ t929) = false := decide_eq_false c209
   clear c209
   have H' := Aside0.mk H; clear H
   have hnb218 := NB931_924.out
   have hnc218 := NB924_931.out
   have hnb219 := NB931_941.out
   have hnc219 := NB941_931.out
   obtain ⟨hcz220_0, hcz220_1, hfz220_0, hfz220_1⟩ := zq2 BK931.out
   go_wp2_with (first | ((with_reducible refine gate_callee (f := 39) rfl ?_); refine zD (some 200) Try.func39 #[.agg #[.int .i64 t929, .string t930]] ?_; (with_reducible refine (impl_CountQuads.calls kj109 t929 t930 t964 _ A164.out).mono ?_); rintro e w221 ⟨rfl, hb⟩; refine ⟨_, rfl, ?_⟩; replace HO_13 := Aside0.mk (Kd.S_below (by (with_reducible repeat (first | apply Kd.S_alloc | apply Kd.S_drewN | apply Kd.S_drew)); exact HO_13.out) hb); replace BK924 := zV BK924.out hb; replace BK931 := zV BK931.out hb; replace BK941 := zV BK941.out hb; replace HB := Aside0.mk (below_step (zG3 GE924.out GE931.out GE941.out) hb); (try clear hb); obtain ⟨hcz222_0, hcz222_1, hfz222_0, hfz222_1⟩ := zq2 BK931.out) | (go_at_call 24; (with_reducible refine (spec_IsAcyclic.calls kj109 t929 t930 true _ A207.out).mono ?_); rintro e w223 ⟨rfl, hb⟩; replace HO_13 := Aside0.mk (Kd.S_below (by (with_reducible repeat (first | apply Kd.S_alloc | apply Kd.S_drewN | apply Kd.S_drew)); exact HO_13.out) hb); replace BK924 := zV BK924.out hb; replace BK931 := zV BK931.out hb; replace BK941 := zV BK941.out hb; replace HB := Aside0.mk (below_step (zG3 GE924.out GE931.out GE941.out) hb); (try clear hb); (try clear hb2); (try clear hk); (try clear hi); obtain ⟨hcz224_0, hcz224_1, hfz224_0, hfz224_1⟩ := zq2 BK931.out))
   go_meet
   case rel => exact ⟨_, (false), zF, H', ⟨by have := HJ9.out; have := HJ109.out; first | omega | exact Nat.le_refl _⟩, ⟨by (with_reducible repeat (first | apply Kd.S_alloc | apply Kd.S_drewN | apply Kd.S_drew)); exact HO_13.out⟩, ⟨zK BK924.out⟩, ⟨zK BK931.out⟩, ⟨zK BK941.out⟩, ⟨zG3 GE924.out GE931.out GE941.out⟩⟩
  replace c208 := Bool.eq_false_iff.mpr c208
  subst c208
  replace H := (if_neg zFf).symm.trans H
  have H' := Aside0.mk H; clear H
  have hnb225 := NB931_924.out
  have hnc225 := NB924_931.out
  have hnb226 := NB931_941.out
  have hnc226 := NB941_931.out
  obtain ⟨hcz227_0, hcz227_1, hfz227_0, hfz227_1⟩ := zq2 BK931.out
  go_wp2_with (first | ((with_reducible refine gate_callee (f := 39) rfl ?_); refine zD (some 200) Try.func39 #[.agg #[.int .i64 t929, .string t930]] ?_; (with_reducible refine (impl_CountQuads.calls kj109 t929 t930 t964 _ A164.out).mono ?_); rintro e w228 ⟨rfl, hb⟩; refine ⟨_, rfl, ?_⟩; replace HO_13 := Aside0.mk (Kd.S_below (by (with_reducible repeat (first | apply Kd.S_alloc | apply Kd.S_drewN | apply Kd.S_drew)); exact HO_13.out) hb); replace BK924 := zV BK924.out hb; replace BK931 := zV BK931.out hb; replace BK941 := zV BK941.out hb; replace HB := Aside0.mk (below_step (zG3 GE924.out GE931.out GE941.out) hb); (try clear hb); obtain ⟨hcz229_0, hcz229_1, hfz229_0, hfz229_1⟩ := zq2 BK931.out) | (go_at_call 24; (with_reducible refine (spec_IsAcyclic.calls kj109 t929 t930 false _ A207.out).mono ?_); rintro e w230 ⟨rfl, hb⟩; replace HO_13 := Aside0.mk (Kd.S_below (by (with_reducible repeat (first | apply Kd.S_alloc | apply Kd.S_drewN | apply Kd.S_drew)); exact HO_13.out) hb); replace BK924 := zV BK924.out hb; replace BK931 := zV BK931.out hb; replace BK941 := zV BK941.out hb; replace HB := Aside0.mk (below_step (zG3 GE924.out GE931.out GE941.out) hb); (try clear hb); (try clear hb2); (try clear hk); (try clear hi)))
  go_meet
  case rel => exact ⟨_, (false), zF, H', ⟨by have := HJ9.out; have := HJ109.out; first | omega | exact Nat.le_refl _⟩, ⟨by (with_reducible repeat (first | apply Kd.S_alloc | apply Kd.S_drewN | apply Kd.S_drew)); exact HO_13.out⟩, ⟨zK BK924.out⟩, ⟨zK BK931.out⟩, ⟨zK BK941.out⟩, ⟨zG3 GE924.out GE931.out GE941.out⟩⟩
 case rest => as_aux_lemma =>
 clear HC163
 try clear c3
 try clear c109
 obtain ⟨kq, x222_162, rfl, HA, HJ162, HO_13, BK924, BK931, BK941, HB⟩ := hcut
 cases kq with
 | zero => exact absurd HA.out (by simp [laws_FnQuads.j3])
 | succ kj162 =>
 have H := HA.out
 clear HA
 simp only [laws_FnQuads.j3] at H
 by_cases c231 : x222_162 = true
 ·subst c231
  replace H := (if_pos rfl).symm.trans H
  obtain rfl := Option.some.inj H
  cases hr_
 replace c231 := Bool.eq_false_iff.mpr c231
 subst c231
 replace H := (if_neg zFf).symm.trans H
 have H' := Aside0.mk H; clear H
 go_wp2
 go_loopg [21] kj162 (fun kq v21 w' => ∃ (x21_4 : Int), v21 = .int .i64 x21_4 ∧ Aside0 (laws_FnQuads.l0 kq t932 t937 t938 t939 t940 x21_4 t929 t930 t935 t936 = some r) ∧ Aside0 (kq ≤ kj162) ∧ Aside0 (Kd.S (Kd.slice 3 (Kd.int .i64)) 27 w' w.heap.size (fun _ => True) v933 t932) ∧ Aside0 (w'.heap[gb924]? = some (.cells #[.int .i64 t918, .string t919] 25 (0, 0))) ∧ Aside0 (w'.heap[gb931]? = some (.cells #[.int .i64 t929, .string t930] 25 (0, 0))) ∧ Aside0 (w'.heap[gb941]? = some (.cells #[.int .i64 t935, .string t936] 25 (0, 0))) ∧ Aside0 (Below w.heap.size w w'))
 case atStart => exact ⟨(0), zF, H', ⟨Nat.le_refl _⟩, ⟨by (with_reducible repeat (first | apply Kd.S_alloc | apply Kd.S_drewN | apply Kd.S_drew)); exact HO_13.out⟩, ⟨zK BK924.out⟩, ⟨zK BK931.out⟩, ⟨zK BK941.out⟩, ⟨zG3 GE924.out GE931.out GE941.out⟩⟩
 case round =>
 clear H'
 try clear c3
 try clear c109
 try clear c231
 obtain ⟨x21_4, rfl, HA, HK4, HO_13, BK924, BK931, BK941, HB⟩ := hrel
 cases gk with
 | zero => exact absurd HA.out (by simp [laws_FnQuads.l0])
 | succ k4 =>
 have H := HA.out
 clear HA
 simp only [laws_FnQuads.l0] at H
 by_cases c232 : x21_4 < (t932.length : Int)
 ·rw [if_pos c232] at H
  have c232b0 : decide (x21_4 < (t932.length : Int)) = true := decide_eq_true c232
  clear c232
  by_cases c233 : 0 ≤ x21_4
  ·rw [if_pos c233] at H
   have c233b0 : decide (0 ≤ x21_4) = true := decide_eq_true c233
   clear c233
   by_cases c234 : 0 < ((rd_L6 t932 x21_4).length : Int)
   ·rw [if_pos c234] at H
    have c234b0 : decide (0 < ((rd_L6 t932 x21_4).length : Int)) = true := decide_eq_true c234
    have c234b1 : decide (0 < (rd_L6 t932 x21_4).length) = true := decide_eq_true (by omega)
    clear c234
    by_cases c235 : 1 < ((rd_L6 t932 x21_4).length : Int)
    ·rw [if_pos c235] at H
     have c235b0 : decide (1 < ((rd_L6 t932 x21_4).length : Int)) = true := decide_eq_true c235
     have c235b1 : decide (1 < (rd_L6 t932 x21_4).length) = true := decide_eq_true (by omega)
     clear c235
     by_cases c236 : 2 < ((rd_L6 t932 x21_4).length : Int)
     ·rw [if_pos c236] at H
      have c236b0 : decide (2 < ((rd_L6 t932 x21_4).length : Int)) = true := decide_eq_true c236
      have c236b1 : decide (2 < (rd_L6 t932 x21_4).length) = true := decide_eq_true (by omega)
      clear c236
      by_cases c237 : 3 < ((rd_L6 t932 x21_4).length : Int)
      ·rw [if_pos c237] at H
       have c237b0 : decide (3 < ((rd_L6 t932 x21_4).length : Int)) = true := decide_eq_true c237
       have c237b1 : decide (3 < (rd_L6 t932 x21_4).length) = true := decide_eq_true (by omega)
       clear c237
       obtain ⟨t976, A238, H⟩ := zO H
       by_cases c239 : t976 = (-1)
       ·rw [if_pos c239] at H
        have c239b0 : (t976 == (-1)) = true := beq_iff_eq.mpr c239
        have c239b1 : (t976 != (-1)) = false := bne_eq_false_iff_eq.mpr c239
        clear c239
        have H' := Aside0.mk H; clear H
        obtain ⟨Ao240, co240, eo240⟩ := Kd.S_slice HO_13.out
        subst eo240
        try go_wp2
        replace HO_13 := Aside0.mk (Kd.S_drew HO_13.out)
        replace BK924 := Aside0.mk (blk_drew BK924.out)
        replace BK931 := Aside0.mk (blk_drew BK931.out)
        replace BK941 := Aside0.mk (blk_drew BK941.out)
        replace HB := Aside0.mk (below_drew1 HB.out)
        have p968 : 0 ≤ (x21_4 : Int) := zA
        have q968 : x21_4 < (t932.length : Int) := zA
        obtain ⟨ad968, A968_0, c968_0, e968, hx968_0, hl968_0, hi968_0⟩ := at_L6 (Kd.S_reads' HO_13.out).2.2 x21_4 p968 q968
        cases e968
        obtain ⟨ce968, hce968, hMe968, hcc968⟩ := Kd.S_get HO_13.out [] x21_4 p968 (by first | exact q968 | exact zA | (have e_ := (Kd.S_reads' HO_13.out).1; omega))
        obtain ⟨ve968_0, rfl, ge968_0⟩ := hMe968
        have hv968_0 := hcc968 0 _ rfl
        rw [Nat.add_zero, show ((Kd.slice 3 (Kd.int .i64))).sz = 1 from rfl, Nat.mul_one] at hv968_0
        replace hv968_0 := Option.some.inj (hv968_0.symm.trans hx968_0)
        rw [hv968_0] at ge968_0
        have HL968_0 := Aside0.mk (show Kd.R (Kd.int .i64) 3 _ _ _ _ (rd_L6 t932 x21_4) from ge968_0)
        clear hv968_0 ge968_0
        clear hcc968 hce968
        have HR968_0 := Aside0.mk hi968_0
        have HC968_0 := Aside0.mk hl968_0
        clear hi968_0 hl968_0
        replace p968 := eq_true p968
        replace q968 := eq_true q968
        have p969 : 0 ≤ (0 : Int) := (by omega)
        have q969 : 0 < ((rd_L6 t932 x21_4).length : Int) := zA
        obtain ⟨ad969, e969, hx969_0⟩ := Kd.at_int (by repeat (first | (with_reducible exact HR968_0.out) | (with_reducible refine Kd.C_alloc ?_ _) | (with_reducible refine Kd.C_drewN ?_ _) | (with_reducible refine Kd.C_drew ?_) | exact HR968_0.out)) 0 p969 q969
        cases e969
        have qi969 : (0 < (rd_L6 t932 x21_4).length) = True := eq_true (by omega)
        (try rw [show ((0 : Int)).toNat = 0 from rfl] at hx969_0)
        (try rw [Addr.add_zero'] at hx969_0)
        replace p969 := eq_true p969
        replace q969 := eq_true q969
        have p970 : 0 ≤ (x21_4 : Int) := zA
        have q970 : x21_4 < (t932.length : Int) := zA
        obtain ⟨ad970, A970_0, c970_0, e970, hx970_0, hl970_0, hi970_0⟩ := at_L6 (Kd.S_reads' HO_13.out).2.2 x21_4 p970 q970
        obtain rfl : ad968 = ad970 := (by injection e970)
        obtain ⟨ce970, hce970, hMe970, hcc970⟩ := Kd.S_get HO_13.out [] x21_4 p970 (by first | exact q970 | exact zA | (have e_ := (Kd.S_reads' HO_13.out).1; omega))
        obtain ⟨ve970_0, rfl, ge970_0⟩ := hMe970
        have hv970_0 := hcc970 0 _ rfl
        rw [Nat.add_zero, show ((Kd.slice 3 (Kd.int .i64))).sz = 1 from rfl, Nat.mul_one] at hv970_0
        replace hv970_0 := Option.some.inj (hv970_0.symm.trans hx970_0)
        rw [hv970_0] at ge970_0
        have HL970_0 := Aside0.mk (show Kd.R (Kd.int .i64) 3 _ _ _ _ (rd_L6 t932 x21_4) from ge970_0)
        clear hv970_0 ge970_0
        clear hcc970 hce970
        have HR970_0 := Aside0.mk hi970_0
        have HC970_0 := Aside0.mk hl970_0
        clear hi970_0 hl970_0
        replace p970 := eq_true p970
        replace q970 := eq_true q970
        have ea_ := Option.some.inj (hx968_0.symm.trans hx970_0)
        injection ea_ with ea_ en_ ec_
        subst ea_
        subst ec_
        clear en_
        have p971 : 0 ≤ (1 : Int) := (by omega)
        have q971 : 1 < ((rd_L6 t932 x21_4).length : Int) := zA
        obtain ⟨ad971, e971, hx971_0⟩ := Kd.at_int (by repeat (first | (with_reducible exact HR970_0.out) | (with_reducible refine Kd.C_alloc ?_ _) | (with_reducible refine Kd.C_drewN ?_ _) | (with_reducible refine Kd.C_drew ?_) | exact HR970_0.out)) 1 p971 q971
        cases e971
        (try simp only [show (1 : Int).toNat = 1 from rfl, Nat.reduceMul, Nat.reduceEqDiff, Go.Addr.add, ↓reduceIte] at hx971_0)
        have qi971 : (1 < (rd_L6 t932 x21_4).length) = True := eq_true (by omega)
        (try rw [show ((1 : Int)).toNat = 1 from rfl] at hx971_0)
        replace p971 := eq_true p971
        replace q971 := eq_true q971
        have p972 : 0 ≤ (x21_4 : Int) := zA
        have q972 : x21_4 < (t932.length : Int) := zA
        obtain ⟨ad972, A972_0, c972_0, e972, hx972_0, hl972_0, hi972_0⟩ := at_L6 (Kd.S_reads' HO_13.out).2.2 x21_4 p972 q972
        obtain rfl : ad968 = ad972 := (by injection e972)
        obtain ⟨ce972, hce972, hMe972, hcc972⟩ := Kd.S_get HO_13.out [] x21_4 p972 (by first | exact q972 | exact zA | (have e_ := (Kd.S_reads' HO_13.out).1; omega))
        obtain ⟨ve972_0, rfl, ge972_0⟩ := hMe972
        have hv972_0 := hcc972 0 _ rfl
        rw [Nat.add_zero, show ((Kd.slice 3 (Kd.int .i64))).sz = 1 from rfl, Nat.mul_one] at hv972_0
        replace hv972_0 := Option.some.inj (hv972_0.symm.trans hx972_0)
        rw [hv972_0] at ge972_0
        have HL972_0 := Aside0.mk (show Kd.R (Kd.int .i64) 3 _ _ _ _ (rd_L6 t932 x21_4) from ge972_0)
        clear hv972_0 ge972_0
        clear hcc972 hce972
        have HR972_0 := Aside0.mk hi972_0
        have HC972_0 := Aside0.mk hl972_0
        clear hi972_0 hl972_0
        replace p972 := eq_true p972
        replace q972 := eq_true q972
        have ea_ := Option.some.inj (hx968_0.symm.trans hx972_0)
        injection ea_ with ea_ en_ ec_
        subst ea_
        subst ec_
        clear en_
        have p973 : 0 ≤ (2 : Int) := (by omega)
        have q973 : 2 < ((rd_L6 t932 x21_4).length : Int) := zA
        obtain ⟨ad973, e973, hx973_0⟩ := Kd.at_int (by repeat (first | (with_reducible exact HR972_0.out) | (with_reducible refine Kd.C_alloc ?_ _) | (with_reducible refine Kd.C_drewN ?_ _) | (with_reducible refine Kd.C_drew ?_) | exact HR972_0.out)) 2 p973 q973
        cases e973
        (try simp only [show (2 : Int).toNat = 2 from rfl, Nat.reduceMul, Nat.reduceEqDiff, Go.Addr.add, ↓reduceIte] at hx973_0)
        have qi973 : (2 < (rd_L6 t932 x21_4).length) = True := eq_true (by omega)
        (try rw [show ((2 : Int)).toNat = 2 from rfl] at hx973_0)
        replace p973 := eq_true p973
        replace q973 := eq_true q973
        have p974 : 0 ≤ (x21_4 : Int) := zA
        have q974 : x21_4 < (t932.length : Int) := zA
        obtain ⟨ad974, A974_0, c974_0, e974, hx974_0, hl974_0, hi974_0⟩ := at_L6 (Kd.S_reads' HO_13.out).2.2 x21_4 p974 q974
        obtain rfl : ad968 = ad974 := (by injection e974)
        obtain ⟨ce974, hce974, hMe974, hcc974⟩ := Kd.S_get HO_13.out [] x21_4 p974 (by first | exact q974 | exact zA | (have e_ := (Kd.S_reads' HO_13.out).1; omega))
        obtain ⟨ve974_0, rfl, ge974_0⟩ := hMe974
        have hv974_0 := hcc974 0 _ rfl
        rw [Nat.add_zero, show ((Kd.slice 3 (Kd.int .i64))).sz = 1 from rfl, Nat.mul_one] at hv974_0
        replace hv974_0 := Option.some.inj (hv974_0.symm.trans hx974_0)
        rw [hv974_0] at ge974_0
        have HL974_0 := Aside0.mk (show Kd.R (Kd.int .i64) 3 _ _ _ _ (rd_L6 t932 x21_4) from ge974_0)
        clear hv974_0 ge974_0
        clear hcc974 hce974
        have HR974_0 := Aside0.mk hi974_0
        have HC974_0 := Aside0.mk hl974_0
        clear hi974_0 hl974_0
        replace p974 := eq_true p974
        replace q974 := eq_true q974
        have ea_ := Option.some.inj (hx968_0.symm.trans hx974_0)
        injection ea_ with ea_ en_ ec_
        subst ea_
        subst ec_
        clear en_
        have p975 : 0 ≤ (3 : Int) := (by omega)
        have q975 : 3 < ((rd_L6 t932 x21_4).length : Int) := zA
        obtain ⟨ad975, e975, hx975_0⟩ := Kd.at_int (by repeat (first | (with_reducible exact HR974_0.out) | (with_reducible refine Kd.C_alloc ?_ _) | (with_reducible refine Kd.C_drewN ?_ _) | (with_reducible refine Kd.C_drew ?_) | exact HR974_0.out)) 3 p975 q975
        cases e975
        (try simp only [show (3 : Int).toNat = 3 from rfl, Nat.reduceMul, Nat.reduceEqDiff, Go.Addr.add, ↓reduceIte] at hx975_0)
        have qi975 : (3 < (rd_L6 t932 x21_4).length) = True := eq_true (by omega)
        (try rw [show ((3 : Int)).toNat = 3 from rfl] at hx975_0)
        replace p975 := eq_true p975
        replace q975 := eq_true q975
        refine start_ (n := 27) (S := fun w' => w'.cell? ⟨gb931, 0, none⟩ = some (.int .i64 t929) ∧ w'.cell? ⟨gb931, 1, none⟩ = some (.string t930) ∧ w'.cell? (ad968.add (x21_4).toNat) = some (.slice (some ad969) (rd_L6 t932 x21_4).length c968_0) ∧ w'.cell? ad969 = some (.int .i64 (rd (rd_L6 t932 x21_4) 0)) ∧ w'.cell? (ad968.add (x21_4).toNat) = some (.slice (some ad969) (rd_L6 t932 x21_4).length c968_0) ∧ w'.cell? ⟨ad969.block, ad969.off + 1, none⟩ = some (.int .i64 (rd (rd_L6 t932 x21_4) 1)) ∧ w'.cell? (ad968.add (x21_4).toNat) = some (.slice (some ad969) (rd_L6 t932 x21_4).length c968_0) ∧ w'.cell? ⟨ad969.block, ad969.off + 2, none⟩ = some (.int .i64 (rd (rd_L6 t932 x21_4) 2)) ∧ w'.cell? (ad968.add (x21_4).toNat) = some (.slice (some ad969) (rd_L6 t932 x21_4).length c968_0) ∧ w'.cell? ⟨ad969.block, ad969.off + 3, none⟩ = some (.int .i64 (rd (rd_L6 t932 x21_4) 3))) (ds := []) #[false, false, false, false, false, false, false, false, false, false, false, false, false, false, false, false, false, false, false, false, false, false, false, false, false, false, false] (by kernel_rfl) rfl rfl ⟨(blk_cell BK931.out 0).trans rfl, (blk_cell BK931.out 1).trans rfl, hx968_0, hx969_0, hx970_0, hx971_0, hx972_0, hx973_0, hx974_0, hx975_0⟩ (fun hHeld => ?_); refine with_tabW laws_FnQuads.tab22 laws_FnQuads.bits22 (fun HT_ HW_ => ?_)
        generalize wr.drew = w241 at HO_13 BK924 BK931 BK941 HB HL968_0 HL970_0 HL972_0 HL974_0 HR968_0 HR970_0 HR972_0 HR974_0 hx968_0 hx969_0 hx970_0 hx971_0 hx972_0 hx973_0 hx974_0 hx975_0 hHeld ⊢
        refine zP 1 (some 230) rfl rfl ?_
        refine zP 2 (some 231) rfl rfl ?_
        refine zP 3 (some 232) rfl rfl ?_
        refine zP 7 (some 236) rfl rfl ?_
        refine zP 8 (some 237) rfl rfl ?_
        refine zP 9 (some 238) rfl rfl ?_
        refine zP 13 (some 242) rfl rfl ?_
        refine zP 14 (some 243) rfl rfl ?_
        refine zP 15 (some 244) rfl rfl ?_
        refine zP 19 (some 248) rfl rfl ?_
        refine zP 20 (some 249) rfl rfl ?_
        refine zP 21 (some 250) rfl rfl ?_
        refine zY10 0 (some 229) rfl rfl hHeld ?_
        refine zY10 4 (some 233) rfl rfl hHeld ?_
        refine zP 5 (some 234) rfl rfl ?_
        refine zY10 6 (some 235) rfl rfl hHeld ?_
        refine zY10 10 (some 239) rfl rfl hHeld ?_
        refine zP 11 (some 240) rfl rfl ?_
        refine zY10 12 (some 241) rfl rfl hHeld ?_
        refine zY10 16 (some 245) rfl rfl hHeld ?_
        refine zP 17 (some 246) rfl rfl ?_
        refine zY10 18 (some 247) rfl rfl hHeld ?_
        refine zY10 22 (some 251) rfl rfl hHeld ?_
        refine zP 23 (some 252) rfl rfl ?_
        refine zY10 24 (some 253) rfl rfl hHeld ?_
        refine zU 25 (some 254) rfl rfl (fun K hK => ?_)
        refine goes_ Try.func35 (by kernel_rfl) rfl #[.agg #[.int .i64 t929, .string t930], .int .i64 (rd (rd_L6 t932 x21_4) 0), .int .i64 (rd (rd_L6 t932 x21_4) 1), .int .i64 (rd (rd_L6 t932 x21_4) 2), .int .i64 (rd (rd_L6 t932 x21_4) 3)] (by rfl) rfl rfl zM ?_
        with_reducible refine (impl_InnerOf.calls k4 t929 t930 (rd (rd_L6 t932 x21_4) 0) (rd (rd_L6 t932 x21_4) 1) (rd (rd_L6 t932 x21_4) 2) (rd (rd_L6 t932 x21_4) 3) t976 _ A238.out).mono ?_
        rintro e w242 ⟨rfl, hb⟩
        have HS2_ := (hb.cell (World.block_lt_of_cell? _ _ (hHeld.2.2.1))).trans (hHeld.2.2.1)
        have HS3_ := (hb.cell (World.block_lt_of_cell? _ _ (hHeld.2.2.2.1))).trans (hHeld.2.2.2.1)
        have HS4_ := (hb.cell (World.block_lt_of_cell? _ _ (hHeld.2.2.2.2.1))).trans (hHeld.2.2.2.2.1)
        have HS5_ := (hb.cell (World.block_lt_of_cell? _ _ (hHeld.2.2.2.2.2.1))).trans (hHeld.2.2.2.2.2.1)
        have HS6_ := (hb.cell (World.block_lt_of_cell? _ _ (hHeld.2.2.2.2.2.2.1))).trans (hHeld.2.2.2.2.2.2.1)
        have HS7_ := (hb.cell (World.block_lt_of_cell? _ _ (hHeld.2.2.2.2.2.2.2.1))).trans (hHeld.2.2.2.2.2.2.2.1)
        have HS8_ := (hb.cell (World.block_lt_of_cell? _ _ (hHeld.2.2.2.2.2.2.2.2.1))).trans (hHeld.2.2.2.2.2.2.2.2.1)
        have HS9_ := (hb.cell (World.block_lt_of_cell? _ _ (hHeld.2.2.2.2.2.2.2.2.2))).trans (hHeld.2.2.2.2.2.2.2.2.2)
        refine ⟨_, rfl, ?_⟩
        replace HO_13 := Aside0.mk (Kd.S_below (by (with_reducible repeat (first | apply Kd.S_alloc | apply Kd.S_drewN | apply Kd.S_drew)); exact HO_13.out) hb)
        replace HL968_0 := zW HL968_0.out hb
        replace HL970_0 := zW HL970_0.out hb
        replace HL972_0 := zW HL972_0.out hb
        replace HL974_0 := zW HL974_0.out hb
        replace BK924 := zV BK924.out hb
        replace BK931 := zV BK931.out hb
        replace BK941 := zV BK941.out hb
        replace HR968_0 := Aside0.mk (Kd.C_below (by repeat (first | (with_reducible exact HR968_0.out) | (with_reducible refine Kd.C_alloc ?_ _) | (with_reducible refine Kd.C_drewN ?_ _) | (with_reducible refine Kd.C_drew ?_) | exact HR968_0.out)) hb)
        replace HR970_0 := Aside0.mk (Kd.C_below (by repeat (first | (with_reducible exact HR970_0.out) | (with_reducible refine Kd.C_alloc ?_ _) | (with_reducible refine Kd.C_drewN ?_ _) | (with_reducible refine Kd.C_drew ?_) | exact HR970_0.out)) hb)
        replace HR972_0 := Aside0.mk (Kd.C_below (by repeat (first | (with_reducible exact HR972_0.out) | (with_reducible refine Kd.C_alloc ?_ _) | (with_reducible refine Kd.C_drewN ?_ _) | (with_reducible refine Kd.C_drew ?_) | exact HR972_0.out)) hb)
        replace HR974_0 := Aside0.mk (Kd.C_below (by repeat (first | (with_reducible exact HR974_0.out) | (with_reducible refine Kd.C_alloc ?_ _) | (with_reducible refine Kd.C_drewN ?_ _) | (with_reducible refine Kd.C_drew ?_) | exact HR974_0.out)) hb)
        replace HB := Aside0.mk (below_step (zG3 GE924.out GE931.out GE941.out) hb)
        (try clear hb)
        refine hK.out _ _ ⟨(blk_cell BK931.out 0).trans rfl, (blk_cell BK931.out 1).trans rfl, HS2_, HS3_, HS4_, HS5_, HS6_, HS7_, HS8_, HS9_⟩ (fun hHeld => ?_)
        clear hK K
        refine zN ?_
        refine zP 26 (some 255) rfl rfl ?_
        refine done_ (done_of HT_.out (by kernel_rfl)) ?_
        try go_wp2
        go_roundg k4
        case measure => have := HJ9.out; have := HJ109.out; have := HJ162.out; have := HK4.out; omega
        case rel => exact ⟨(wrap64 (x21_4 + 1)), zF, H', ⟨by have := HJ9.out; have := HJ109.out; have := HJ162.out; have := HK4.out; omega⟩, ⟨by (with_reducible repeat (first | apply Kd.S_alloc | apply Kd.S_drewN | apply Kd.S_drew)); exact HO_13.out⟩, ⟨zK BK924.out⟩, ⟨zK BK931.out⟩, ⟨zK BK941.out⟩, ⟨zG3 GE924.out GE931.out GE941.out⟩⟩
       rw [if_neg c239] at H
       have c239b0 : (t976 == (-1)) = false := beq_eq_false_iff_ne.mpr c239
       have c239b1 : (t976 != (-1)) = true := bne_iff_ne.mpr c239
       obtain rfl := Option.some.inj H
       cases hr_
      rw [if_neg c237] at H
      exact absurd H (by simp)
     rw [if_neg c236] at H
     exact absurd H (by simp)
    rw [if_neg c235] at H
    exact absurd H (by simp)
   rw [if_neg c234] at H
   exact absurd H (by simp)
  rw [if_neg c233] at H
  exact absurd H (by simp)
 rw [if_neg c232] at H
 have c232b0 : decide (x21_4 < (t932.length : Int)) = false := decide_eq_false c232
 clear c232
 obtain ⟨t977, A246, H⟩ := zO H
 by_cases c247 : t977 = true
 ·subst c247
  replace H := (if_pos rfl).symm.trans H
  obtain ⟨t978, A248, H⟩ := zO H
  by_cases c249 : t978 = true
  ·subst c249
   replace H := (if_pos rfl).symm.trans H
   obtain rfl := Option.some.inj H
   cases hr_
  replace c249 := Bool.eq_false_iff.mpr c249
  subst c249
  replace H := (if_neg zFf).symm.trans H
  obtain ⟨t979, A257, H⟩ := zO H
  obtain rfl := Option.some.inj H
  obtain ⟨Ao258, co258, eo258⟩ := Kd.S_slice HO_13.out
  subst eo258
  have hnb259 := NB941_924.out
  have hnc259 := NB924_941.out
  have hnb260 := NB941_931.out
  have hnc260 := NB931_941.out
  obtain ⟨hcz261_0, hcz261_1, hfz261_0, hfz261_1⟩ := zq2 BK941.out
  go_wp2_with (first | ((with_reducible refine gate_callee (f := 41) rfl ?_); refine zD (some 261) Try.func41 #[.agg #[.int .i64 t935, .string t936], .int .i64 t937, .int .i64 t938, .int .i64 t939, .int .i64 t940] ?_; (with_reducible refine (impl_IsInside.calls k4 t935 t936 t937 t938 t939 t940 true _ A246.out).mono ?_); rintro e w262 ⟨rfl, hb⟩; refine ⟨_, rfl, ?_⟩; replace HO_13 := Aside0.mk (Kd.S_below (by (with_reducible repeat (first | apply Kd.S_alloc | apply Kd.S_drewN | apply Kd.S_drew)); exact HO_13.out) hb); replace BK924 := zV BK924.out hb; replace BK931 := zV BK931.out hb; replace BK941 := zV BK941.out hb; replace HB := Aside0.mk (below_step (zG3 GE924.out GE931.out GE941.out) hb); (try clear hb); obtain ⟨hcz263_0, hcz263_1, hfz263_0, hfz263_1⟩ := zq2 BK941.out) | (go_at_call 41; (with_reducible refine (impl_IsInside.calls k4 t935 t936 t938 t937 t939 t940 false _ A248.out).mono ?_); rintro e w264 ⟨rfl, hb⟩; replace HO_13 := Aside0.mk (Kd.S_below (by (with_reducible repeat (first | apply Kd.S_alloc | apply Kd.S_drewN | apply Kd.S_drew)); exact HO_13.out) hb); replace BK924 := zV BK924.out hb; replace BK931 := zV BK931.out hb; replace BK941 := zV BK941.out hb; replace HB := Aside0.mk (below_step (zG3 GE924.out GE931.out GE941.out) hb); (try clear hb); (try clear hb2); (try clear hk); (try clear hi); obtain ⟨hcz265_0, hcz265_1, hfz265_0, hfz265_1⟩ := zq2 BK941.out) | (go_at_call 43; (with_reducible refine (impl_CountInside.calls k4 t935 t936 t938 t939 t940 t979 _ A257.out).mono ?_); rintro e w266 ⟨rfl, hb⟩; replace HO_13 := Aside0.mk (Kd.S_below (by (with_reducible repeat (first | apply Kd.S_alloc | apply Kd.S_drewN | apply Kd.S_drew)); exact HO_13.out) hb); replace BK924 := zV BK924.out hb; replace BK931 := zV BK931.out hb; replace BK941 := zV BK941.out hb; replace HB := Aside0.mk (below_step (zG3 GE924.out GE931.out GE941.out) hb); (try clear hb); (try clear hb2); (try clear hk); (try clear hi)))
  go_ret
  exact ⟨zE, zG3 GE924.out GE931.out GE941.out⟩
 replace c247 := Bool.eq_false_iff.mpr c247
 subst c247
 replace H := (if_neg zFf).symm.trans H
 obtain rfl := Option.some.inj H
 obtain ⟨Ao267, co267, eo267⟩ := Kd.S_slice HO_13.out
 subst eo267
 have hnb268 := NB941_924.out
 have hnc268 := NB924_941.out
 have hnb269 := NB941_931.out
 have hnc269 := NB931_941.out
 obtain ⟨hcz270_0, hcz270_1, hfz270_0, hfz270_1⟩ := zq2 BK941.out
 go_wp2_with (first | ((with_reducible refine gate_callee (f := 41) rfl ?_); refine zD (some 261) Try.func41 #[.agg #[.int .i64 t935, .string t936], .int .i64 t937, .int .i64 t938, .int .i64 t939, .int .i64 t940] ?_; (with_reducible refine (impl_IsInside.calls k4 t935 t936 t937 t938 t939 t940 false _ A246.out).mono ?_); rintro e w271 ⟨rfl, hb⟩; refine ⟨_, rfl, ?_⟩; replace HO_13 := Aside0.mk (Kd.S_below (by (with_reducible repeat (first | apply Kd.S_alloc | apply Kd.S_drewN | apply Kd.S_drew)); exact HO_13.out) hb); replace BK924 := zV BK924.out hb; replace BK931 := zV BK931.out hb; replace BK941 := zV BK941.out hb; replace HB := Aside0.mk (below_step (zG3 GE924.out GE931.out GE941.out) hb); (try clear hb)))
 go_ret
 exact ⟨zE, zG3 GE924.out GE931.out GE941.out⟩
end Go.Proofs.Ytckkfjdkaimmhaa.PX
namespace Go.Proofs.Ytckkfjdkaimmhaa.M
open Go.RowKit Go.Proofs.YtckkfjdkaimmhaaW.PrintWords Go.Proofs.Ytckkfjdkaimmhaa.PX
def inR (n a : Int) : Bool := decide (0 ≤ a) && decide (a < n)
theorem isElement_f (n a : Int) : impl_isElement.f n a = some (inR n a) := by
  unfold impl_isElement.f inR
  by_cases h : a ≥ 0
  · rw [if_pos h, decide_eq_true (show (0 : Int) ≤ a from h), Bool.true_and]
  · rw [if_neg h, decide_eq_false (show ¬ (0 : Int) ≤ a from h), Bool.false_and]
theorem index_loop (l : List Int) (a : Int) (hl : l.length ≤ 9223372036854775807) (d : Nat) : ∀ i : Nat, i + d = l.length →
    ∃ r, Ev (fun k => slices_Index_int_int.l0 k l a (l.length : Int) (i : Int)) r ∧ decide (r ≥ 0) = (l.drop i).contains a := by
  induction d with
  | zero =>
    intro i hi
    refine ⟨-1, ev_step ?_, ?_⟩
    · simp only [slices_Index_int_int.l0]
      exact ev_neg (by omega) (Ev.now _)
    · rw [List.drop_of_length_le (by omega)]; rfl
  | succ d ih =>
    intro i hi
    have hlt : i < l.length := by omega
    have hr : rd l (i : Int) = l[i] := by
      unfold rd
      rw [Int.toNat_natCast, List.getD_eq_getElem?_getD, List.getElem?_eq_getElem hlt]; rfl
    rw [List.drop_eq_getElem_cons hlt]
    by_cases h : a = l[i]
    · refine ⟨i, ev_step ?_, ?_⟩
      · simp only [slices_Index_int_int.l0, hr]
        exact ev_pos (by omega) (ev_pos (by omega) (ev_pos (by omega) (ev_pos h (Ev.now _))))
      · subst h
        rw [List.contains_cons, beq_self_eq_true, Bool.true_or]
        exact decide_eq_true (by omega)
    · obtain ⟨r, h1, h2⟩ := ih (i + 1) (by omega)
      refine ⟨r, ev_step ?_, ?_⟩
      · simp only [slices_Index_int_int.l0, hr]
        refine ev_pos (by omega) (ev_pos (by omega) (ev_pos (by omega) (ev_neg h ?_)))
        rw [wrap_id (by omega) (by omega)]
        exact h1
      · rw [h2, List.contains_cons, beq_eq_false_iff_ne.2 h, Bool.false_or]
theorem contains_ev (l : List Int) (a : Int) (hl : l.length ≤ 9223372036854775807) : Ev (fun k => slices_Contains_int_int.f k l a) (l.contains a) := by
  obtain ⟨r, h1, h2⟩ := index_loop l a hl l.length 0 (by omega)
  unfold slices_Contains_int_int.f
  refine Ev.bind h1 ?_
  rw [h2, List.drop_zero]
  exact Ev.now _
def areD (n : Int) (l : List Int) : Bool := (List.range l.length).all fun i => inR n (l.getD i 0) && !((l.take i).contains (l.getD i 0))
theorem diff_loop (n : Int) (l : List Int) (hl : l.length ≤ 9223372036854775807) (d : Nat) : ∀ i : Nat, i + d = l.length →
    Ev (fun k => impl_areDifferent.l0 k n l l (l.length : Int) (i : Int)) ((List.range' i d).all fun i => inR n (l.getD i 0) && !((l.take i).contains (l.getD i 0))) := by
  induction d with
  | zero =>
    intro i hi
    refine ev_step ?_
    simp only [impl_areDifferent.l0]
    exact ev_neg (by omega) (Ev.now _)
  | succ d ih =>
    intro i hi
    have hr : rd l (i : Int) = l.getD i 0 := by unfold rd; rw [Int.toNat_natCast]
    rw [List.range'_succ, List.all_cons]
    refine ev_step ?_
    simp only [impl_areDifferent.l0, hr, Int.toNat_natCast]
    refine ev_pos (by omega) (ev_pos (by omega) (ev_pos (by omega) (ev_call (isElement_f n _) ?_)))
    cases h1 : inR n (l.getD i 0) with
    | false => exact ev_neg (by simp) (Ev.now _)
    | true =>
      refine ev_pos (by trivial) (ev_pos (by omega) (Ev.bind (contains_ev _ _ (by rw [List.length_take]; omega)) ?_))
      cases h2 : (l.take i).contains (l.getD i 0) with
      | true => exact ev_pos (by trivial) (Ev.now _)
      | false =>
        refine ev_neg (by simp) ?_
        rw [wrap_id (by omega) (by omega)]
        simp only [Bool.not_false, Bool.and_self, Bool.true_and]
        exact ih (i + 1) (by omega)
theorem different_ev (n : Int) (l : List Int) (hl : l.length ≤ 9223372036854775807) : Ev (fun k => impl_areDifferent.f k n l) (areD n l) := by
  unfold impl_areDifferent.f areD
  rw [List.range_eq_range']
  exact diff_loop n l hl l.length 0 (by omega)
theorem areD_3 (n a b c : Int) : areD n [a, b, c] = true ↔ (0 ≤ a ∧ a < n) ∧ (0 ≤ b ∧ b < n) ∧ (0 ≤ c ∧ c < n) ∧ a ≠ b ∧ b ≠ c ∧ a ≠ c := by
  have e : areD n [a, b, c] = ((inR n a && !(([] : List Int).contains a)) && ((inR n b && !([a].contains b)) && ((inR n c && !([a, b].contains c)) && true))) := rfl
  rw [e]
  simp only [inR, Bool.and_eq_true, decide_eq_true_eq, List.contains_cons, List.contains_nil, Bool.not_eq_true', Bool.or_eq_false_iff, beq_eq_false_iff_ne, ne_eq, and_true, Bool.or_false]
  constructor <;> intro h <;> omega
end Go.Proofs.Ytckkfjdkaimmhaa.M
namespace Go.Proofs.Ytckkfjdkaimmhaa.PX
open Go.RowKit Go.Proofs.Ytckkfjdkaimmhaa.G Go.Proofs.YtckkfjdkaimmhaaW.PrintWords Go.Proofs.YtckkfjdkaimmhaaW.PrintLast Go.Proofs.YtckkfjdkaimmhaaW.PrintMore
attribute [local go_sem] max2_int min2_int max_two min_two max_three min_three max_four min_four   -- for this text's walks alone
set_option linter.unusedVariables false
set_option linter.unusedSimpArgs false
/-! ### spec_SignAt: function 97 -/
/-! ### impl_CircuitOf: function 18 -/
/-! ### spec_CircuitOf: function 19 -/
end Go.Proofs.Ytckkfjdkaimmhaa.PX
namespace Go.Proofs.Ytckkfjdkaimmhaa.M
open Go.RowKit Go.Proofs.YtckkfjdkaimmhaaW.PrintWords Go.Proofs.Ytckkfjdkaimmhaa.PX Go.Proofs.Ytckkfjdkaimmhaa.G
theorem areD_4 (n a b c d : Int) : areD n [a, b, c, d] = true ↔ ((0 ≤ a ∧ a < n) ∧ (0 ≤ b ∧ b < n) ∧ (0 ≤ c ∧ c < n) ∧ (0 ≤ d ∧ d < n)) ∧ a ≠ b ∧ a ≠ c ∧ a ≠ d ∧ b ≠ c ∧ b ≠ d ∧ c ≠ d := by
  have e : areD n [a, b, c, d] = ((inR n a && !(([] : List Int).contains a)) && ((inR n b && !([a].contains b)) && ((inR n c && !([a, b].contains c)) && ((inR n d && !([a, b, c].contains d)) && true)))) := rfl
  rw [e]
  simp only [inR, Bool.and_eq_true, decide_eq_true_eq, List.contains_cons, List.contains_nil, Bool.not_eq_true', Bool.or_eq_false_iff, beq_eq_false_iff_ne, ne_eq, and_true, Bool.or_false]
  constructor <;> intro h <;> omega
def sB (x : Int) : UInt8 := if x > 0 then 43 else 45
def circT (A B C D : Int) : ByteArray := ⟨#[43, sB (-A * B), sB (A * C), sB (-A * D)]⟩
def pm : List Int := [1, -1]
def circChk : Bool := pm.all fun A => pm.all fun B => pm.all fun C => pm.all fun D => decide (impl_chi_circuit.l0 20 ([] : List Int) [A, wrap64 (-B), C, wrap64 (-D)] 4 0 = some (circT A B C D))
theorem circChk_ok : circChk = true := by decide +kernel
theorem pm_mem {x : Int} (h : x = 1 ∨ x = -1) : x ∈ pm := by rcases h with h | h <;> rw [h] <;> decide
theorem circ_loop {A B C D : Int} (hA : A = 1 ∨ A = -1) (hB : B = 1 ∨ B = -1) (hC : C = 1 ∨ C = -1) (hD : D = 1 ∨ D = -1) : Ev (fun k => impl_chi_circuit.l0 k ([] : List Int) [A, wrap64 (-B), C, wrap64 (-D)] 4 0) (circT A B C D) := by
  have h := circChk_ok
  have h := List.all_eq_true.1 h A (pm_mem hA)
  have h := List.all_eq_true.1 h B (pm_mem hB)
  have h := List.all_eq_true.1 h C (pm_mem hC)
  have h := List.all_eq_true.1 h D (pm_mem hD)
  exact Ev.of (fun k => impl_chi_circuit.mono_l k _ _ _ _) (of_decide_eq_true h)
theorem chi_circuit_ev {n : Nat} {t : ByteArray} (h : areOk n t = true) {a b c d : Nat} (ha : a < n) (hb : b < n) (hc : c < n) (hd : d < n) (e1 : a ≠ b) (e2 : a ≠ c) (e3 : a ≠ d) (e4 : b ≠ c) (e5 : b ≠ d) (e6 : c ≠ d) :
    Ev (fun k => impl_chi_circuit.f k (tblL n t) (a : Int) (b : Int) (c : Int) (d : Int)) (circT (chi n t b c d) (chi n t a c d) (chi n t a b d) (chi n t a b c)) := by
  obtain ⟨⟨h0, h1⟩, _, _⟩ := (areOk_iff _ _).1 h
  have h0 : 3 ≤ n := by omega
  have h1 : n ≤ 7 := by omega
  unfold impl_chi_circuit.f
  refine ev_pos (by omega) (ev_pos (by omega) (ev_pos (by omega) (ev_pos (by omega) (ev_pos (by omega) (ev_pos (by omega) (ev_pos (by omega) (ev_pos (by omega) ?_)))))))
  rw [tbl_rd n t b c d (by omega) (by omega) (by omega), tbl_rd n t a c d (by omega) (by omega) (by omega), tbl_rd n t a b d (by omega) (by omega) (by omega), tbl_rd n t a b c (by omega) (by omega) (by omega)]
  exact ev_call rfl (circ_loop (chi_pm t h0 h1 hb hc hd e4 e6 e5) (chi_pm t h0 h1 ha hc hd e2 e6 e3) (chi_pm t h0 h1 ha hb hd e1 e5 e3) (chi_pm t h0 h1 ha hb hc e1 e4 e2))
theorem byte_f {x : Int} : ∃ v : ByteArray, spec_l3Byte.f x = some v ∧ v = ⟨#[sB x]⟩ := by
  unfold spec_l3Byte.f sB
  split
  · exact ⟨_, rfl, rfl⟩
  · exact ⟨_, rfl, rfl⟩
theorem l3Byte_ev (x : Int) : spec_l3Byte.f x = some ⟨#[sB x]⟩ := by
  obtain ⟨v, h, e⟩ := byte_f (x := x)
  rw [h, e]
theorem spec_circ4 {n : Nat} {t : ByteArray} (h : areOk n t = true) {a b c d : Nat} (ha : a < n) (hb : b < n) (hc : c < n) (hd : d < n) (e1 : a ≠ b) (e2 : a ≠ c) (e3 : a ≠ d) (e4 : b ≠ c) (e5 : b ≠ d) (e6 : c ≠ d) :
    Ev (fun k => spec_l4Circuit.f k (n : Int) t (a : Int) (b : Int) (c : Int) (d : Int)) (circT (chi n t b c d) (chi n t a c d) (chi n t a b d) (chi n t a b c)) := by
  obtain ⟨⟨h0, h1⟩, _, _⟩ := (areOk_iff _ _).1 h
  have h0 : 3 ≤ n := by omega
  have h1 : n ≤ 7 := by omega
  unfold spec_l4Circuit.f
  refine Ev.bind (l3At_ev h hb hc hd e4 e6 e5) (Ev.bind (l3At_ev h ha hc hd e2 e6 e3) (ev_call (l3Byte_ev _) (ev_pos (by show (1 : Nat) + 1 ≤ 9223372036854775807; omega) ?_)))
  refine Ev.bind (l3At_ev h ha hb hd e1 e5 e3) (ev_call (l3Byte_ev _) (ev_pos (by show (1 : Nat) + 1 + 1 ≤ 9223372036854775807; omega) ?_))
  refine Ev.bind (l3At_ev h ha hb hc e1 e4 e2) (ev_call (l3Byte_ev _) (ev_pos (by show (1 : Nat) + 1 + 1 + 1 ≤ 9223372036854775807; omega) (ev_cast (Ev.now _) ?_)))
  rcases chi_pm t h0 h1 hb hc hd e4 e6 e5 with A | A <;> rcases chi_pm t h0 h1 ha hc hd e2 e6 e3 with B | B <;> rcases chi_pm t h0 h1 ha hb hd e1 e5 e3 with C | C <;> rcases chi_pm t h0 h1 ha hb hc e1 e4 e2 with D | D <;> rw [A, B, C, D] <;> decide +kernel
end Go.Proofs.Ytckkfjdkaimmhaa.M
namespace Go.Proofs.Ytckkfjdkaimmhaa.M
open Go.RowKit Go.Proofs.YtckkfjdkaimmhaaW.PrintWords
section
variable {σ τ ρ α β : Type}
def Goes (z : Except ρ σ) (K : σ → Nat → Option ρ) (g : Nat → Option ρ) : Prop :=
  match z with
  | .error v => Ev g v
  | .ok s => ∀ r, Ev (K s) r → Ev g r
variable {z : Except ρ σ} {K : σ → Nat → Option ρ}
theorem Goes.ok (s : σ) : Goes (.ok s) K (K s) := fun _ h => h
theorem Goes.error {g : Nat → Option ρ} {v : ρ} (h : Ev g v) : Goes (.error v) K g := h
theorem Goes.ret (v : ρ) : Goes (.error v) K (fun _ => some v) := Ev.now v
theorem Goes.map {g g' : Nat → Option ρ} (hg : ∀ r, Ev g' r → Ev g r) (h : Goes z K g') : Goes z K g := by
  cases z with
  | error v => exact hg _ h
  | ok s => exact fun r hr => hg _ (h r hr)
theorem Goes.step {g : Nat → Option ρ} (h : Goes z K (fun k => g (k + 1))) : Goes z K g := Goes.map (fun _ => ev_step) h
theorem Goes.pos {c : Prop} [Decidable c] {a b : Nat → Option ρ} (hc : c) (h : Goes z K a) : Goes z K (fun k => if c then a k else b k) := Goes.map (fun _ => ev_pos hc) h
theorem Goes.neg {c : Prop} [Decidable c] {a b : Nat → Option ρ} (hc : ¬ c) (h : Goes z K b) : Goes z K (fun k => if c then a k else b k) := Goes.map (fun _ => ev_neg hc) h
theorem Goes.call {x : Option α} {a : α} {f : Nat → α → Option ρ} (hx : x = some a) (h : Goes z K (fun k => f k a)) : Goes z K (fun k => x.bind (f k)) := Goes.map (fun _ => ev_call hx) h
theorem Goes.ev {x : Nat → Option α} {a : α} {f : Nat → α → Option ρ} (hx : Ev x a) (h : Goes z K (fun k => f k a)) : Goes z K (fun k => (x k).bind (f k)) := Goes.map (fun _ => Ev.bind hx) h
theorem Goes.bind {y : Except ρ τ} {f : τ → Except ρ σ} {K' : τ → Nat → Option ρ} {g : Nat → Option ρ} (h : Goes y K' g) (h' : ∀ s, Goes (f s) K (K' s)) : Goes (y >>= f) K g := by
  cases y with
  | error v => exact h
  | ok s => exact Goes.map (h ·) (h' s)
theorem Goes.cast {z' : Except ρ σ} {g : Nat → Option ρ} (h : Goes z K g) (e : z = z') : Goes z' K g := e ▸ h
theorem Goes.out {g : Nat → Option ρ} {r : ρ} (h : Goes z K g) (he : ∀ v, z = .error v → v = r) (ho : ∀ s, z = .ok s → Ev (K s) r) : Ev g r := by
  cases z with
  | error v => exact he v rfl ▸ h
  | ok s => exact h r (ho s rfl)
theorem loop_up {lo n : Nat} {L : Int → σ → Nat → Option ρ} (dec : σ → Nat → Except ρ σ) (hf : ∀ s, Goes (.ok s) K (L (n : Int) s))
    (hb : ∀ i, lo ≤ i → i < n → ∀ s, Goes (dec s i) (fun s => L ((i + 1 : Nat) : Int) s) (L (i : Int) s)) (hlo : lo ≤ n) (s : σ) : Goes ((List.range' lo (n - lo)).foldlM dec s) K (L (lo : Int) s) := by
  have key : ∀ d i, lo ≤ i → i + d = n → ∀ s, Goes ((List.range' i d).foldlM dec s) K (L (i : Int) s) := by
    intro d
    induction d with
    | zero =>
      intro i _ hi s
      obtain rfl : i = n := by omega
      exact hf s
    | succ d ih =>
      intro i hl hi s
      rw [List.range'_succ, List.foldlM_cons]
      exact Goes.bind (hb i hl (by omega) s) (fun s => ih (i + 1) (by omega) (by omega) s)
  exact key (n - lo) lo (Nat.le_refl _) (by omega) s
theorem loop_up' {lo n : Nat} {L : Int → σ → Nat → Option ρ} (I : Nat → σ → Prop) (dec : σ → Nat → Except ρ σ) (hf : ∀ s, I n s → Goes (.ok s) K (L (n : Int) s))
    (hb : ∀ i, lo ≤ i → i < n → ∀ s, I i s → Goes (dec s i) (fun s => L ((i + 1 : Nat) : Int) s) (L (i : Int) s)) (hi : ∀ i, lo ≤ i → i < n → ∀ s, I i s → ∀ s', dec s i = .ok s' → I (i + 1) s') (hlo : lo ≤ n) (s : σ) (hs : I lo s) :
    Goes ((List.range' lo (n - lo)).foldlM dec s) K (L (lo : Int) s) := by
  have key : ∀ d i, lo ≤ i → i + d = n → ∀ s, I i s → Goes ((List.range' i d).foldlM dec s) K (L (i : Int) s) := by
    intro d
    induction d with
    | zero =>
      intro i _ hid s hs
      obtain rfl : i = n := by omega
      exact hf s hs
    | succ d ih =>
      intro i hl hid s hs
      rw [List.range'_succ, List.foldlM_cons]
      have h := hb i hl (by omega) s hs
      have h' := hi i hl (by omega) s hs
      cases hd : dec s i with
      | error v => rw [hd] at h; exact h
      | ok s' =>
        rw [hd] at h
        exact Goes.map (h ·) (ih (i + 1) (by omega) (by omega) s' (h' s' hd))
  exact key (n - lo) lo (Nat.le_refl _) (by omega) s hs
theorem foldlM_flatMap (f : α → List β) (g : σ → β → Except ρ σ) (l : List α) : ∀ s, (l.flatMap f).foldlM g s = l.foldlM (fun s a => (f a).foldlM g s) s := by
  induction l with
  | nil => intro s; rfl
  | cons x l ih =>
    intro s
    rw [List.flatMap_cons, List.foldlM_append, List.foldlM_cons]
    congr 1
    funext s
    exact ih s
theorem foldlM_mapx (f : α → β) (g : σ → β → Except ρ σ) (l : List α) : ∀ s, (l.map f).foldlM g s = l.foldlM (fun s a => g s (f a)) s := by
  induction l with
  | nil => intro s; rfl
  | cons x l ih =>
    intro s
    rw [List.map_cons, List.foldlM_cons, List.foldlM_cons]
    congr 1
    funext s
    exact ih s
theorem foldlM_ok (g : σ → α → σ) (l : List α) : ∀ s, (l.foldlM (fun s a => (.ok (g s a) : Except ρ σ)) s) = .ok (l.foldl g s) := by
  induction l with
  | nil => intro s; rfl
  | cons x l ih => intro s; exact ih (g s x)
theorem foldlM_find (c : α → Bool) (v : α → ρ) (l : List α) : l.foldlM (fun (_ : Unit) a => if c a then (.error (v a) : Except ρ Unit) else .ok ()) () = match l.find? c with | some a => .error (v a) | none => .ok () := by
  induction l with
  | nil => rfl
  | cons x l ih =>
    rw [List.foldlM_cons, List.find?_cons]
    cases hx : c x with
    | true => rfl
    | false => exact ih
theorem foldlM_any (c : α → Bool) (v : ρ) (l : List α) : l.foldlM (fun (_ : Unit) a => if c a then (.error v : Except ρ Unit) else .ok ()) () = if l.any c then .error v else .ok () := by
  rw [foldlM_find c (fun _ => v) l]
  cases h : l.find? c with
  | none =>
    have : l.any c = false := by simpa using h
    rw [this]; rfl
  | some a =>
    have : l.any c = true := List.any_eq_true.2 ⟨a, List.mem_of_find?_eq_some h, List.find?_some h⟩
    rw [this]; rfl
end
theorem foldlM_index {σ ρ α : Type} (d : α) (f : σ → α → Except ρ σ) (l : List α) (s : σ) : (List.range' 0 (l.length - 0)).foldlM (fun s i => f s (l.getD i d)) s = l.foldlM f s := by
  have key : ∀ (l' pre : List α) (s : σ), pre ++ l' = l → (List.range' pre.length l'.length).foldlM (fun s i => f s (l.getD i d)) s = l'.foldlM f s := by
    intro l'
    induction l' with
    | nil => intro pre s _; rfl
    | cons x l' ih =>
      intro pre s h
      have hx : l.getD pre.length d = x := by
        rw [← h, List.getD_eq_getElem?_getD, List.getElem?_append_right (Nat.le_refl _), Nat.sub_self]
        rfl
      rw [List.length_cons, List.range'_succ, List.foldlM_cons, List.foldlM_cons, hx]
      congr 1
      funext s
      have := ih (pre ++ [x]) s (by rw [← h, List.append_assoc]; rfl)
      rw [List.length_append] at this
      exact this
  rw [Nat.sub_zero]
  exact key l [] s rfl
theorem foldl_filter {α β : Type} (c : α → Bool) (f : α → β) (l : List α) : ∀ s : List β, l.foldl (fun s a => if c a then s ++ [f a] else s) s = s ++ (l.filter c).map f := by
  induction l with
  | nil => intro s; simp
  | cons x l ih =>
    intro s
    rw [List.foldl_cons, ih, List.filter_cons]
    split
    · rw [List.map_cons, List.append_assoc]; rfl
    · rfl
def upFrom (n a : Nat) : List Nat := List.range' (a + 1) (n - (a + 1))
def pairsL (n : Nat) : List (Nat × Nat) := (List.range' 0 n).flatMap fun a => (upFrom n a).map fun b => (a, b)
def tripsL (n : Nat) : List (Nat × Nat × Nat) := (List.range' 0 n).flatMap fun a => (upFrom n a).flatMap fun b => (upFrom n b).map fun c => (a, b, c)
def quadsL (n : Nat) : List (Nat × Nat × Nat × Nat) := (List.range' 0 n).flatMap fun a => (upFrom n a).flatMap fun b => (upFrom n b).flatMap fun c => (upFrom n c).map fun d => (a, b, c, d)
theorem mem_upFrom {n a b : Nat} (h : b ∈ upFrom n a) : a < b ∧ b < n := by
  simp only [upFrom, List.mem_range'_1] at h
  omega
theorem mem_trips {n a b c : Nat} (h : (a, b, c) ∈ tripsL n) : a < b ∧ b < c ∧ c < n := by
  simp only [tripsL, List.mem_flatMap, List.mem_map, Prod.mk.injEq] at h
  obtain ⟨x, _, y, hy, z, hz, rfl, rfl, rfl⟩ := h
  have := mem_upFrom hy
  have := mem_upFrom hz
  omega
theorem mem_quads {n a b c d : Nat} (h : (a, b, c, d) ∈ quadsL n) : a < b ∧ b < c ∧ c < d ∧ d < n := by
  simp only [quadsL, List.mem_flatMap, List.mem_map, Prod.mk.injEq] at h
  obtain ⟨x, _, y, hy, z, hz, u, hu, rfl, rfl, rfl, rfl⟩ := h
  have := mem_upFrom hy
  have := mem_upFrom hz
  have := mem_upFrom hu
  omega
theorem trips_mem {n a b c : Nat} (h1 : a < b) (h2 : b < c) (h3 : c < n) : (a, b, c) ∈ tripsL n := by
  simp only [tripsL, List.mem_flatMap, List.mem_map, Prod.mk.injEq, upFrom, List.mem_range'_1]
  exact ⟨a, by omega, b, by omega, c, by omega, rfl, rfl, rfl⟩
theorem quads_mem {n a b c d : Nat} (h1 : a < b) (h2 : b < c) (h3 : c < d) (h4 : d < n) : (a, b, c, d) ∈ quadsL n := by
  simp only [quadsL, List.mem_flatMap, List.mem_map, Prod.mk.injEq, upFrom, List.mem_range'_1]
  exact ⟨a, by omega, b, by omega, c, by omega, d, by omega, rfl, rfl, rfl, rfl⟩
section
variable {σ ρ : Type} {n : Nat} {K : σ → Nat → Option ρ}
theorem loops2 {L0 : Int → σ → Nat → Option ρ} {L1 : Int → Int → σ → Nat → Option ρ} (dec : σ → Nat × Nat → Except ρ σ)
    (e0 : ∀ s, Goes (.ok s) K (L0 (n : Int) s)) (s0 : ∀ a, a < n → ∀ s, Goes (.ok s) (fun s => L1 (a : Int) ((a + 1 : Nat) : Int) s) (L0 (a : Int) s))
    (e1 : ∀ a, a < n → ∀ s, Goes (.ok s) (fun s => L0 ((a + 1 : Nat) : Int) s) (L1 (a : Int) (n : Int) s))
    (hb : ∀ a b, a < b → b < n → ∀ s, Goes (dec s (a, b)) (fun s => L1 (a : Int) ((b + 1 : Nat) : Int) s) (L1 (a : Int) (b : Int) s)) (s : σ) : Goes ((pairsL n).foldlM dec s) K (L0 0 s) := by
  have h := loop_up (K := K) (L := L0) (lo := 0) (n := n) (fun s a => (upFrom n a).foldlM (fun s b => dec s (a, b)) s) e0 (fun a _ ha s => ?_) (by omega) s
  · refine Goes.cast h ?_
    rw [pairsL, foldlM_flatMap]
    simp only [foldlM_mapx, Nat.sub_zero]
  · exact Goes.map (fun _ => s0 a ha s _) (loop_up (K := fun s => L0 ((a + 1 : Nat) : Int) s) (L := L1 (a : Int)) (fun s b => dec s (a, b)) (e1 a ha) (fun b hl hb' s => hb a b (by omega) hb' s) (by omega) s)
theorem loops3 {L0 : Int → σ → Nat → Option ρ} {L1 : Int → Int → σ → Nat → Option ρ} {L2 : Int → Int → Int → σ → Nat → Option ρ} (dec : σ → Nat × Nat × Nat → Except ρ σ)
    (e0 : ∀ s, Goes (.ok s) K (L0 (n : Int) s)) (s0 : ∀ a, a < n → ∀ s, Goes (.ok s) (fun s => L1 (a : Int) ((a + 1 : Nat) : Int) s) (L0 (a : Int) s))
    (e1 : ∀ a, a < n → ∀ s, Goes (.ok s) (fun s => L0 ((a + 1 : Nat) : Int) s) (L1 (a : Int) (n : Int) s)) (s1 : ∀ a b, a < b → b < n → ∀ s, Goes (.ok s) (fun s => L2 (a : Int) (b : Int) ((b + 1 : Nat) : Int) s) (L1 (a : Int) (b : Int) s))
    (e2 : ∀ a b, a < b → b < n → ∀ s, Goes (.ok s) (fun s => L1 (a : Int) ((b + 1 : Nat) : Int) s) (L2 (a : Int) (b : Int) (n : Int) s))
    (hb : ∀ a b c, a < b → b < c → c < n → ∀ s, Goes (dec s (a, b, c)) (fun s => L2 (a : Int) (b : Int) ((c + 1 : Nat) : Int) s) (L2 (a : Int) (b : Int) (c : Int) s)) (s : σ) : Goes ((tripsL n).foldlM dec s) K (L0 0 s) := by
  refine Goes.cast (loops2 (n := n) (K := K) (L0 := L0) (L1 := L1) (fun s p => (upFrom n p.2).foldlM (fun s c => dec s (p.1, p.2, c)) s) e0 s0 e1 (fun a b hab hb' s => ?_) s) ?_
  · exact Goes.map (fun _ => s1 a b hab hb' s _) (loop_up (K := fun s => L1 (a : Int) ((b + 1 : Nat) : Int) s) (L := L2 (a : Int) (b : Int)) (fun s c => dec s (a, b, c)) (e2 a b hab hb') (fun c hl hc s => hb a b c hab (by omega) hc s) (by omega) s)
  · simp only [pairsL, tripsL, foldlM_flatMap, foldlM_mapx]
theorem loops4 {L0 : Int → σ → Nat → Option ρ} {L1 : Int → Int → σ → Nat → Option ρ} {L2 : Int → Int → Int → σ → Nat → Option ρ} {L3 : Int → Int → Int → Int → σ → Nat → Option ρ} (dec : σ → Nat × Nat × Nat × Nat → Except ρ σ)
    (e0 : ∀ s, Goes (.ok s) K (L0 (n : Int) s)) (s0 : ∀ a, a < n → ∀ s, Goes (.ok s) (fun s => L1 (a : Int) ((a + 1 : Nat) : Int) s) (L0 (a : Int) s))
    (e1 : ∀ a, a < n → ∀ s, Goes (.ok s) (fun s => L0 ((a + 1 : Nat) : Int) s) (L1 (a : Int) (n : Int) s)) (s1 : ∀ a b, a < b → b < n → ∀ s, Goes (.ok s) (fun s => L2 (a : Int) (b : Int) ((b + 1 : Nat) : Int) s) (L1 (a : Int) (b : Int) s))
    (e2 : ∀ a b, a < b → b < n → ∀ s, Goes (.ok s) (fun s => L1 (a : Int) ((b + 1 : Nat) : Int) s) (L2 (a : Int) (b : Int) (n : Int) s)) (s2 : ∀ a b c, a < b → b < c → c < n → ∀ s, Goes (.ok s) (fun s => L3 (a : Int) (b : Int) (c : Int) ((c + 1 : Nat) : Int) s) (L2 (a : Int) (b : Int) (c : Int) s))
    (e3 : ∀ a b c, a < b → b < c → c < n → ∀ s, Goes (.ok s) (fun s => L2 (a : Int) (b : Int) ((c + 1 : Nat) : Int) s) (L3 (a : Int) (b : Int) (c : Int) (n : Int) s))
    (hb : ∀ a b c d, a < b → b < c → c < d → d < n → ∀ s, Goes (dec s (a, b, c, d)) (fun s => L3 (a : Int) (b : Int) (c : Int) ((d + 1 : Nat) : Int) s) (L3 (a : Int) (b : Int) (c : Int) (d : Int) s)) (s : σ) : Goes ((quadsL n).foldlM dec s) K (L0 0 s) := by
  refine Goes.cast (loops3 (n := n) (K := K) (L0 := L0) (L1 := L1) (L2 := L2) (fun s p => (upFrom n p.2.2).foldlM (fun s d => dec s (p.1, p.2.1, p.2.2, d)) s) e0 s0 e1 s1 e2 (fun a b c hab hbc hc s => ?_) s) ?_
  · exact Goes.map (fun _ => s2 a b c hab hbc hc s _) (loop_up (lo := c + 1) (n := n) (K := fun s => L2 (a : Int) (b : Int) ((c + 1 : Nat) : Int) s) (L := L3 (a : Int) (b : Int) (c : Int)) (fun s d => dec s (a, b, c, d)) (e3 a b c hab hbc hc) (fun d hl hd s => hb a b c d hab hbc (by omega) hd s) (by omega) s)
  · simp only [tripsL, quadsL, foldlM_flatMap, foldlM_mapx]
theorem fold_len {α : Type} (len : σ → Nat) {dec : σ → α → Except ρ σ} (hl : ∀ s x s', dec s x = .ok s' → len s' ≤ len s + 1) (l : List α) : ∀ s s', l.foldlM dec s = .ok s' → len s' ≤ len s + l.length := by
  induction l with
  | nil => intro s s' h; cases h; exact Nat.le_refl _
  | cons x l ih =>
    intro s s' h
    rw [List.foldlM_cons] at h
    cases hd : dec s x with
    | error v => rw [hd] at h; cases h
    | ok s1 =>
      rw [hd] at h
      have h1 := hl _ _ _ hd
      have h2 := ih s1 s' h
      rw [List.length_cons]
      omega
theorem upFrom_length (n a : Nat) : (upFrom n a).length = n - (a + 1) := List.length_range' ..
theorem loops3B {L0 : Int → σ → Nat → Option ρ} {L1 : Int → Int → σ → Nat → Option ρ} {L2 : Int → Int → Int → σ → Nat → Option ρ} (hn : n ≤ 7) (len : σ → Nat) (B : Nat) (dec : σ → Nat × Nat × Nat → Except ρ σ) (hl : ∀ s x s', dec s x = .ok s' → len s' ≤ len s + 1)
    (e0 : ∀ s, Goes (.ok s) K (L0 (n : Int) s)) (s0 : ∀ a, a < n → ∀ s, Goes (.ok s) (fun s => L1 (a : Int) ((a + 1 : Nat) : Int) s) (L0 (a : Int) s))
    (e1 : ∀ a, a < n → ∀ s, Goes (.ok s) (fun s => L0 ((a + 1 : Nat) : Int) s) (L1 (a : Int) (n : Int) s)) (s1 : ∀ a b, a < b → b < n → ∀ s, Goes (.ok s) (fun s => L2 (a : Int) (b : Int) ((b + 1 : Nat) : Int) s) (L1 (a : Int) (b : Int) s))
    (e2 : ∀ a b, a < b → b < n → ∀ s, Goes (.ok s) (fun s => L1 (a : Int) ((b + 1 : Nat) : Int) s) (L2 (a : Int) (b : Int) (n : Int) s))
    (hb : ∀ a b c, a < b → b < c → c < n → ∀ s, len s ≤ B + 343 → Goes (dec s (a, b, c)) (fun s => L2 (a : Int) (b : Int) ((c + 1 : Nat) : Int) s) (L2 (a : Int) (b : Int) (c : Int) s)) (s : σ) (hs : len s ≤ B) : Goes ((tripsL n).foldlM dec s) K (L0 0 s) := by
  have h := loop_up' (K := K) (L := L0) (lo := 0) (n := n) (fun a s => len s ≤ B + 49 * a) (fun s a => (upFrom n a).foldlM (fun s b => (upFrom n b).foldlM (fun s c => dec s (a, b, c)) s) s) (fun s _ => e0 s) (fun a _ ha s hs => ?_) (fun a _ ha s hs s' e => ?_) (by omega) s (by omega)
  · refine Goes.cast h ?_
    rw [tripsL, foldlM_flatMap]
    simp only [foldlM_mapx, foldlM_flatMap, Nat.sub_zero]
  · refine Goes.map (fun _ => s0 a ha s _) (loop_up' (lo := a + 1) (n := n) (K := fun s => L0 ((a + 1 : Nat) : Int) s) (L := L1 (a : Int)) (fun b s => len s ≤ B + 49 * a + 7 * b) (fun s b => (upFrom n b).foldlM (fun s c => dec s (a, b, c)) s) (fun s _ => e1 a ha s)
      (fun b hlo hb' s hs => ?_) (fun b hlo hb' s hs s' e => ?_) (by omega) s (by omega))
    · exact Goes.map (fun _ => s1 a b (by omega) hb' s _) (loop_up' (lo := b + 1) (n := n) (K := fun s => L1 (a : Int) ((b + 1 : Nat) : Int) s) (L := L2 (a : Int) (b : Int)) (fun c s => len s ≤ B + 49 * a + 7 * b + c) (fun s c => dec s (a, b, c)) (fun s _ => e2 a b (by omega) hb' s)
        (fun c hl' hc s hs => hb a b c (by omega) (by omega) hc s (by omega)) (fun c hl' hc s hs s' e => by have := hl _ _ _ e; omega) (by omega) s (by omega))
    · have := fold_len len (fun s x s' => hl s (a, b, x) s') _ _ _ e
      rw [upFrom_length] at this
      omega
  · have key : ∀ (l : List Nat), ∀ s s', l.foldlM (fun s b => (upFrom n b).foldlM (fun s c => dec s (a, b, c)) s) s = .ok s' → len s' ≤ len s + 7 * l.length := by
      intro l
      induction l with
      | nil => intro s s' h; cases h; exact Nat.le_refl _
      | cons x l ih =>
        intro s s' h
        rw [List.foldlM_cons] at h
        cases hd : (upFrom n x).foldlM (fun s c => dec s (a, x, c)) s with
        | error v => rw [hd] at h; cases h
        | ok s1 =>
          rw [hd] at h
          have h1 := fold_len len (fun s y s' => hl s (a, x, y) s') _ _ _ hd
          have h2 := ih s1 s' h
          rw [upFrom_length] at h1
          rw [List.length_cons]
          omega
    have := key _ _ _ e
    rw [upFrom_length] at this
    omega
theorem fold_len2 {n : Nat} (hn : n ≤ 7) {α : Type} (len : σ → Nat) (w : Nat) {dec : σ → α → Except ρ σ} (hl : ∀ s x s', dec s x = .ok s' → len s' ≤ len s + w) (l : List α) : ∀ s s', l.foldlM dec s = .ok s' → len s' ≤ len s + w * l.length := by
  induction l with
  | nil => intro s s' h; cases h; exact Nat.le_refl _
  | cons x l ih =>
    intro s s' h
    rw [List.foldlM_cons] at h
    cases hd : dec s x with
    | error v => rw [hd] at h; cases h
    | ok s1 =>
      rw [hd] at h
      have h1 := hl _ _ _ hd
      have h2 := ih s1 s' h
      rw [List.length_cons, Nat.mul_succ]
      omega
set_option maxRecDepth 8000 in
theorem loops4B {L0 : Int → σ → Nat → Option ρ} {L1 : Int → Int → σ → Nat → Option ρ} {L2 : Int → Int → Int → σ → Nat → Option ρ} {L3 : Int → Int → Int → Int → σ → Nat → Option ρ} (hn : n ≤ 7) (len : σ → Nat) (B : Nat) (dec : σ → Nat × Nat × Nat × Nat → Except ρ σ) (hl : ∀ s x s', dec s x = .ok s' → len s' ≤ len s + 1)
    (e0 : ∀ s, Goes (.ok s) K (L0 (n : Int) s)) (s0 : ∀ a, a < n → ∀ s, Goes (.ok s) (fun s => L1 (a : Int) ((a + 1 : Nat) : Int) s) (L0 (a : Int) s))
    (e1 : ∀ a, a < n → ∀ s, Goes (.ok s) (fun s => L0 ((a + 1 : Nat) : Int) s) (L1 (a : Int) (n : Int) s)) (s1 : ∀ a b, a < b → b < n → ∀ s, Goes (.ok s) (fun s => L2 (a : Int) (b : Int) ((b + 1 : Nat) : Int) s) (L1 (a : Int) (b : Int) s))
    (e2 : ∀ a b, a < b → b < n → ∀ s, Goes (.ok s) (fun s => L1 (a : Int) ((b + 1 : Nat) : Int) s) (L2 (a : Int) (b : Int) (n : Int) s)) (s2 : ∀ a b c, a < b → b < c → c < n → ∀ s, Goes (.ok s) (fun s => L3 (a : Int) (b : Int) (c : Int) ((c + 1 : Nat) : Int) s) (L2 (a : Int) (b : Int) (c : Int) s))
    (e3 : ∀ a b c, a < b → b < c → c < n → ∀ s, Goes (.ok s) (fun s => L2 (a : Int) (b : Int) ((c + 1 : Nat) : Int) s) (L3 (a : Int) (b : Int) (c : Int) (n : Int) s))
    (hb : ∀ a b c d, a < b → b < c → c < d → d < n → ∀ s, len s ≤ B + 2401 → Goes (dec s (a, b, c, d)) (fun s => L3 (a : Int) (b : Int) (c : Int) ((d + 1 : Nat) : Int) s) (L3 (a : Int) (b : Int) (c : Int) (d : Int) s)) (s : σ) (hs : len s ≤ B) : Goes ((quadsL n).foldlM dec s) K (L0 0 s) := by
  have f3 : ∀ a b c : Nat, ∀ s s', (upFrom n c).foldlM (fun s d => dec s (a, b, c, d)) s = .ok s' → len s' ≤ len s + 7 := fun a b c s s' h => by
    have := fold_len len (fun s x s' => hl s (a, b, c, x) s') _ _ _ h
    rw [upFrom_length] at this
    omega
  have f2 : ∀ a b : Nat, ∀ s s', (upFrom n b).foldlM (fun s c => (upFrom n c).foldlM (fun s d => dec s (a, b, c, d)) s) s = .ok s' → len s' ≤ len s + 49 := fun a b s s' h => by
    have := fold_len2 hn len 7 (fun s x s' => f3 a b x s s') _ _ _ h
    rw [upFrom_length] at this
    omega
  have f1 : ∀ a : Nat, ∀ s s', (upFrom n a).foldlM (fun s b => (upFrom n b).foldlM (fun s c => (upFrom n c).foldlM (fun s d => dec s (a, b, c, d)) s) s) s = .ok s' → len s' ≤ len s + 343 := fun a s s' h => by
    have := fold_len2 hn len 49 (fun s x s' => f2 a x s s') _ _ _ h
    rw [upFrom_length] at this
    omega
  have h := loop_up' (K := K) (L := L0) (lo := 0) (n := n) (fun a s => len s ≤ B + 343 * a) (fun s a => (upFrom n a).foldlM (fun s b => (upFrom n b).foldlM (fun s c => (upFrom n c).foldlM (fun s d => dec s (a, b, c, d)) s) s) s) (fun s _ => e0 s) (fun a _ ha s hs => ?_) (fun a _ ha s hs s' e => by have := f1 a _ _ e; omega) (by omega) s (by omega)
  · refine Goes.cast h ?_
    rw [quadsL, foldlM_flatMap]
    simp only [foldlM_mapx, foldlM_flatMap, Nat.sub_zero]
  · refine Goes.map (fun _ => s0 a ha s _) (loop_up' (lo := a + 1) (n := n) (K := fun s => L0 ((a + 1 : Nat) : Int) s) (L := L1 (a : Int)) (fun b s => len s ≤ B + 343 * a + 49 * b) (fun s b => (upFrom n b).foldlM (fun s c => (upFrom n c).foldlM (fun s d => dec s (a, b, c, d)) s) s) (fun s _ => e1 a ha s)
      (fun b hlo hb' s hs => ?_) (fun b hlo hb' s hs s' e => by have := f2 a b _ _ e; omega) (by omega) s (by omega))
    refine Goes.map (fun _ => s1 a b (by omega) hb' s _) (loop_up' (lo := b + 1) (n := n) (K := fun s => L1 (a : Int) ((b + 1 : Nat) : Int) s) (L := L2 (a : Int) (b : Int)) (fun c s => len s ≤ B + 343 * a + 49 * b + 7 * c) (fun s c => (upFrom n c).foldlM (fun s d => dec s (a, b, c, d)) s) (fun s _ => e2 a b (by omega) hb' s)
      (fun c hl' hc s hs => ?_) (fun c hl' hc s hs s' e => by have := f3 a b c _ _ e; omega) (by omega) s (by omega))
    exact Goes.map (fun _ => s2 a b c (by omega) (by omega) hc s _) (loop_up' (lo := c + 1) (n := n) (K := fun s => L2 (a : Int) (b : Int) ((c + 1 : Nat) : Int) s) (L := L3 (a : Int) (b : Int) (c : Int)) (fun d s => len s ≤ B + 343 * a + 49 * b + 7 * c + d) (fun s d => dec s (a, b, c, d)) (fun s _ => e3 a b c (by omega) (by omega) hc s)
      (fun d hd' hd s hs => hb a b c d (by omega) (by omega) (by omega) hd s (by omega)) (fun d hd' hd s hs s' e => by have := hl _ _ _ e; omega) (by omega) s (by omega))
theorem foldlM_okL {α : Type} (g : σ → α → σ) (len : σ → Nat) (hg : ∀ s a, len (g s a) ≤ len s + 1) : ∀ s x s', (fun s a => (.ok (g s a) : Except ρ σ)) s x = .ok s' → len s' ≤ len s + 1 := by
  intro s x s' h
  cases h
  exact hg s x
end
end Go.Proofs.Ytckkfjdkaimmhaa.M
namespace Go.Proofs.Ytckkfjdkaimmhaa.M
open Go.RowKit Go.Proofs.YtckkfjdkaimmhaaW.PrintWords Go.Proofs.Ytckkfjdkaimmhaa.PX Go.Proofs.Ytckkfjdkaimmhaa.G
def allPlus (n : Nat) (t : ByteArray) (q : Nat × Nat × Nat × Nat) : Bool := decide ((circT (chi n t q.2.1 q.2.2.1 q.2.2.2) (chi n t q.1 q.2.2.1 q.2.2.2) (chi n t q.1 q.2.1 q.2.2.2) (chi n t q.1 q.2.1 q.2.2.1)).toList = ([43, 43, 43, 43] : List UInt8))
def acyc (n : Nat) (t : ByteArray) : Bool := !((quadsL n).any (allPlus n t))
theorem quadQ_L {n : Nat} (h0 : 3 ≤ n) (h1 : n ≤ 7) : quadQ n = quadsL n ∧ (quadsL n).length ≤ 35 := by
  refine five (p := fun n => quadQ n = quadsL n ∧ (quadsL n).length ≤ 35) h0 h1 ?_ ?_ ?_ ?_ ?_ <;> decide +kernel
theorem spec_acyc {n : Nat} {t : ByteArray} (h : areOk n t = true) : Ev (fun k => spec_l4Acyclic.f k (n : Int) t) (acyc n t) := by
  obtain ⟨⟨h0, h1⟩, _, _⟩ := (areOk_iff _ _).1 h
  have h0 : 3 ≤ n := by omega
  have h1 : n ≤ 7 := by omega
  unfold spec_l4Acyclic.f
  have key := loops4 (σ := Unit) (ρ := Bool) (n := n) (K := fun _ _ => some true) (L0 := fun a _ k => spec_l4Acyclic.l0 k a (n : Int) t) (L1 := fun a b _ k => spec_l4Acyclic.l1 k a b (n : Int) t) (L2 := fun a b c _ k => spec_l4Acyclic.l2 k a b c (n : Int) t)
    (L3 := fun a b c d _ k => spec_l4Acyclic.l3 k a b c d (n : Int) t) (fun _ q => if allPlus n t q then .error false else .ok ()) (fun u => ?_) (fun a ha u => ?_) (fun a ha u => ?_) (fun a b hab hb u => ?_) (fun a b hab hb u => ?_) (fun a b c hab hbc hc u => ?_) (fun a b c hab hbc hc u => ?_) (fun a b c d hab hbc hcd hd u => ?_) ()
  · rw [foldlM_any] at key
    unfold acyc
    cases hq : (quadsL n).any (allPlus n t) with
    | true => rw [hq] at key; exact key
    | false => rw [hq] at key; exact key _ (Ev.now _)
  · refine Goes.step ?_
    simp only [spec_l4Acyclic.l0]
    exact Goes.neg (by omega) (Goes.ok (K := fun _ _ => some true) u)
  · refine Goes.step ?_
    simp only [spec_l4Acyclic.l0]
    refine Goes.pos (by omega) ?_
    rw [wrap_id (by omega) (by omega)]
    exact Goes.ok (K := fun _ k => spec_l4Acyclic.l1 k (a : Int) ((a + 1 : Nat) : Int) (n : Int) t) u
  · refine Goes.step ?_
    simp only [spec_l4Acyclic.l1]
    refine Goes.neg (by omega) ?_
    rw [wrap_id (by omega) (by omega)]
    exact Goes.ok (K := fun _ k => spec_l4Acyclic.l0 k ((a + 1 : Nat) : Int) (n : Int) t) u
  · refine Goes.step ?_
    simp only [spec_l4Acyclic.l1]
    refine Goes.pos (by omega) ?_
    rw [wrap_id (by omega) (by omega)]
    exact Goes.ok (K := fun _ k => spec_l4Acyclic.l2 k (a : Int) (b : Int) ((b + 1 : Nat) : Int) (n : Int) t) u
  · refine Goes.step ?_
    simp only [spec_l4Acyclic.l2]
    refine Goes.neg (by omega) ?_
    rw [wrap_id (by omega) (by omega)]
    exact Goes.ok (K := fun _ k => spec_l4Acyclic.l1 k (a : Int) ((b + 1 : Nat) : Int) (n : Int) t) u
  · refine Goes.step ?_
    simp only [spec_l4Acyclic.l2]
    refine Goes.pos (by omega) ?_
    rw [wrap_id (by omega) (by omega)]
    exact Goes.ok (K := fun _ k => spec_l4Acyclic.l3 k (a : Int) (b : Int) (c : Int) ((c + 1 : Nat) : Int) (n : Int) t) u
  · refine Goes.step ?_
    simp only [spec_l4Acyclic.l3]
    refine Goes.neg (by omega) ?_
    rw [wrap_id (by omega) (by omega)]
    exact Goes.ok (K := fun _ k => spec_l4Acyclic.l2 k (a : Int) (b : Int) ((c + 1 : Nat) : Int) (n : Int) t) u
  · refine Goes.step ?_
    simp only [spec_l4Acyclic.l3]
    refine Goes.pos (by omega) (Goes.ev (spec_circ4 h (by omega) (by omega) (by omega) hd (by omega) (by omega) (by omega) (by omega) (by omega) (by omega)) ?_)
    rw [wrap_id (by omega) (by omega)]
    by_cases g : allPlus n t (a, b, c, d) = true
    · rw [if_pos g]
      exact Goes.pos (of_decide_eq_true g) (Goes.ret _)
    · rw [if_neg g]
      exact Goes.neg (fun e => g (decide_eq_true e)) (Goes.ok (K := fun _ k => spec_l4Acyclic.l3 k (a : Int) (b : Int) (c : Int) ((d + 1 : Nat) : Int) (n : Int) t) u)
theorem impl_acyc {n : Nat} {t : ByteArray} (h : areOk n t = true) : Ev (fun k => impl_chi_isAcyclic.f k (tblL n t)) (acyc n t) := by
  obtain ⟨⟨h0, h1⟩, _, _⟩ := (areOk_iff _ _).1 h
  have h0 : 3 ≤ n := by omega
  have h1 : n ≤ 7 := by omega
  obtain ⟨hq, hq35⟩ := quadQ_L h0 h1
  unfold impl_chi_isAcyclic.f
  rw [tbl_n]
  refine Ev.bind (quads_ev h0 h1) ?_
  rw [hq]
  have hl : ((quadsL n).map toS4).length = (quadsL n).length := List.length_map ..
  have key := loop_up (σ := Unit) (ρ := Bool) (lo := 0) (n := (quadsL n).length) (K := fun _ _ => some true) (L := fun i _ k => impl_chi_isAcyclic.l0 k (tblL n t) ((quadsL n).map toS4) (((quadsL n).map toS4).length : Int) i)
    (fun _ i => if allPlus n t ((quadsL n).getD i (0, 0, 0, 0)) then .error false else .ok ()) (fun u => ?_) (fun i _ hi u => ?_) (by omega) ()
  · rw [foldlM_index (0, 0, 0, 0) (fun _ q => if allPlus n t q then (.error false : Except Bool Unit) else .ok ()), foldlM_any] at key
    unfold acyc
    cases hq : (quadsL n).any (allPlus n t) with
    | true => rw [hq] at key; exact key
    | false => rw [hq] at key; exact key _ (Ev.now _)
  · refine Goes.step ?_
    simp only [impl_chi_isAcyclic.l0]
    exact Goes.neg (by omega) (Goes.ok (K := fun _ _ => some true) u)
  · have hg : (quadsL n).getD i (0, 0, 0, 0) = (quadsL n)[i] := by rw [List.getD_eq_getElem?_getD, List.getElem?_eq_getElem hi]; rfl
    have hm := List.getElem_mem hi
    rw [hg]
    refine Goes.step ?_
    simp only [impl_chi_isAcyclic.l0, rd_toS4 hi]
    generalize (quadsL n)[i] = q at *
    obtain ⟨a, b, c, d⟩ := q
    obtain ⟨hab, hbc, hcd, hd⟩ := mem_quads hm
    simp only [toS4]
    refine Goes.pos (by omega) (Goes.pos (by omega) (Goes.pos (by omega) (Goes.ev (chi_circuit_ev h (by omega) (by omega) (by omega) hd (by omega) (by omega) (by omega) (by omega) (by omega) (by omega)) ?_)))
    rw [wrap_id (by omega) (by omega)]
    by_cases g : allPlus n t (a, b, c, d) = true
    · rw [if_pos g]
      exact Goes.pos (of_decide_eq_true g) (Goes.ret _)
    · rw [if_neg g]
      exact Goes.neg (fun e => g (decide_eq_true e)) (Goes.ok (K := fun _ k => impl_chi_isAcyclic.l0 k (tblL n t) ((quadsL n).map toS4) (((quadsL n).map toS4).length : Int) ((i + 1 : Nat) : Int)) u)
end Go.Proofs.Ytckkfjdkaimmhaa.M
namespace Go.Proofs.Ytckkfjdkaimmhaa.M
open Go.RowKit Go.Proofs.YtckkfjdkaimmhaaW.PrintWords Go.Proofs.Ytckkfjdkaimmhaa.PX Go.Proofs.YtckkfjdkaimmhaaW.PrintMore
def bitQ (set i : Int) : Int := Go.bits .and .i64 (shr .i64 set i) 1
def bitChk : Bool := (List.range 8).all fun k => decide (IntKind.u64.wrap (k : Int) = (k : Int)) && decide (shl .i64 1 (k : Int) = ((2 ^ k : Nat) : Int)) && decide (2 ^ k ≤ 128) &&
  ((List.range 128).all fun s => decide (bitQ (s : Int) (k : Int) = if s.testBit k then 1 else 0))
theorem bitChk_ok : bitChk = true := by decide +kernel
theorem bit_facts {k : Nat} (hk : k ≤ 7) : IntKind.u64.wrap (k : Int) = (k : Int) ∧ shl .i64 1 (k : Int) = ((2 ^ k : Nat) : Int) ∧ 2 ^ k ≤ 128 ∧ ∀ s : Nat, s < 128 → bitQ (s : Int) (k : Int) = if s.testBit k then 1 else 0 := by
  have h := List.all_eq_true.1 bitChk_ok k (List.mem_range.2 (by omega))
  simp only [Bool.and_eq_true, decide_eq_true_eq, List.all_eq_true, List.mem_range] at h
  exact ⟨h.1.1.1, h.1.1.2, h.1.2, h.2⟩
theorem u64_id {k : Nat} (hk : k ≤ 7) : IntKind.u64.wrap (k : Int) = (k : Int) := (bit_facts hk).1
def onlyV (s : Nat) : Int := match (List.range 7).find? (fun i => s == 2 ^ i) with | some i => (i : Int) | none => -1
def onlyChk : Bool := (List.range 128).all fun s => decide (impl_single.f 20 (s : Int) = some (onlyV s)) && decide (spec_l5Only.f 20 (s : Int) = some (onlyV s))
theorem onlyChk_ok : onlyChk = true := by decide +kernel
theorem single_ev {s : Nat} (hs : s < 128) : Ev (fun k => impl_single.f k (s : Int)) (onlyV s) := by
  have h := List.all_eq_true.1 onlyChk_ok s (List.mem_range.2 hs)
  simp only [Bool.and_eq_true, decide_eq_true_eq] at h
  exact Ev.of (impl_single.mono _) h.1
theorem only_ev {s : Nat} (hs : s < 128) : Ev (fun k => spec_l5Only.f k (s : Int)) (onlyV s) := by
  have h := List.all_eq_true.1 onlyChk_ok s (List.mem_range.2 hs)
  simp only [Bool.and_eq_true, decide_eq_true_eq] at h
  exact Ev.of (spec_l5Only.mono _) h.2
def popN (s : Nat) : Nat := ((List.range 7).filter fun i => s.testBit i).length
end Go.Proofs.Ytckkfjdkaimmhaa.M
namespace Go.Proofs.Ytckkfjdkaimmhaa.M
open Go.RowKit Go.Proofs.YtckkfjdkaimmhaaW.PrintWords Go.Proofs.Ytckkfjdkaimmhaa.PX Go.Proofs.Ytckkfjdkaimmhaa.G
theorem impl_mat (n : Int) (t : ByteArray) (hs : t.size ≤ 9223372036854775807) : impl_IsMatroid.f n t = some (matOk n t) := if_pos hs
theorem spec_mat (n : Int) (t : ByteArray) (hs : t.size ≤ 9223372036854775807) : Ev (fun k => spec_IsMatroid.f k n t) (matOk n t) := by
  unfold spec_IsMatroid.f matOk
  refine Ev.bind (spec_are n t hs) ?_
  cases h : areOk n t with
  | true =>
    refine ev_pos (by trivial) (Ev.bind (spec_break n t hs) (ev_cast (Ev.now _) ?_))
    cases brkA n t with
    | nil => rfl
    | cons x l => rw [Bool.true_and, List.isEmpty_cons, List.length_cons]; exact beq_eq_false_iff_ne.2 (by omega)
  | false => exact ev_neg (by decide) (Ev.now _)
theorem mat_are {n : Int} {t : ByteArray} (h : matOk n t = true) : areOk n t = true := by
  unfold matOk at h
  rw [Bool.and_eq_true] at h
  exact h.1
end Go.Proofs.Ytckkfjdkaimmhaa.M
namespace Go.Proofs.Ytckkfjdkaimmhaa.M
open Go.RowKit Go.Proofs.YtckkfjdkaimmhaaW.PrintWords Go.Proofs.Ytckkfjdkaimmhaa.PX Go.Proofs.Ytckkfjdkaimmhaa.G
def acyOk (n : Int) (t : ByteArray) : Bool := matOk n t && acyc n.toNat t
theorem impl_isA (n : Int) (t : ByteArray) (hs : t.size ≤ 9223372036854775807) : Ev (fun k => impl_IsAcyclic.f k n t) (acyOk n t) := by
  unfold impl_IsAcyclic.f acyOk
  refine ev_call (impl_mat n t hs) ?_
  cases h : matOk n t with
  | false => exact ev_neg (by decide) (Ev.now _)
  | true =>
    have ha := mat_are h
    obtain ⟨⟨h0, h1⟩, _, _⟩ := (areOk_iff _ _).1 ha
    obtain ⟨N, rfl⟩ : ∃ N : Nat, n = (N : Int) := Int.eq_ofNat_of_zero_le (by omega)
    exact ev_pos (by trivial) (Ev.bind (tableOf_ev ha) (ev_pos (tblL_length _ _) (Ev.bind (impl_acyc ha) (Ev.now _))))
theorem spec_isA (n : Int) (t : ByteArray) (hs : t.size ≤ 9223372036854775807) : Ev (fun k => spec_IsAcyclic.f k n t) (acyOk n t) := by
  unfold spec_IsAcyclic.f acyOk
  refine Ev.bind (spec_mat n t hs) ?_
  cases h : matOk n t with
  | false => exact ev_neg (by decide) (Ev.now _)
  | true =>
    have ha := mat_are h
    obtain ⟨⟨h0, h1⟩, _, _⟩ := (areOk_iff _ _).1 ha
    obtain ⟨N, rfl⟩ : ∃ N : Nat, n = (N : Int) := Int.eq_ofNat_of_zero_le (by omega)
    exact ev_pos (by trivial) (Ev.bind (spec_acyc ha) (Ev.now _))
end Go.Proofs.Ytckkfjdkaimmhaa.M
namespace Go.Proofs.Ytckkfjdkaimmhaa.M
open Go.RowKit Go.Proofs.YtckkfjdkaimmhaaW.PrintWords Go.Proofs.Ytckkfjdkaimmhaa.PX Go.Proofs.Ytckkfjdkaimmhaa.G Go.Proofs.YtckkfjdkaimmhaaW.PrintMore
def splitN (p q r : Bool) (a b c d : Nat) : Nat × Nat :=
  (2 ^ a + (if p then 2 ^ b else 0) + (if q then 2 ^ c else 0) + (if r then 2 ^ d else 0), (if p then 0 else 2 ^ b) + (if q then 0 else 2 ^ c) + (if r then 0 else 2 ^ d))
def twos : List Bool := [true, false]
def dist4 (a b c d : Nat) : Bool := decide (a ≠ b) && decide (a ≠ c) && decide (a ≠ d) && decide (b ≠ c) && decide (b ≠ d) && decide (c ≠ d)
def orS (l : List Nat) : Int := l.foldl (fun (s : Int) (k : Nat) => Go.bits .or .i64 s (shl .i64 1 (k : Int))) 0
def adS (l : List Nat) : Int := l.foldl (fun (s : Int) (k : Nat) => wrap64 (s + shl .i64 1 (k : Int))) 0
def sumL (l : List Nat) : Nat := l.foldl (fun s k => s + 2 ^ k) 0
def okL (l : List Nat) : Bool := decide (orS l = (sumL l : Int)) && decide (adS l = (sumL l : Int)) && decide (sumL l < 128)
def orChk : Bool := (List.range 7).all fun a => (List.range 7).all fun b => (List.range 7).all fun c => (List.range 7).all fun d => !dist4 a b c d || (okL [a, b, c, d] && okL [a, b, c] && okL [a, b] && okL [a] && okL [])
theorem orChk_ok : orChk = true := by decide +kernel
theorem ok_all {a b c d : Nat} (ha : a < 7) (hb : b < 7) (hc : c < 7) (hd : d < 7) (h : dist4 a b c d = true) : okL [a, b, c, d] = true ∧ okL [a, b, c] = true ∧ okL [a, b] = true ∧ okL [a] = true ∧ okL [] = true := by
  have g := List.all_eq_true.1 orChk_ok a (List.mem_range.2 ha)
  have g := List.all_eq_true.1 g b (List.mem_range.2 hb)
  have g := List.all_eq_true.1 g c (List.mem_range.2 hc)
  have g := List.all_eq_true.1 g d (List.mem_range.2 hd)
  rw [h] at g
  simp only [Bool.not_true, Bool.false_or, Bool.and_eq_true] at g
  exact ⟨g.1.1.1.1, g.1.1.1.2, g.1.1.2, g.1.2, g.2⟩
theorem ok_facts {l : List Nat} (h : okL l = true) : orS l = (sumL l : Int) ∧ adS l = (sumL l : Int) ∧ sumL l < 128 := by
  simp only [okL, Bool.and_eq_true, decide_eq_true_eq] at h
  exact ⟨h.1.1, h.1.2, h.2⟩
def pick (x : Bool) (b : Bool) (k : Nat) : List Nat := if b = x then [k] else []
def side (x p q r : Bool) (a b c d : Nat) : List Nat := pick x true a ++ pick x p b ++ pick x q c ++ pick x r d
theorem side_ok {a b c d : Nat} (ha : a < 7) (hb : b < 7) (hc : c < 7) (hd : d < 7) (h : dist4 a b c d = true) (x p q r : Bool) : okL (side x p q r a b c d) = true := by
  have h' : ∀ x y z w : Nat, x < 7 → y < 7 → z < 7 → w < 7 → dist4 x y z w = true → okL [x, y, z, w] = true ∧ okL [x, y, z] = true ∧ okL [x, y] = true ∧ okL [x] = true ∧ okL [] = true := fun _ _ _ _ h1 h2 h3 h4 => ok_all h1 h2 h3 h4
  have e : ∀ x y z w : Nat, dist4 x y z w = true ↔ (x ≠ y ∧ x ≠ z ∧ x ≠ w ∧ y ≠ z ∧ y ≠ w ∧ z ≠ w) := fun x y z w => by
    simp only [dist4, Bool.and_eq_true, decide_eq_true_eq]
    constructor <;> intro h <;> omega
  have h1 := h' a b c d ha hb hc hd h
  rw [e] at h
  have h2 := h' b c d a hb hc hd ha ((e _ _ _ _).2 (by omega))
  have h3 := h' a c d b ha hc hd hb ((e _ _ _ _).2 (by omega))
  have h4 := h' a b d c ha hb hd hc ((e _ _ _ _).2 (by omega))
  have h5 := h' b d a c hb hd ha hc ((e _ _ _ _).2 (by omega))
  have h6 := h' c d a b hc hd ha hb ((e _ _ _ _).2 (by omega))
  have h7 := h' a d b c ha hd hb hc ((e _ _ _ _).2 (by omega))
  have h8 := h' d a b c hd ha hb hc ((e _ _ _ _).2 (by omega))
  cases x <;> cases p <;> cases q <;> cases r <;> simp only [side, pick, List.append_nil, List.nil_append, List.cons_append, reduceCtorEq, if_true, if_false] <;> first | with_reducible exact h1.1 | with_reducible exact h1.2.1 | with_reducible exact h1.2.2.1 | with_reducible exact h1.2.2.2.1 | with_reducible exact h1.2.2.2.2 | with_reducible exact h2.1 | with_reducible exact h2.2.1 | with_reducible exact h2.2.2.1 | with_reducible exact h2.2.2.2.1 | with_reducible exact h3.2.1 | with_reducible exact h3.2.2.1 | with_reducible exact h4.2.1 | with_reducible exact h4.2.2.1 | with_reducible exact h5.2.2.1 | with_reducible exact h6.2.2.1 | with_reducible exact h6.2.2.2.1 | with_reducible exact h7.2.2.1 | with_reducible exact h8.2.2.2.1
theorem side_sum (p q r : Bool) (a b c d : Nat) : (sumL (side true p q r a b c d), sumL (side false p q r a b c d)) = splitN p q r a b c d := by
  cases p <;> cases q <;> cases r <;> simp [side, pick, sumL, splitN]
def chB (b : Bool) : UInt8 := if b then 43 else 45
def circB (p q r : Bool) : ByteArray := ⟨#[43, chB p, chB q, chB r]⟩
theorem circT_B (A B C D : Int) : circT A B C D = circB (decide (-A * B > 0)) (decide (A * C > 0)) (decide (-A * D > 0)) := by
  have e : ∀ x : Int, sB x = chB (decide (x > 0)) := fun x => by
    unfold sB chB
    by_cases h : x > 0
    · rw [if_pos h, decide_eq_true h, if_pos rfl]
    · rw [if_neg h, decide_eq_false h, if_neg (by decide)]
  unfold circT circB
  rw [e, e, e]
theorem rd4 (a b c d : Int) : rd [a, b, c, d] (0 : Nat) = a ∧ rd [a, b, c, d] (1 : Nat) = b ∧ rd [a, b, c, d] (2 : Nat) = c ∧ rd [a, b, c, d] (3 : Nat) = d := ⟨rfl, rfl, rfl, rfl⟩
theorem rd4_mem {a b c d : Nat} {i : Nat} (hi : i < 4) : ∃ m : Nat, rd [(a : Int), (b : Int), (c : Int), (d : Int)] (i : Int) = (m : Int) ∧ (m = a ∨ m = b ∨ m = c ∨ m = d) := by
  have : i = 0 ∨ i = 1 ∨ i = 2 ∨ i = 3 := by omega
  rcases this with rfl | rfl | rfl | rfl
  · exact ⟨a, rfl, by omega⟩
  · exact ⟨b, rfl, by omega⟩
  · exact ⟨c, rfl, by omega⟩
  · exact ⟨d, rfl, by omega⟩
theorem bt_circB (p q r : Bool) : bt (circB p q r) ((0 : Nat) : Int) = 43 ∧ (bt (circB p q r) ((1 : Nat) : Int) = 43 ↔ p = true) ∧ (bt (circB p q r) ((2 : Nat) : Int) = 43 ↔ q = true) ∧ (bt (circB p q r) ((3 : Nat) : Int) = 43 ↔ r = true) := by
  cases p <;> cases q <;> cases r <;> decide +kernel
theorem impl_split_loop (p q r : Bool) {a b c d : Nat} (ha : a < 7) (hb : b < 7) (hc : c < 7) (hd : d < 7) (h : dist4 a b c d = true) :
    Ev (fun k => impl_chi_split.l0 k (circB p q r) 0 0 [(a : Int), (b : Int), (c : Int), (d : Int)] 4 0) (((splitN p q r a b c d).1 : Int), ((splitN p q r a b c d).2 : Int)) := by
  have key := loop_up (σ := Int × Int) (ρ := Int × Int) (lo := 0) (n := 4) (K := fun s _ => some s) (L := fun i s k => impl_chi_split.l0 k (circB p q r) s.1 s.2 [(a : Int), (b : Int), (c : Int), (d : Int)] 4 i)
    (fun s i => .ok (if bt (circB p q r) (i : Int) = 43 then (Go.bits .or .i64 s.1 (shl .i64 1 (rd [(a : Int), (b : Int), (c : Int), (d : Int)] (i : Int))), s.2) else (s.1, Go.bits .or .i64 s.2 (shl .i64 1 (rd [(a : Int), (b : Int), (c : Int), (d : Int)] (i : Int))))))
    (fun s => ?_) (fun i _ hi s => ?_) (by omega) (0, 0)
  · rw [foldlM_ok] at key
    refine ev_cast (key _ (Ev.now _)) ?_
    have o1 := (ok_facts (side_ok ha hb hc hd h true p q r)).1
    have o2 := (ok_facts (side_ok ha hb hc hd h false p q r)).1
    have e := side_sum p q r a b c d
    rw [← e]
    rw [← o1, ← o2]
    show (List.range' 0 4).foldl _ _ = _
    rw [show List.range' 0 4 = [0, 1, 2, 3] from rfl]
    obtain ⟨b0, b1, b2, b3⟩ := bt_circB p q r
    obtain ⟨r0, r1, r2, r3⟩ := rd4 (a : Int) (b : Int) (c : Int) (d : Int)
    simp only [List.foldl_cons, List.foldl_nil, r0, r1, r2, r3, b0, b1, b2, b3]
    cases p <;> cases q <;> cases r <;> rfl
  · refine Goes.step ?_
    simp only [impl_chi_split.l0]
    exact Goes.neg (by omega) (Goes.ok (K := fun s _ => some s) s)
  · obtain ⟨m, hm, hm4⟩ := rd4_mem (a := a) (b := b) (c := c) (d := d) hi
    refine Goes.step ?_
    simp only [impl_chi_split.l0]
    refine Goes.pos (by omega) (Goes.pos (by omega) (Goes.pos (by simp only [List.length_cons, List.length_nil]; omega) (Goes.pos (by show (i : Int) < 4; omega) ?_)))
    rw [wrap_id (by omega) (by omega)]
    by_cases g : bt (circB p q r) (i : Int) = 43
    · rw [if_pos g]
      exact Goes.pos g (Goes.pos (by rw [hm]; omega) (Goes.ok _))
    · rw [if_neg g]
      exact Goes.neg g (Goes.pos (by rw [hm]; omega) (Goes.ok _))
theorem spec_split_loop (p q r : Bool) {a b c d : Nat} (ha : a < 7) (hb : b < 7) (hc : c < 7) (hd : d < 7) (h : dist4 a b c d = true) :
    Ev (fun k => spec_l5Split.l0 k [(a : Int), (b : Int), (c : Int), (d : Int)] (circB p q r) 0 0 0) (((splitN p q r a b c d).1 : Int), ((splitN p q r a b c d).2 : Int)) := by
  have key := loop_up (σ := Int × Int) (ρ := Int × Int) (lo := 0) (n := 4) (K := fun s _ => some s) (L := fun i s k => spec_l5Split.l0 k [(a : Int), (b : Int), (c : Int), (d : Int)] (circB p q r) s.1 s.2 i)
    (fun s i => .ok (if bt (circB p q r) (i : Int) = 43 then (wrap64 (s.1 + (shl .i64 1 (rd [(a : Int), (b : Int), (c : Int), (d : Int)] (i : Int)))), s.2) else (s.1, wrap64 (s.2 + (shl .i64 1 (rd [(a : Int), (b : Int), (c : Int), (d : Int)] (i : Int)))))))
    (fun s => ?_) (fun i _ hi s => ?_) (by omega) (0, 0)
  · rw [foldlM_ok] at key
    refine ev_cast (key _ (Ev.now _)) ?_
    have o1 := (ok_facts (side_ok ha hb hc hd h true p q r)).2.1
    have o2 := (ok_facts (side_ok ha hb hc hd h false p q r)).2.1
    have e := side_sum p q r a b c d
    rw [← e]
    rw [← o1, ← o2]
    show (List.range' 0 4).foldl _ _ = _
    rw [show List.range' 0 4 = [0, 1, 2, 3] from rfl]
    obtain ⟨b0, b1, b2, b3⟩ := bt_circB p q r
    obtain ⟨r0, r1, r2, r3⟩ := rd4 (a : Int) (b : Int) (c : Int) (d : Int)
    simp only [List.foldl_cons, List.foldl_nil, r0, r1, r2, r3, b0, b1, b2, b3]
    cases p <;> cases q <;> cases r <;> rfl
  · refine Goes.step ?_
    simp only [spec_l5Split.l0]
    exact Goes.neg (by omega) (Goes.ok (K := fun s _ => some s) s)
  · obtain ⟨m, hm, hm4⟩ := rd4_mem (a := a) (b := b) (c := c) (d := d) hi
    have hu : IntKind.u64.wrap (rd [(a : Int), (b : Int), (c : Int), (d : Int)] (i : Int)) = rd [(a : Int), (b : Int), (c : Int), (d : Int)] (i : Int) := by
      rw [hm]; exact u64_id (by omega)
    refine Goes.step ?_
    simp only [spec_l5Split.l0, hu]
    refine Goes.pos (by omega) (Goes.pos (by omega) (Goes.pos (by show (i : Int) < 4; omega) ?_))
    rw [wrap_id (x := (i : Int) + 1) (by omega) (by omega)]
    by_cases g : bt (circB p q r) (i : Int) = 43
    · rw [if_pos g]
      exact Goes.pos g (Goes.pos (by simp only [List.length_cons, List.length_nil]; omega) (Goes.pos (by rw [hm]; omega) (Goes.ok _)))
    · rw [if_neg g]
      exact Goes.neg g (Goes.pos (by simp only [List.length_cons, List.length_nil]; omega) (Goes.pos (by rw [hm]; omega) (Goes.ok _)))
def splitV (n : Nat) (t : ByteArray) (a b c d : Nat) : Nat × Nat := splitN (decide (-(chi n t b c d) * chi n t a c d > 0)) (decide (chi n t b c d * chi n t a b d > 0)) (decide (-(chi n t b c d) * chi n t a b c > 0)) a b c d
def innerV (n : Nat) (t : ByteArray) (a b c d : Nat) : Int := mx (onlyV (splitV n t a b c d).1) (onlyV (splitV n t a b c d).2)
theorem dist4_iff {a b c d : Nat} : dist4 a b c d = true ↔ (a ≠ b ∧ a ≠ c ∧ a ≠ d ∧ b ≠ c ∧ b ≠ d ∧ c ≠ d) := by
  simp only [dist4, Bool.and_eq_true, decide_eq_true_eq]
  constructor <;> intro h <;> omega
theorem splitV_lt {n : Nat} (t : ByteArray) {a b c d : Nat} (ha : a < 7) (hb : b < 7) (hc : c < 7) (hd : d < 7) (h : dist4 a b c d = true) : (splitV n t a b c d).1 < 128 ∧ (splitV n t a b c d).2 < 128 := by
  unfold splitV
  rw [← side_sum]
  exact ⟨(ok_facts (side_ok ha hb hc hd h true _ _ _)).2.2, (ok_facts (side_ok ha hb hc hd h false _ _ _)).2.2⟩
section
variable {n : Nat} {t : ByteArray} (h : areOk n t = true) {a b c d : Nat} (ha : a < n) (hb : b < n) (hc : c < n) (hd : d < n) (hx : dist4 a b c d = true)
include h ha hb hc hd hx
theorem impl_split : Ev (fun k => impl_chi_split.f k (tblL n t) (a : Int) (b : Int) (c : Int) (d : Int)) (((splitV n t a b c d).1 : Int), ((splitV n t a b c d).2 : Int)) := by
  obtain ⟨⟨h0, h1⟩, _, _⟩ := (areOk_iff _ _).1 h
  obtain ⟨e1, e2, e3, e4, e5, e6⟩ := dist4_iff.1 hx
  unfold impl_chi_split.f
  refine Ev.bind (chi_circuit_ev h ha hb hc hd e1 e2 e3 e4 e5 e6) (ev_call rfl ?_)
  rw [circT_B]
  exact impl_split_loop _ _ _ (by omega) (by omega) (by omega) (by omega) hx
theorem spec_split : Ev (fun k => spec_l5Split.f k (n : Int) t [(a : Int), (b : Int), (c : Int), (d : Int)]) (((splitV n t a b c d).1 : Int), ((splitV n t a b c d).2 : Int)) := by
  obtain ⟨⟨h0, h1⟩, _, _⟩ := (areOk_iff _ _).1 h
  obtain ⟨e1, e2, e3, e4, e5, e6⟩ := dist4_iff.1 hx
  unfold spec_l5Split.f
  refine ev_pos (by simp only [List.length_cons, List.length_nil]; omega) (ev_pos (by simp only [List.length_cons, List.length_nil]; omega) (ev_pos (by simp only [List.length_cons, List.length_nil]; omega) (ev_pos (by simp only [List.length_cons, List.length_nil]; omega) ?_)))
  refine Ev.bind (spec_circ4 h ha hb hc hd e1 e2 e3 e4 e5 e6) ?_
  rw [circT_B]
  exact spec_split_loop _ _ _ (by omega) (by omega) (by omega) (by omega) hx
end
theorem order_ev (n : Int) (t : ByteArray) (hs : t.size ≤ 9223372036854775807) : Ev (fun k => impl_orderOf.f k n t) (if acyOk n t = true then (tblL n.toNat t, true) else ([], false)) := by
  unfold impl_orderOf.f
  refine Ev.bind (impl_isA n t hs) ?_
  by_cases h : acyOk n t = true
  · rw [if_pos h]
    have ha : areOk n t = true := by
      unfold acyOk at h
      rw [Bool.and_eq_true] at h
      exact mat_are h.1
    obtain ⟨⟨h0, h1⟩, _, _⟩ := (areOk_iff _ _).1 ha
    obtain ⟨N, rfl⟩ : ∃ N : Nat, n = (N : Int) := Int.eq_ofNat_of_zero_le (by omega)
    exact ev_pos h (Ev.bind (tableOf_ev ha) (Ev.now _))
  · rw [if_neg h]
    exact ev_neg h (Ev.now _)
theorem acy_are {n : Int} {t : ByteArray} (h : acyOk n t = true) : ∃ N : Nat, n = (N : Int) ∧ areOk N t = true ∧ 3 ≤ N ∧ N ≤ 7 := by
  unfold acyOk at h
  rw [Bool.and_eq_true] at h
  have ha := mat_are h.1
  obtain ⟨⟨h0, h1⟩, _, _⟩ := (areOk_iff _ _).1 ha
  obtain ⟨N, rfl⟩ : ∃ N : Nat, n = (N : Int) := Int.eq_ofNat_of_zero_le (by omega)
  exact ⟨N, rfl, ha, by omega, by omega⟩
end Go.Proofs.Ytckkfjdkaimmhaa.M
namespace Go.Proofs.Ytckkfjdkaimmhaa.M
open Go.RowKit Go.Proofs.YtckkfjdkaimmhaaW.PrintWords Go.Proofs.Ytckkfjdkaimmhaa.PX Go.Proofs.Ytckkfjdkaimmhaa.G Go.Proofs.YtckkfjdkaimmhaaW.PrintMore
theorem spec_max (a b : Int) : spec_l1Max.f a b = some (mx a b) := by
  unfold spec_l1Max.f mx
  split <;> simp <;> omega
section
variable {n : Nat} {t : ByteArray} (h : areOk n t = true) {a b c d : Nat} (ha : a < n) (hb : b < n) (hc : c < n) (hd : d < n) (hx : dist4 a b c d = true)
include h ha hb hc hd hx
theorem impl_inner : Ev (fun k => impl_chi_inner.f k (tblL n t) (a : Int) (b : Int) (c : Int) (d : Int)) (innerV n t a b c d) := by
  obtain ⟨⟨h0, h1⟩, _, _⟩ := (areOk_iff _ _).1 h
  obtain ⟨l1, l2⟩ := splitV_lt t (a := a) (b := b) (c := c) (d := d) (n := n) (by omega) (by omega) (by omega) (by omega) hx
  unfold impl_chi_inner.f
  exact Ev.bind (impl_split h ha hb hc hd hx) (Ev.bind (single_ev l1) (Ev.bind (single_ev l2) (Ev.now _)))
theorem spec_inner : Ev (fun k => spec_l5Inner.f k (n : Int) t [(a : Int), (b : Int), (c : Int), (d : Int)]) (innerV n t a b c d) := by
  obtain ⟨⟨h0, h1⟩, _, _⟩ := (areOk_iff _ _).1 h
  obtain ⟨l1, l2⟩ := splitV_lt t (a := a) (b := b) (c := c) (d := d) (n := n) (by omega) (by omega) (by omega) (by omega) hx
  unfold spec_l5Inner.f
  exact Ev.bind (spec_split h ha hb hc hd hx) (Ev.bind (only_ev l1) (Ev.bind (only_ev l2) (ev_call (spec_max _ _) (Ev.now _))))
theorem impl_inside : Ev (fun k => impl_chi_isInside.f k (tblL n t) (a : Int) (b : Int) (c : Int) (d : Int)) (innerV n t a b c d == (a : Int)) := by
  unfold impl_chi_isInside.f
  exact Ev.bind (impl_inner h ha hb hc hd hx) (Ev.now _)
end
theorem four_nat {n : Nat} {a b c d : Int} (h : areD n [a, b, c, d] = true) : ∃ A B C D : Nat, a = (A : Int) ∧ b = (B : Int) ∧ c = (C : Int) ∧ d = (D : Int) ∧ A < n ∧ B < n ∧ C < n ∧ D < n ∧ dist4 A B C D = true := by
  obtain ⟨⟨ha, hb, hc, hd⟩, e1, e2, e3, e4, e5, e6⟩ := (areD_4 _ _ _ _ _).1 h
  refine ⟨a.toNat, b.toNat, c.toNat, d.toNat, by omega, by omega, by omega, by omega, by omega, by omega, by omega, by omega, ?_⟩
  rw [dist4_iff]
  omega
end Go.Proofs.Ytckkfjdkaimmhaa.M
namespace Go.Proofs.Ytckkfjdkaimmhaa.M
open Go.RowKit Go.Proofs.YtckkfjdkaimmhaaW.PrintWords Go.Proofs.Ytckkfjdkaimmhaa.PX Go.Proofs.Ytckkfjdkaimmhaa.G
def sgC (x : Int) : UInt8 := if x > 0 then 43 else 45
def mkB (l : List UInt8) : ByteArray := ⟨l.toArray⟩
theorem mkB_size (l : List UInt8) : (mkB l).size = l.length := by simp [mkB, ByteArray.size]
theorem mkB_append (l l' : List UInt8) : mkB l ++ mkB l' = mkB (l ++ l') := by
  apply ByteArray.ext
  rw [ByteArray.data_append]
  simp [mkB]
theorem byte_ev (x : Int) : spec_l3Byte.f x = some (mkB [sgC x]) := by
  unfold spec_l3Byte.f sgC
  split <;> rfl
end Go.Proofs.Ytckkfjdkaimmhaa.M
namespace Go.Proofs.Ytckkfjdkaimmhaa.M
open Go.RowKit Go.Proofs.YtckkfjdkaimmhaaW.PrintWords Go.Proofs.Ytckkfjdkaimmhaa.PX Go.Proofs.Ytckkfjdkaimmhaa.G
def valS (n : Nat) (s : Nat → Int) (x : Nat) : Int := match lookT (tripN n) 0 x with | some z => sgv z.1 (s z.2) | none => 0
def chiS (n : Nat) (s : Nat → Int) (a b c : Nat) : Int := valS n s (ix3 a b c)
theorem chi_chiS (n : Nat) (t : ByteArray) (a b c : Nat) : chi n t a b c = chiS n (sgB t) a b c := rfl
def tripAt (n p : Nat) : S99 := (tripN n).getD p ⟨0, 0, 0⟩
theorem tripAt_eq {n p : Nat} (h : p < (tripN n).length) : tripAt n p = (tripN n)[p] := by
  unfold tripAt
  rw [List.getD_eq_getElem?_getD, List.getElem?_eq_getElem h]; rfl
def chkI (n : Nat) : Bool := (List.range (tripN n).length).all fun p => (lookT (tripN n) 0 (ix3 (tripAt n p).f0.toNat (tripAt n p).f1.toNat (tripAt n p).f2.toNat) == some (false, p)) && decide ((tripAt n p).f0 < (tripAt n p).f1) && decide ((tripAt n p).f1 < (tripAt n p).f2) && decide ((tripAt n p).f2 < n) && decide (0 ≤ (tripAt n p).f0)
theorem chkI_all {n : Nat} (h0 : 3 ≤ n) (h1 : n ≤ 7) : (chkI n && decide ((tripN n).length ≤ 35)) = true := by
  refine five (p := fun n => (chkI n && decide ((tripN n).length ≤ 35)) = true) h0 h1 ?_ ?_ ?_ ?_ ?_ <;> decide +kernel
theorem tripN_L {n : Nat} (h0 : 3 ≤ n) (h1 : n ≤ 7) : tripN n = (tripsL n).map fun q => ⟨(q.1 : Int), (q.2.1 : Int), (q.2.2 : Int)⟩ := by
  refine five (p := fun n => tripN n = (tripsL n).map fun q => ⟨(q.1 : Int), (q.2.1 : Int), (q.2.2 : Int)⟩) h0 h1 ?_ ?_ ?_ ?_ ?_ <;> kernel_rfl
theorem trip_at {n p : Nat} (h0 : 3 ≤ n) (h1 : n ≤ 7) (hp : p < (tripN n).length) : ∃ a b c : Nat, (tripN n)[p] = ⟨(a : Int), (b : Int), (c : Int)⟩ ∧ a < b ∧ b < c ∧ c < n ∧ lookT (tripN n) 0 (ix3 a b c) = some (false, p) := by
  have h := chkI_all h0 h1
  simp only [Bool.and_eq_true, decide_eq_true_eq] at h
  have h := List.all_eq_true.1 h.1 p (List.mem_range.2 hp)
  simp only [Bool.and_eq_true, decide_eq_true_eq, beq_iff_eq] at h
  obtain ⟨⟨⟨⟨g0, g1⟩, g2⟩, g3⟩, g4⟩ := h
  rw [tripAt_eq hp] at *
  generalize (tripN n)[p] = y at *
  obtain ⟨x0, x1, x2⟩ := y
  simp only at *
  refine ⟨x0.toNat, x1.toNat, x2.toNat, ?_, by omega, by omega, by omega, g0⟩
  rw [Int.toNat_of_nonneg (by omega), Int.toNat_of_nonneg (by omega), Int.toNat_of_nonneg (by omega)]
theorem chiS_at {n p a b c : Nat} {neg : Bool} (s : Nat → Int) (h : lookT (tripN n) 0 (ix3 a b c) = some (neg, p)) : chiS n s a b c = sgv neg (s p) := by
  unfold chiS valS
  rw [h]
def txtS (n : Nat) (s : Nat → Int) : ByteArray := mkB ((List.range (tripN n).length).map fun p => sgC (s p))
theorem foldl_snoc {α β : Type} (f : α → β) (l : List α) : ∀ s : List β, l.foldl (fun s a => s ++ [f a]) s = s ++ l.map f := by
  induction l with
  | nil => intro s; simp
  | cons x l ih => intro s; rw [List.foldl_cons, ih, List.map_cons, List.append_assoc]; rfl
theorem txtS_list (n : Nat) (s : Nat → Int) : (txtS n s).data.toList = (List.range (tripN n).length).map fun p => sgC (s p) := rfl
theorem txtS_ok {n : Nat} (s : Nat → Int) (h0 : 3 ≤ n) (h1 : n ≤ 7) : areOk n (txtS n s) = true := by
  rw [areOk_iff]
  refine ⟨by omega, ?_, fun c hc => ?_⟩
  · rw [← (trip_small h0 h1).2, txtS, mkB_size, List.length_map, List.length_range]
  · rw [txtS_list, List.mem_map] at hc
    obtain ⟨p, _, rfl⟩ := hc
    unfold sgC
    split <;> simp
theorem rd_trip {ts : List S99} {i : Nat} (h : i < ts.length) : rd_T99 ts (i : Int) = ts[i] := by
  unfold rd_T99
  rw [Int.toNat_natCast, List.getD_eq_getElem?_getD, List.getElem?_eq_getElem h]
  rfl
theorem txtS_trips {n : Nat} {s : Nat → Int} (g : Nat × Nat × Nat → UInt8) (h0 : 3 ≤ n) (h1 : n ≤ 7) (h : ∀ (p : Nat) (hp : p < (tripN n).length) (a b c : Nat), (tripN n)[p] = ⟨(a : Int), (b : Int), (c : Int)⟩ → sgC (s p) = g (a, b, c)) : mkB ((tripsL n).map g) = txtS n s := by
  unfold txtS
  congr 1
  have e := tripN_L h0 h1
  have el : (tripsL n).length = (tripN n).length := by rw [e, List.length_map]
  refine List.ext_getElem (by rw [List.length_map, List.length_map, List.length_range, el]) fun p hp1 hp2 => ?_
  rw [List.length_map, List.length_range] at hp2
  simp only [List.getElem_map, List.getElem_range]
  have hp : p < (tripsL n).length := by omega
  have e1 : (tripN n)[p] = ⟨((tripsL n)[p].1 : Int), ((tripsL n)[p].2.1 : Int), ((tripsL n)[p].2.2 : Int)⟩ := by
    simp only [e, List.getElem_map]
  exact (h p hp2 _ _ _ e1).symm
end Go.Proofs.Ytckkfjdkaimmhaa.M
namespace Go.Proofs.Ytckkfjdkaimmhaa.M
open Go.RowKit Go.Proofs.YtckkfjdkaimmhaaW.PrintWords Go.Proofs.Ytckkfjdkaimmhaa.PX Go.Proofs.Ytckkfjdkaimmhaa.G Go.Proofs.YtckkfjdkaimmhaaW.PrintMore
def toS3 (q : Nat × Nat × Nat) : S99 := ⟨(q.1 : Int), (q.2.1 : Int), (q.2.2 : Int)⟩
theorem tripN_S {n : Nat} (h0 : 3 ≤ n) (h1 : n ≤ 7) : tripN n = (tripsL n).map toS3 := tripN_L h0 h1
theorem rd_toS3 {qs : List (Nat × Nat × Nat)} {i : Nat} (h : i < qs.length) : rd_T99 (qs.map toS3) (i : Int) = toS3 qs[i] := by
  rw [rd_trip (by rw [List.length_map]; exact h), List.getElem_map]
theorem quads_len {n : Nat} (h0 : 3 ≤ n) (h1 : n ≤ 7) : (tripsL n).length ≤ 35 := by
  refine five (p := fun n => (tripsL n).length ≤ 35) h0 h1 ?_ ?_ ?_ ?_ ?_ <;> decide +kernel
def insB (n : Nat) (t : ByteArray) (p a b c : Nat) : Bool := decide (p ≠ a) && decide (p ≠ b) && decide (p ≠ c) && (innerV n t p a b c == (p : Int))
def cntV (n : Nat) (t : ByteArray) (a b c : Nat) : Nat := ((List.range n).filter fun p => insB n t p a b c).length
theorem insB_dist {n : Nat} {t : ByteArray} {p a b c : Nat} (h1 : p ≠ a) (h2 : p ≠ b) (h3 : p ≠ c) : insB n t p a b c = (innerV n t p a b c == (p : Int)) := by
  unfold insB
  rw [decide_eq_true h1, decide_eq_true h2, decide_eq_true h3]
  rfl
theorem cnt_fold {ρ : Type} (c : Nat → Bool) (n : Nat) : (List.range' 0 (n - 0)).foldlM (fun (s : Nat) p => (.ok (if c p then s + 1 else s) : Except ρ Nat)) 0 = .ok ((List.range n).filter c).length := by
  rw [foldlM_ok, Nat.sub_zero, ← List.range_eq_range']
  have key : ∀ (l : List Nat) (s : Nat), l.foldl (fun s p => if c p then s + 1 else s) s = s + (l.filter c).length := by
    intro l
    induction l with
    | nil => intro s; rfl
    | cons x l ih =>
      intro s
      rw [List.foldl_cons, ih, List.filter_cons]
      split
      · rw [List.length_cons]; omega
      · rfl
  rw [key, Nat.zero_add]
section
variable {n : Nat} {t : ByteArray} (h : areOk n t = true) {a b c : Nat} (ha : a < n) (hb : b < n) (hc : c < n) (hab : a ≠ b) (hac : a ≠ c) (hbc : b ≠ c)
include h ha hb hc hab hac hbc
theorem spec_cnt : Ev (fun k => spec_l5Inside.f k (n : Int) t (a : Int) (b : Int) (c : Int)) (cntV n t a b c : Int) := by
  obtain ⟨⟨h0, h1⟩, _, _⟩ := (areOk_iff _ _).1 h
  unfold spec_l5Inside.f
  have key := loop_up' (σ := Nat) (ρ := Int) (lo := 0) (n := n) (K := fun s _ => some (s : Int)) (L := fun i s k => spec_l5Inside.l0 k (a : Int) (b : Int) (c : Int) (s : Int) i (n : Int) t)
    (fun i s => s ≤ i) (fun s p => .ok (if insB n t p a b c then s + 1 else s)) (fun s _ => ?_) (fun p _ hp s hs => ?_) (fun p _ hp s hs s' e => ?_) (by omega) 0 (by omega)
  · rw [cnt_fold] at key
    exact key _ (Ev.now _)
  · refine Goes.step ?_
    simp only [spec_l5Inside.l0]
    exact Goes.neg (by omega) (Goes.ok (K := fun s _ => some (s : Int)) s)
  · refine Goes.step ?_
    simp only [spec_l5Inside.l0]
    refine Goes.pos (by omega) ?_
    rw [wrap_id (x := (p : Int) + 1) (by omega) (by omega), wrap_id (x := (s : Int) + 1) (by omega) (by omega)]
    by_cases e1 : p = a
    · rw [show insB n t p a b c = false by simp [insB, e1]]
      exact Goes.pos (by omega) (Goes.ok _)
    refine Goes.neg (by omega) ?_
    by_cases e2 : p = b
    · rw [show insB n t p a b c = false by simp [insB, e2]]
      exact Goes.pos (by omega) (Goes.ok _)
    refine Goes.neg (by omega) ?_
    by_cases e3 : p = c
    · rw [show insB n t p a b c = false by simp [insB, e3]]
      exact Goes.pos (by omega) (Goes.ok _)
    refine Goes.neg (by omega) (Goes.ev (spec_inner h hp ha hb hc (dist4_iff.2 (by omega))) ?_)
    rw [insB_dist e1 e2 e3]
    by_cases g : innerV n t p a b c = (p : Int)
    · rw [beq_iff_eq.2 g]
      exact Goes.pos g (Goes.ok (K := fun (s : Nat) k => spec_l5Inside.l0 k (a : Int) (b : Int) (c : Int) (s : Int) ((p + 1 : Nat) : Int) (n : Int) t) (s + 1))
    · rw [beq_eq_false_iff_ne.2 g]
      exact Goes.neg g (Goes.ok _)
  · cases e
    split <;> omega
theorem impl_cnt : Ev (fun k => impl_chi_countInside.f k (tblL n t) (a : Int) (b : Int) (c : Int)) (cntV n t a b c : Int) := by
  obtain ⟨⟨h0, h1⟩, _, _⟩ := (areOk_iff _ _).1 h
  unfold impl_chi_countInside.f
  have key := loop_up' (σ := Nat) (ρ := Int) (lo := 0) (n := n) (K := fun s _ => some (s : Int)) (L := fun i s k => impl_chi_countInside.l0 k (tblL n t) (a : Int) (b : Int) (c : Int) (s : Int) i)
    (fun i s => s ≤ i) (fun s p => .ok (if insB n t p a b c then s + 1 else s)) (fun s _ => ?_) (fun p _ hp s hs => ?_) (fun p _ hp s hs s' e => ?_) (by omega) 0 (by omega)
  · rw [cnt_fold] at key
    exact key _ (Ev.now _)
  · refine Goes.step ?_
    simp only [impl_chi_countInside.l0, tbl_n]
    exact Goes.neg (by omega) (Goes.ok (K := fun s _ => some (s : Int)) s)
  · refine Goes.step ?_
    simp only [impl_chi_countInside.l0, tbl_n]
    refine Goes.pos (by omega) ?_
    rw [wrap_id (x := (p : Int) + 1) (by omega) (by omega), wrap_id (x := (s : Int) + 1) (by omega) (by omega)]
    by_cases e1 : p = a
    · rw [show insB n t p a b c = false by simp [insB, e1]]
      exact Goes.pos (by omega) (Goes.ok _)
    refine Goes.neg (by omega) ?_
    by_cases e2 : p = b
    · rw [show insB n t p a b c = false by simp [insB, e2]]
      exact Goes.pos (by omega) (Goes.ok _)
    refine Goes.neg (by omega) ?_
    by_cases e3 : p = c
    · rw [show insB n t p a b c = false by simp [insB, e3]]
      exact Goes.pos (by omega) (Goes.ok _)
    refine Goes.neg (by omega) (Goes.ev (impl_inside h hp ha hb hc (dist4_iff.2 (by omega))) ?_)
    rw [insB_dist e1 e2 e3]
    cases g : innerV n t p a b c == (p : Int) with
    | true => exact Goes.pos (by trivial) (Goes.ok (K := fun (s : Nat) k => impl_chi_countInside.l0 k (tblL n t) (a : Int) (b : Int) (c : Int) (s : Int) ((p + 1 : Nat) : Int)) (s + 1))
    | false => exact Goes.neg (by decide) (Goes.ok _)
  · cases e
    split <;> omega
end
end Go.Proofs.Ytckkfjdkaimmhaa.M
namespace Go.Proofs.Ytckkfjdkaimmhaa.M
open Go.RowKit Go.Proofs.YtckkfjdkaimmhaaW.PrintWords Go.Proofs.Ytckkfjdkaimmhaa.PX
theorem take_contains (l : List Int) (i : Nat) (hi : i ≤ l.length) (y : Int) : (l.take i).contains y = (List.range' 0 (i - 0)).any fun j => decide (y = l.getD j 0) := by
  have e : l.take i = (List.range i).map fun j => l.getD j 0 := by
    refine List.ext_getElem (by rw [List.length_take, List.length_map, List.length_range]; omega) fun k h1 h2 => ?_
    rw [List.length_take] at h1
    simp only [List.getElem_take, List.getElem_map, List.getElem_range]
    rw [List.getD_eq_getElem?_getD, List.getElem?_eq_getElem (by omega)]
    rfl
  rw [e, Nat.sub_zero, ← List.range_eq_range', List.contains_eq_any_beq, List.any_map]
  rfl
theorem dif5_ev {n : Int} (h0 : 3 ≤ n) (h1 : n ≤ 7) (l : List Int) (hl : l.length ≤ 1000000) : Ev (fun k => spec_l5Different.f k n l) (areD n l) := by
  unfold spec_l5Different.f
  have key := loop_up (σ := Unit) (ρ := Bool) (lo := 0) (n := l.length) (K := fun _ _ => some true) (L := fun i _ k => spec_l5Different.l0 k n l i)
    (fun _ i => if (inR n (l.getD i 0) && !((l.take i).contains (l.getD i 0))) = false then .error false else .ok ()) (fun u => ?_) (fun i _ hi u => ?_) (by omega) ()
  · have e := foldlM_any (ρ := Bool) (fun i => !(inR n (l.getD i 0) && !((l.take i).contains (l.getD i 0)))) false (List.range' 0 (l.length - 0))
    have e2 : (fun (_ : Unit) (a : Nat) => if (!(inR n (l.getD a 0) && !((l.take a).contains (l.getD a 0)))) = true then (.error false : Except Bool Unit) else .ok ()) = fun (_ : Unit) (i : Nat) => if (inR n (l.getD i 0) && !((l.take i).contains (l.getD i 0))) = false then .error false else .ok () := by
      funext _ i
      cases inR n (l.getD i 0) && !((l.take i).contains (l.getD i 0)) <;> rfl
    rw [e2] at e
    rw [e] at key
    have e3 : areD n l = !((List.range' 0 (l.length - 0)).any fun i => !(inR n (l.getD i 0) && !((l.take i).contains (l.getD i 0)))) := by
      unfold areD
      rw [Nat.sub_zero, ← List.range_eq_range', List.not_any_eq_all_not]
      simp only [Bool.not_not]
    rw [e3]
    cases hq : (List.range' 0 (l.length - 0)).any fun i => !(inR n (l.getD i 0) && !((l.take i).contains (l.getD i 0))) with
    | true => rw [hq] at key; exact key
    | false => rw [hq] at key; exact key _ (Ev.now _)
  · refine Goes.step ?_
    simp only [spec_l5Different.l0]
    exact Goes.neg (by omega) (Goes.ok (K := fun _ _ => some true) u)
  · have hr : ∀ j : Nat, rd l (j : Int) = l.getD j 0 := fun j => by unfold rd; rw [Int.toNat_natCast]
    refine Goes.step ?_
    simp only [spec_l5Different.l0, hr]
    refine Goes.pos (by omega) (Goes.pos (by omega) (Goes.call (spec_in _ _ _) ?_))
    rw [wrap_id (by omega) (by omega)]
    cases hin : inR n (l.getD i 0) with
    | false =>
      simp only [inR, Bool.and_eq_false_iff, decide_eq_false_iff_not] at hin
      refine Goes.neg ?_ (Goes.ret _)
      simp only [Bool.and_eq_true, decide_eq_true_eq]
      omega
    | true =>
      simp only [inR, Bool.and_eq_true, decide_eq_true_eq] at hin
      refine Goes.pos (by simp only [Bool.and_eq_true, decide_eq_true_eq]; omega) ?_
      rw [Bool.true_and, take_contains l i (by omega)]
      have inner := loop_up (σ := Unit) (ρ := Bool) (lo := 0) (n := i) (K := fun _ k => spec_l5Different.l0 k n l ((i + 1 : Nat) : Int)) (L := fun j _ k => spec_l5Different.l1 k n l (i : Int) j)
        (fun _ j => if decide (l.getD i 0 = l.getD j 0) then .error false else .ok ()) (fun u => ?_) (fun j _ hj u => ?_) (by omega) ()
      · rw [foldlM_any (ρ := Bool) (fun j => decide (l.getD i 0 = l.getD j 0)) false (List.range' 0 (i - 0))] at inner
        refine Goes.cast inner ?_
        cases (List.range' 0 (i - 0)).any fun j => decide (l.getD i 0 = l.getD j 0) <;> rfl
      · refine Goes.step ?_
        simp only [spec_l5Different.l1]
        refine Goes.neg (by omega) ?_
        rw [wrap_id (by omega) (by omega)]
        exact Goes.ok (K := fun _ k => spec_l5Different.l0 k n l ((i + 1 : Nat) : Int)) u
      · refine Goes.step ?_
        simp only [spec_l5Different.l1, hr]
        refine Goes.pos (by omega) (Goes.pos (by omega) (Goes.pos (by omega) (Goes.pos (by omega) (Goes.pos (by omega) ?_))))
        rw [wrap_id (by omega) (by omega)]
        by_cases g : l.getD i 0 = l.getD j 0
        · rw [decide_eq_true g]
          exact Goes.pos g (Goes.ret _)
        · rw [decide_eq_false g]
          exact Goes.neg g (Goes.ok (K := fun _ k => spec_l5Different.l1 k n l (i : Int) ((j + 1 : Nat) : Int)) u)
end Go.Proofs.Ytckkfjdkaimmhaa.M
namespace Go.Proofs.Ytckkfjdkaimmhaa.M
open Go.RowKit Go.Proofs.YtckkfjdkaimmhaaW.PrintWords Go.Proofs.Ytckkfjdkaimmhaa.PX Go.Proofs.Ytckkfjdkaimmhaa.G Go.Proofs.YtckkfjdkaimmhaaW.PrintMore
def cntA (n : Int) (t : ByteArray) (a b c : Int) : Int := if acyOk n t = true ∧ areD n [a, b, c] = true then (cntV n.toNat t a.toNat b.toNat c.toNat : Int) else -1
theorem three_nat {n : Nat} {a b c : Int} (h : areD n [a, b, c] = true) : ∃ A B C : Nat, a = (A : Int) ∧ b = (B : Int) ∧ c = (C : Int) ∧ A < n ∧ B < n ∧ C < n ∧ A ≠ B ∧ A ≠ C ∧ B ≠ C := by
  obtain ⟨ha, hb, hc, e1, e2, e3⟩ := (areD_3 _ _ _ _).1 h
  exact ⟨a.toNat, b.toNat, c.toNat, by omega, by omega, by omega, by omega, by omega, by omega, by omega, by omega, by omega⟩
theorem impl_countInside (n : Int) (t : ByteArray) (a b c : Int) (hs : t.size ≤ 9223372036854775807) : Ev (fun k => impl_CountInside.f k n t a b c) (cntA n t a b c) := by
  unfold impl_CountInside.f cntA
  refine Ev.bind (order_ev n t hs) ?_
  by_cases h : acyOk n t = true
  · rw [if_pos h]
    obtain ⟨N, rfl, ho, h0, h1⟩ := acy_are h
    refine ev_pos rfl (Ev.bind (different_ev N [a, b, c] (by simp)) ?_)
    by_cases hd : areD N [a, b, c] = true
    · rw [if_pos ⟨h, hd⟩]
      obtain ⟨A, B, C, rfl, rfl, rfl, ha, hb, hc, hab, hac, hbc⟩ := three_nat hd
      simp only [Int.toNat_natCast]
      exact ev_pos hd (ev_pos (tblL_length _ _) (Ev.bind (impl_cnt ho ha hb hc hab hac hbc) (Ev.now _)))
    · rw [if_neg (fun e => hd e.2)]
      exact ev_neg hd (Ev.now _)
  · rw [if_neg h, if_neg (fun e => h e.1)]
    exact ev_neg (by simp) (Ev.now _)
theorem spec_countInside (n : Int) (t : ByteArray) (a b c : Int) (hs : t.size ≤ 9223372036854775807) : Ev (fun k => spec_CountInside.f k n t a b c) (cntA n t a b c) := by
  unfold spec_CountInside.f cntA
  refine Ev.bind (spec_isA n t hs) ?_
  by_cases h : acyOk n t = true
  · obtain ⟨N, rfl, ho, h0, h1⟩ := acy_are h
    refine ev_pos h (Ev.bind (dif5_ev (by omega) (by omega) [a, b, c] (by simp)) ?_)
    by_cases hd : areD N [a, b, c] = true
    · rw [if_pos ⟨h, hd⟩]
      obtain ⟨A, B, C, rfl, rfl, rfl, ha, hb, hc, hab, hac, hbc⟩ := three_nat hd
      simp only [Int.toNat_natCast]
      exact ev_pos hd (Ev.bind (spec_cnt ho ha hb hc hab hac hbc) (Ev.now _))
    · rw [if_neg (fun e => hd e.2)]
      exact ev_neg hd (Ev.now _)
  · rw [if_neg (fun e => h e.1)]
    exact ev_neg h (Ev.now _)
end Go.Proofs.Ytckkfjdkaimmhaa.M
namespace Go.Proofs.Ytckkfjdkaimmhaa.M
open Go.RowKit Go.Proofs.YtckkfjdkaimmhaaW.PrintWords Go.Proofs.Ytckkfjdkaimmhaa.PX Go.Proofs.Ytckkfjdkaimmhaa.G Go.Proofs.YtckkfjdkaimmhaaW.PrintMore
def noInner (n : Nat) (t : ByteArray) (q : Nat × Nat × Nat × Nat) : Bool := decide (innerV n t q.1 q.2.1 q.2.2.1 q.2.2.2 < 0)
def listQ (q : Nat × Nat × Nat × Nat) : List Int := [(q.1 : Int), (q.2.1 : Int), (q.2.2.1 : Int), (q.2.2.2 : Int)]
def quadsV (n : Nat) (t : ByteArray) : List (List Int) := ((quadsL n).filter (noInner n t)).map listQ
def quadsA (n : Int) (t : ByteArray) : List (List Int) := if acyOk n t = true then quadsV n.toNat t else []
theorem quads_fold (n : Nat) (t : ByteArray) : (quadsL n).foldlM (fun (u : List (List Int)) q => (.ok (if noInner n t q then u ++ [listQ q] else u) : Except (List (List Int)) (List (List Int)))) [] = .ok (quadsV n t) := by
  rw [foldlM_ok, foldl_filter, List.nil_append]
  rfl
theorem impl_quads (n : Int) (t : ByteArray) (hs : t.size ≤ 9223372036854775807) : Ev (fun k => impl_QuadsOf.f k n t) (quadsA n t) := by
  unfold impl_QuadsOf.f quadsA
  refine Ev.bind (order_ev n t hs) ?_
  by_cases h : acyOk n t = true
  · rw [if_pos h, if_pos h]
    obtain ⟨N, rfl, ho, h0, h1⟩ := acy_are h
    simp only [Int.toNat_natCast]
    obtain ⟨hq, hq35⟩ := quadQ_L h0 h1
    refine ev_pos (by trivial) (Ev.bind (quads_ev h0 h1) ?_)
    rw [hq]
    have hl : ((quadsL N).map toS4).length = (quadsL N).length := List.length_map ..
    have key := loop_up' (σ := List (List Int)) (ρ := List (List Int)) (lo := 0) (n := (quadsL N).length) (K := fun s _ => some s) (L := fun i s k => impl_QuadsOf.l0 k (tblL N t) s ((quadsL N).map toS4) (((quadsL N).map toS4).length : Int) i)
      (fun i s => s.length ≤ i) (fun s i => .ok (if noInner N t ((quadsL N).getD i (0, 0, 0, 0)) then s ++ [listQ ((quadsL N).getD i (0, 0, 0, 0))] else s)) (fun s _ => ?_) (fun i _ hi s hs => ?_) (fun p _ hp s hs s' e => ?_) (by omega) [] (by simp)
    · rw [foldlM_index (0, 0, 0, 0) (fun (s : List (List Int)) (q : Nat × Nat × Nat × Nat) => (.ok (if noInner N t q then s ++ [listQ q] else s) : Except (List (List Int)) (List (List Int)))), quads_fold] at key
      exact key _ (Ev.now _)
    · refine Goes.step ?_
      simp only [impl_QuadsOf.l0]
      exact Goes.neg (by omega) (Goes.ok (K := fun s _ => some s) s)
    · have hg : (quadsL N).getD i (0, 0, 0, 0) = (quadsL N)[i] := by rw [List.getD_eq_getElem?_getD, List.getElem?_eq_getElem hi]; rfl
      have hm := List.getElem_mem hi
      rw [hg]
      refine Goes.step ?_
      simp only [impl_QuadsOf.l0, rd_toS4 hi]
      generalize (quadsL N)[i] = q at *
      obtain ⟨a, b, c, d⟩ := q
      obtain ⟨hab, hbc, hcd, hd⟩ := mem_quads hm
      simp only [toS4]
      refine Goes.pos (by omega) (Goes.pos (by omega) (Goes.pos (by omega) (Goes.pos (tblL_length _ _) (Goes.ev (impl_inner ho (by omega) (by omega) (by omega) hd (dist4_iff.2 (by omega))) ?_))))
      rw [wrap_id (by omega) (by omega)]
      by_cases g : innerV N t a b c d < 0
      · rw [show noInner N t (a, b, c, d) = true from decide_eq_true g]
        exact Goes.pos g (Goes.pos (by omega) (Goes.ok (K := fun s k => impl_QuadsOf.l0 k (tblL N t) s ((quadsL N).map toS4) (((quadsL N).map toS4).length : Int) ((i + 1 : Nat) : Int)) _))
      · rw [show noInner N t (a, b, c, d) = false from decide_eq_false g]
        exact Goes.neg g (Goes.ok (K := fun s k => impl_QuadsOf.l0 k (tblL N t) s ((quadsL N).map toS4) (((quadsL N).map toS4).length : Int) ((i + 1 : Nat) : Int)) _)
    · cases e
      split
      · rw [List.length_append, List.length_cons, List.length_nil]; omega
      · omega
  · rw [if_neg h, if_neg h]
    exact ev_neg (by simp) (Ev.now _)
theorem spec_quads (n : Int) (t : ByteArray) (hs : t.size ≤ 9223372036854775807) : Ev (fun k => spec_QuadsOf.f k n t) (quadsA n t) := by
  unfold spec_QuadsOf.f quadsA
  refine ev_call rfl (Ev.bind (spec_isA n t hs) ?_)
  by_cases h : acyOk n t = true
  · rw [if_pos h]
    refine ev_pos h ?_
    obtain ⟨N, rfl, ho, h0, h1⟩ := acy_are h
    simp only [Int.toNat_natCast]
    have key := loops4B (σ := List (List Int)) (ρ := List (List Int)) (n := N) (K := fun s _ => some s) (L0 := fun a s k => spec_QuadsOf.l0 k s a (N : Int) t) (L1 := fun a b s k => spec_QuadsOf.l1 k s a b (N : Int) t) (L2 := fun a b c s k => spec_QuadsOf.l2 k s a b c (N : Int) t)
      (L3 := fun a b c d s k => spec_QuadsOf.l3 k s a b c d (N : Int) t) h1 List.length 0 (fun s q => .ok (if noInner N t q then s ++ [listQ q] else s)) (foldlM_okL _ _ fun s a => by split <;> simp)
      (fun s => ?_) (fun a ha s => ?_) (fun a ha s => ?_) (fun a b hab hb s => ?_) (fun a b hab hb s => ?_) (fun a b c hab hbc hc s => ?_) (fun a b c hab hbc hc s => ?_) (fun a b c d hab hbc hcd hd s hs => ?_) [] (Nat.le_refl _)
    · rw [quads_fold] at key
      exact key _ (Ev.now _)
    · refine Goes.step ?_
      simp only [spec_QuadsOf.l0]
      exact Goes.neg (by omega) (Goes.ok (K := fun s _ => some s) s)
    · refine Goes.step ?_
      simp only [spec_QuadsOf.l0]
      refine Goes.pos (by omega) ?_
      rw [wrap_id (by omega) (by omega)]
      exact Goes.ok (K := fun s k => spec_QuadsOf.l1 k s (a : Int) ((a + 1 : Nat) : Int) (N : Int) t) s
    · refine Goes.step ?_
      simp only [spec_QuadsOf.l1]
      refine Goes.neg (by omega) ?_
      rw [wrap_id (by omega) (by omega)]
      exact Goes.ok (K := fun s k => spec_QuadsOf.l0 k s ((a + 1 : Nat) : Int) (N : Int) t) s
    · refine Goes.step ?_
      simp only [spec_QuadsOf.l1]
      refine Goes.pos (by omega) ?_
      rw [wrap_id (by omega) (by omega)]
      exact Goes.ok (K := fun s k => spec_QuadsOf.l2 k s (a : Int) (b : Int) ((b + 1 : Nat) : Int) (N : Int) t) s
    · refine Goes.step ?_
      simp only [spec_QuadsOf.l2]
      refine Goes.neg (by omega) ?_
      rw [wrap_id (by omega) (by omega)]
      exact Goes.ok (K := fun s k => spec_QuadsOf.l1 k s (a : Int) ((b + 1 : Nat) : Int) (N : Int) t) s
    · refine Goes.step ?_
      simp only [spec_QuadsOf.l2]
      refine Goes.pos (by omega) ?_
      rw [wrap_id (by omega) (by omega)]
      exact Goes.ok (K := fun s k => spec_QuadsOf.l3 k s (a : Int) (b : Int) (c : Int) ((c + 1 : Nat) : Int) (N : Int) t) s
    · refine Goes.step ?_
      simp only [spec_QuadsOf.l3]
      refine Goes.neg (by omega) ?_
      rw [wrap_id (by omega) (by omega)]
      exact Goes.ok (K := fun s k => spec_QuadsOf.l2 k s (a : Int) (b : Int) ((c + 1 : Nat) : Int) (N : Int) t) s
    · refine Goes.step ?_
      simp only [spec_QuadsOf.l3]
      refine Goes.pos (by omega) (Goes.call rfl (Goes.ev (spec_inner ho (by omega) (by omega) (by omega) hd (dist4_iff.2 (by omega))) ?_))
      rw [wrap_id (by omega) (by omega)]
      by_cases g : innerV N t a b c d < 0
      · rw [show noInner N t (a, b, c, d) = true from decide_eq_true g]
        exact Goes.pos g (Goes.pos (by omega) (Goes.ok (K := fun s k => spec_QuadsOf.l3 k s (a : Int) (b : Int) (c : Int) ((d + 1 : Nat) : Int) (N : Int) t) _))
      · rw [show noInner N t (a, b, c, d) = false from decide_eq_false g]
        exact Goes.neg g (Goes.ok (K := fun s k => spec_QuadsOf.l3 k s (a : Int) (b : Int) (c : Int) ((d + 1 : Nat) : Int) (N : Int) t) _)
  · rw [if_neg h]
    exact ev_neg h (Ev.now _)
end Go.Proofs.Ytckkfjdkaimmhaa.M
namespace Go.Proofs.Ytckkfjdkaimmhaa.M
open Go.RowKit Go.Proofs.YtckkfjdkaimmhaaW.PrintWords Go.Proofs.Ytckkfjdkaimmhaa.PX Go.Proofs.Ytckkfjdkaimmhaa.G Go.Proofs.YtckkfjdkaimmhaaW.PrintMore
def cntQA (n : Int) (t : ByteArray) : Int := if acyOk n t = true then ((quadsA n t).length : Int) else -1
theorem impl_cntQ (n : Int) (t : ByteArray) (hs : t.size ≤ 9223372036854775807) : Ev (fun k => impl_CountQuads.f k n t) (cntQA n t) := by
  unfold impl_CountQuads.f cntQA
  refine Ev.bind (impl_isA n t hs) ?_
  by_cases h : acyOk n t = true
  · rw [if_pos h]
    exact ev_pos h (Ev.bind (impl_quads n t hs) (Ev.now _))
  · rw [if_neg h]
    exact ev_neg h (Ev.now _)
theorem spec_cntQ (n : Int) (t : ByteArray) (hs : t.size ≤ 9223372036854775807) : Ev (fun k => spec_CountQuads.f k n t) (cntQA n t) := by
  unfold spec_CountQuads.f cntQA
  refine Ev.bind (spec_isA n t hs) ?_
  by_cases h : acyOk n t = true
  · rw [if_pos h]
    exact ev_pos h (Ev.bind (spec_quads n t hs) (Ev.now _))
  · rw [if_neg h]
    exact ev_neg h (Ev.now _)
end Go.Proofs.Ytckkfjdkaimmhaa.M
namespace Go.Proofs.Ytckkfjdkaimmhaa.M
open Go.RowKit Go.Proofs.YtckkfjdkaimmhaaW.PrintWords Go.Proofs.Ytckkfjdkaimmhaa.PX
theorem and255 (n : Int) : Go.bits .and .i64 n 255 = n % 256 := by
  have h255 : (BitVec.ofInt 64 255).toNat = 2 ^ 8 - 1 := by decide
  have key : (BitVec.ofInt 64 n &&& BitVec.ofInt 64 255).toNat = (n % ((2 ^ 64 : Nat) : Int)).toNat % 2 ^ 8 := by
    rw [BitVec.toNat_and, BitVec.toNat_ofInt, h255, Nat.and_two_pow_sub_one_eq_mod]
  show IntKind.i64.wrap ((BitVec.ofInt 64 n &&& BitVec.ofInt 64 255).toNat : Nat) = n % 256
  rw [key, IntKind.wrap_i64]
  omega
def Cur (l : List Int) (i : Int) : Prop := 0 ≤ i ∧ i ≤ (l.length : Int)
theorem byte_ok {l : List Int} (hl : l.length ≤ 1048576) {i : Int} (hc : Cur l i) (h : Int) : ∃ x i' h', spec_l1Byte.f l i h = some (x, i', h') ∧ (0 ≤ x ∧ x ≤ 255) ∧ Cur l i' := by
  obtain ⟨h0, h1⟩ := hc
  unfold spec_l1Byte.f
  by_cases g : i < (l.length : Int)
  · rw [if_pos g, if_pos h0, and255, and255]
    refine ⟨_, _, _, rfl, by omega, ?_, ?_⟩
    · rw [wrap_id (by omega) (by omega)]; omega
    · rw [wrap_id (by omega) (by omega)]; omega
  · rw [if_neg g, and255]
    exact ⟨_, _, _, rfl, by omega, h0, h1⟩
theorem below_ok {l : List Int} (hl : l.length ≤ 1048576) {i : Int} (hc : Cur l i) (h n : Int) : ∃ x i' h', spec_l1Below.f l i h n = some (x, i', h') ∧ (n ≤ 0 → x = 0) ∧ (0 < n → 0 ≤ x ∧ x < n) ∧ Cur l i' := by
  unfold spec_l1Below.f
  by_cases g : n ≤ 0
  · rw [if_pos g]
    exact ⟨_, _, _, rfl, fun _ => rfl, fun h => by omega, hc⟩
  · rw [if_neg g]
    have tm : ∀ x : Int, 0 ≤ x → 0 ≤ Int.tmod x n ∧ Int.tmod x n < n := fun x hx => by
      rw [Int.tmod_eq_emod_of_nonneg hx]
      exact ⟨Int.emod_nonneg _ (by omega), Int.emod_lt_of_pos _ (by omega)⟩
    by_cases g' : n ≤ 256
    · rw [if_pos g']
      obtain ⟨x, i1, h1, e1, b1, c1⟩ := byte_ok hl hc h
      rw [e1]
      simp only [Option.bind_some]
      rw [if_neg (by omega)]
      exact ⟨_, _, _, rfl, fun h => by omega, fun _ => tm x b1.1, c1⟩
    · rw [if_neg g']
      obtain ⟨x, i1, h1, e1, b1, c1⟩ := byte_ok hl hc h
      obtain ⟨y, i2, h2, e2, b2, c2⟩ := byte_ok hl c1 h1
      obtain ⟨z, i3, h3, e3, b3, c3⟩ := byte_ok hl c2 h2
      obtain ⟨w, i4, h4, e4, b4, c4⟩ := byte_ok hl c3 h3
      rw [e1]
      simp only [Option.bind_some]
      rw [e2]
      simp only [Option.bind_some]
      rw [e3]
      simp only [Option.bind_some]
      rw [e4]
      simp only [Option.bind_some]
      rw [if_neg (by omega)]
      refine ⟨_, _, _, rfl, fun h => by omega, fun _ => tm _ ?_, c4⟩
      rw [wrap_id (x := x * 16777216) (by omega) (by omega), wrap_id (x := y * 65536) (by omega) (by omega), wrap_id (x := z * 256) (by omega) (by omega), wrap_id (x := x * 16777216 + y * 65536) (by omega) (by omega)]
      rw [wrap_id (x := x * 16777216 + y * 65536 + z * 256) (by omega) (by omega), wrap_id (by omega) (by omega)]
      omega
theorem new_ok (l : List Int) (_ : l.length ≤ 1048576) : ∃ h, Ev (fun k => spec_l1New.f k l) (l, 0, h) := by
  have key : ∀ (d i : Nat) (x : Int), i + d = l.length → ∃ h, Ev (fun k => spec_l1New.l0 k l x (i : Int)) (l, 0, h) := by
    intro d
    induction d with
    | zero =>
      intro i x hi
      refine ⟨x, ev_step ?_⟩
      simp only [spec_l1New.l0]
      exact ev_neg (by omega) (Ev.now _)
    | succ d ih =>
      intro i x hi
      by_cases g : (i : Int) < 4000
      · obtain ⟨h, hh⟩ := ih (i + 1) (Go.bits .and .i64 (wrap64 ((wrap64 ((wrap64 (x * 131)) + (wrap64 (rd l (i : Int))))) + 7)) 1073741823) (by omega)
        refine ⟨h, ev_step ?_⟩
        simp only [spec_l1New.l0]
        rw [wrap_id (x := (i : Int) + 1) (by omega) (by omega)]
        exact ev_pos (by omega) (ev_pos g (ev_pos (by omega) hh))
      · refine ⟨x, ev_step ?_⟩
        simp only [spec_l1New.l0]
        exact ev_pos (by omega) (ev_neg g (Ev.now _))
  unfold spec_l1New.f
  exact key l.length 0 _ (by omega)
theorem cur0 (l : List Int) : Cur l 0 := ⟨Int.le_refl 0, by omega⟩
theorem pick_ok {l : List Int} (hl : l.length ≤ 1048576) {i : Int} (hc : Cur l i) (h : Int) (ts : List ByteArray) (ht : ts ≠ []) : ∃ x i' h', spec_l1Pick.f l i h ts = some (x, i', h') ∧ x ∈ ts ∧ Cur l i' := by
  have hp : 0 < ts.length := List.length_pos_iff.2 ht
  obtain ⟨x, i', h', e, _, b, c⟩ := below_ok hl hc h (ts.length : Int)
  have b := b (by omega)
  unfold spec_l1Pick.f
  rw [e]
  simp only [Option.bind_some]
  rw [if_pos b.1, if_pos b.2]
  refine ⟨_, _, _, rfl, ?_, c⟩
  obtain ⟨j, rfl⟩ := Int.eq_ofNat_of_zero_le b.1
  have hj : j < ts.length := by omega
  unfold rdOf
  rw [Int.toNat_natCast, List.getD_eq_getElem?_getD, List.getElem?_eq_getElem hj]
  exact List.getElem_mem hj
theorem pickInt_ok {l : List Int} (hl : l.length ≤ 1048576) {i : Int} (hc : Cur l i) (h : Int) (ts : List Int) (ht : ts ≠ []) : ∃ x i' h', spec_l1PickInt.f l i h ts = some (x, i', h') ∧ x ∈ ts ∧ Cur l i' := by
  have hp : 0 < ts.length := List.length_pos_iff.2 ht
  obtain ⟨x, i', h', e, _, b, c⟩ := below_ok hl hc h (ts.length : Int)
  have b := b (by omega)
  unfold spec_l1PickInt.f
  rw [e]
  simp only [Option.bind_some]
  rw [if_pos b.1, if_pos b.2]
  refine ⟨_, _, _, rfl, ?_, c⟩
  obtain ⟨j, rfl⟩ := Int.eq_ofNat_of_zero_le b.1
  have hj : j < ts.length := by omega
  unfold rd
  rw [Int.toNat_natCast, List.getD_eq_getElem?_getD, List.getElem?_eq_getElem hj]
  exact List.getElem_mem hj
theorem once_ok {l : List Int} (hl : l.length ≤ 1048576) {i : Int} (hc : Cur l i) (h n : Int) : ∃ b i' h', spec_l1Once.f l i h n = some (b, i', h') ∧ Cur l i' := by
  obtain ⟨x, i', h', e, _, _, c⟩ := below_ok hl hc h n
  unfold spec_l1Once.f
  rw [e]
  exact ⟨_, _, _, rfl, c⟩
end Go.Proofs.Ytckkfjdkaimmhaa.M
namespace Go.Proofs.Ytckkfjdkaimmhaa.M
open Go.RowKit Go.Proofs.YtckkfjdkaimmhaaW.PrintWords Go.Proofs.Ytckkfjdkaimmhaa.PX
abbrev IP := S83
theorem rdIP {l : List IP} {i : Nat} (h : i < l.length) : rd_T83 l (i : Int) = l[i] := by
  unfold rd_T83
  rw [Int.toNat_natCast, List.getD_eq_getElem?_getD, List.getElem?_eq_getElem h]
  rfl
end Go.Proofs.Ytckkfjdkaimmhaa.M
namespace Go.Proofs.Ytckkfjdkaimmhaa.M
open Go.RowKit Go.Proofs.YtckkfjdkaimmhaaW.PrintWords Go.Proofs.Ytckkfjdkaimmhaa.PX Go.Proofs.Ytckkfjdkaimmhaa.G
def nearP (most : Int) (p : IP) : Bool := (decide (-most ≤ p.f0) && decide (p.f0 ≤ most)) && (decide (-most ≤ p.f1) && decide (p.f1 ≤ most))
def areaP (a b c : IP) : Int := (b.f0 - a.f0) * (c.f1 - a.f1) - (b.f1 - a.f1) * (c.f0 - a.f0)
def sgnI (x : Int) : Int := if x < 0 then -1 else if x > 0 then 1 else 0
theorem nearP_iff {most : Int} {p : IP} : nearP most p = true ↔ (-most ≤ p.f0 ∧ p.f0 ≤ most) ∧ (-most ≤ p.f1 ∧ p.f1 ≤ most) := by
  unfold nearP
  simp only [Bool.and_eq_true, decide_eq_true_eq]
theorem spec_fits (p : IP) (most : Int) (h0 : 0 ≤ most) (h1 : most ≤ 1000000) : spec_l2Fits.f p.f0 p.f1 most = some (nearP most p) := by
  have one : ∀ x : Int, spec_l1In.f x (-most) most = some (decide (-most ≤ x) && decide (x ≤ most)) := by
    intro x
    unfold spec_l1In.f
    by_cases h : x ≥ -most
    · rw [if_pos h, decide_eq_true (show -most ≤ x from h), Bool.true_and]
    · rw [if_neg h, decide_eq_false (show ¬ -most ≤ x from h), Bool.false_and]
  unfold spec_l2Fits.f nearP
  rw [wrap_id (by omega) (by omega), one, one]
  cases decide (-most ≤ p.f0) && decide (p.f0 ≤ most) <;> rfl
theorem mul_bd {x y : Int} (h1 : -2000 ≤ x) (h2 : x ≤ 2000) (h3 : -2000 ≤ y) (h4 : y ≤ 2000) : -4000000 ≤ x * y ∧ x * y ≤ 4000000 := by
  have h := Int.natAbs_mul x y
  have h' : x.natAbs * y.natAbs ≤ 2000 * 2000 := Nat.mul_le_mul (by omega) (by omega)
  omega
theorem area_ok {a b c : IP} (ha : nearP 1000 a = true) (hb : nearP 1000 b = true) (hc : nearP 1000 c = true) :
    wrap64 ((wrap64 ((wrap64 (b.f0 - a.f0)) * (wrap64 (c.f1 - a.f1)))) - (wrap64 ((wrap64 (b.f1 - a.f1)) * (wrap64 (c.f0 - a.f0))))) = areaP a b c ∧ -8000000 ≤ areaP a b c ∧ areaP a b c ≤ 8000000 := by
  obtain ⟨⟨a1, a2⟩, a3, a4⟩ := nearP_iff.1 ha
  obtain ⟨⟨b1, b2⟩, b3, b4⟩ := nearP_iff.1 hb
  obtain ⟨⟨c1, c2⟩, c3, c4⟩ := nearP_iff.1 hc
  have m1 := mul_bd (x := b.f0 - a.f0) (y := c.f1 - a.f1) (by omega) (by omega) (by omega) (by omega)
  have m2 := mul_bd (x := b.f1 - a.f1) (y := c.f0 - a.f0) (by omega) (by omega) (by omega) (by omega)
  rw [wrap_id (x := b.f0 - a.f0) (by omega) (by omega), wrap_id (x := c.f1 - a.f1) (by omega) (by omega), wrap_id (x := b.f1 - a.f1) (by omega) (by omega), wrap_id (x := c.f0 - a.f0) (by omega) (by omega)]
  rw [wrap_id (x := (b.f0 - a.f0) * (c.f1 - a.f1)) (by omega) (by omega), wrap_id (x := (b.f1 - a.f1) * (c.f0 - a.f0)) (by omega) (by omega)]
  unfold areaP
  exact ⟨wrap_id (by omega) (by omega), by omega, by omega⟩
def near3 (a b c : IP) : Bool := nearP 1000 a && (nearP 1000 b && nearP 1000 c)
theorem near3_iff {a b c : IP} : near3 a b c = true ↔ nearP 1000 a = true ∧ nearP 1000 b = true ∧ nearP 1000 c = true := by
  unfold near3
  simp only [Bool.and_eq_true]
theorem spec_area {a b c : IP} (h : near3 a b c = true) : spec_l2Area.f a.f0 a.f1 b.f0 b.f1 c.f0 c.f1 = some (areaP a b c) := by
  obtain ⟨ha, hb, hc⟩ := near3_iff.1 h
  unfold spec_l2Area.f
  rw [(area_ok ha hb hc).1]
end Go.Proofs.Ytckkfjdkaimmhaa.M
namespace Go.Proofs.Ytckkfjdkaimmhaa.M
open Go.RowKit Go.Proofs.YtckkfjdkaimmhaaW.PrintWords Go.Proofs.Ytckkfjdkaimmhaa.PX Go.Proofs.Ytckkfjdkaimmhaa.G
def pt (l : List IP) (i : Nat) : IP := rd_T83 l (i : Int)
theorem pt_eq {l : List IP} {i : Nat} (h : i < l.length) : pt l i = l[i] := rdIP h
def flatQ (l : List IP) (q : Nat × Nat × Nat) : Bool := decide (areaP (pt l q.1) (pt l q.2.1) (pt l q.2.2) = 0)
def arePts (l : List IP) : Bool := (decide (3 ≤ l.length) && decide (l.length ≤ 7)) && (l.all (nearP 50) && !((tripsL l.length).any (flatQ l)))
theorem near_wide {p : IP} (h : nearP 50 p = true) : nearP 1000 p = true := by
  rw [nearP_iff] at h ⊢
  omega
theorem arePts_iff {l : List IP} : arePts l = true ↔ (3 ≤ l.length ∧ l.length ≤ 7) ∧ (∀ p ∈ l, nearP 50 p = true) ∧ ∀ a b c, a < b → b < c → c < l.length → areaP (pt l a) (pt l b) (pt l c) ≠ 0 := by
  unfold arePts
  simp only [Bool.and_eq_true, decide_eq_true_eq, List.all_eq_true, Bool.not_eq_true', List.any_eq_false, flatQ]
  constructor
  · rintro ⟨h1, h2, h3⟩
    exact ⟨h1, h2, fun a b c hab hbc hc => h3 (a, b, c) (trips_mem hab hbc hc)⟩
  · rintro ⟨h1, h2, h3⟩
    exact ⟨h1, h2, fun ⟨a, b, c⟩ hq => h3 a b c (mem_trips hq).1 (mem_trips hq).2.1 (mem_trips hq).2.2⟩
theorem pts_near3 {l : List IP} (h : l.all (nearP 50) = true) {a b c : Nat} (ha : a < l.length) (hb : b < l.length) (hc : c < l.length) : near3 (pt l a) (pt l b) (pt l c) = true := by
  have key : ∀ {i : Nat}, i < l.length → nearP 1000 (pt l i) = true := fun {i} hi => by
    rw [pt_eq hi]
    exact near_wide (List.all_eq_true.1 h _ (List.getElem_mem hi))
  exact near3_iff.2 ⟨key ha, key hb, key hc⟩
theorem spec_inPts (x lo hi : Int) : spec_l1In.f x lo hi = some (decide (lo ≤ x) && decide (x ≤ hi)) := by
  unfold spec_l1In.f
  by_cases h : x ≥ lo
  · rw [if_pos h, decide_eq_true (show lo ≤ x from h), Bool.true_and]
  · rw [if_neg h, decide_eq_false (show ¬ lo ≤ x from h), Bool.false_and]
def offPts (l : List IP) (k : Nat) : Bool := !nearP 50 (pt l k) || (List.range' 0 (k - 0)).any fun j => (List.range' 0 (j - 0)).any fun i => flatQ l (i, j, k)
theorem offPts_any (l : List IP) : (!((List.range' 0 (l.length - 0)).any (offPts l))) = (l.all (nearP 50) && !((tripsL l.length).any (flatQ l))) := by
  rw [Bool.eq_iff_iff]
  simp only [Bool.not_eq_true', List.any_eq_false, Bool.and_eq_true, List.all_eq_true, offPts, Bool.or_eq_true, not_or, Bool.not_eq_false, List.any_eq_true, not_exists, not_and, List.mem_range'_1]
  constructor
  · intro h
    refine ⟨fun p hp => ?_, fun ⟨a, b, c⟩ hq => ?_⟩
    · obtain ⟨i, hi, rfl⟩ := List.getElem_of_mem hp
      have := (h i (by omega)).1
      rw [pt_eq hi] at this
      simpa using this
    · obtain ⟨h1, h2, h3⟩ := mem_trips hq
      exact (h c (by omega)).2 b (by omega) a (by omega)
  · rintro ⟨h1, h2⟩ k hk
    refine ⟨?_, fun j hj i hi => h2 (i, j, k) (trips_mem (by omega) (by omega) (by omega))⟩
    rw [pt_eq (show k < l.length by omega)]
    simpa using h1 _ (List.getElem_mem _)
theorem spec_arePts (l : List IP) (hl : l.length ≤ 10000000) : Ev (fun q => spec_ArePoints.f q l) (arePts l) := by
  unfold spec_ArePoints.f
  refine ev_call (spec_inPts _ _ _) ?_
  by_cases hn : 3 ≤ l.length ∧ l.length ≤ 7
  · refine ev_pos (by simp; omega) (ev_cast ?_ (show (!((List.range' 0 (l.length - 0)).any (offPts l))) = arePts l from ?_))
    · have key := loop_up' (σ := Unit) (ρ := Bool) (lo := 0) (n := l.length) (K := fun _ _ => some true) (L := fun x _ q => spec_ArePoints.l0 q l x) (fun k _ => ∀ i, i < k → nearP 50 (pt l i) = true) (fun _ k => if offPts l k then .error false else .ok ()) (fun u _ => ?_) (fun k _ hk u hI => ?_) (fun k _ hk u hI u' e => ?_) (by omega) () (fun i hi => absurd hi (Nat.not_lt_zero _))
      · rw [foldlM_any (offPts l)] at key
        cases hq : (List.range' 0 (l.length - 0)).any (offPts l) with
        | true => rw [hq] at key; exact key
        | false => rw [hq] at key; exact key _ (Ev.now _)
      · refine Goes.step ?_
        simp only [spec_ArePoints.l0]
        exact Goes.neg (by omega) (Goes.ok (K := fun _ _ => some true) u)
      · refine Goes.step ?_
        simp only [spec_ArePoints.l0]
        refine Goes.pos (by omega) (Goes.pos (by omega) (Goes.call (spec_fits (pt l k) 50 (by decide) (by decide)) ?_))
        cases hf : nearP 50 (pt l k) with
        | false => exact Goes.neg (by decide) (Goes.cast (Goes.ret _) (by simp [offPts, hf]))
        | true =>
          refine Goes.pos rfl ?_
          have one := loop_up (σ := Unit) (ρ := Bool) (lo := 0) (n := k) (K := fun _ q => spec_ArePoints.l0 q l ((k + 1 : Nat) : Int)) (L := fun x _ q => spec_ArePoints.l1 q l (k : Int) x) (fun _ j => if (List.range' 0 (j - 0)).any (fun i => flatQ l (i, j, k)) then .error false else .ok ()) (fun u => ?_) (fun j _ hj u => ?_) (by omega) ()
          · rw [foldlM_any (fun j => (List.range' 0 (j - 0)).any fun i => flatQ l (i, j, k))] at one
            refine one.cast ?_
            simp [offPts, hf]
          · refine Goes.step ?_
            simp only [spec_ArePoints.l1]
            rw [wrap_id (by omega) (by omega)]
            exact Goes.neg (by omega) (Goes.ok (K := fun (_ : Unit) q => spec_ArePoints.l0 q l ((k + 1 : Nat) : Int)) u)
          · refine Goes.step ?_
            simp only [spec_ArePoints.l1]
            refine Goes.pos (by omega) ?_
            have two := loop_up (σ := Unit) (ρ := Bool) (lo := 0) (n := j) (K := fun _ q => spec_ArePoints.l1 q l (k : Int) ((j + 1 : Nat) : Int)) (L := fun x _ q => spec_ArePoints.l2 q l (k : Int) (j : Int) x) (fun _ i => if flatQ l (i, j, k) then .error false else .ok ()) (fun u => ?_) (fun i _ hi u => ?_) (by omega) ()
            · rw [foldlM_any (fun i => flatQ l (i, j, k))] at two
              exact two
            · refine Goes.step ?_
              simp only [spec_ArePoints.l2]
              rw [wrap_id (by omega) (by omega)]
              exact Goes.neg (by omega) (Goes.ok (K := fun (_ : Unit) q => spec_ArePoints.l1 q l (k : Int) ((j + 1 : Nat) : Int)) u)
            · refine Goes.step ?_
              simp only [spec_ArePoints.l2]
              rw [wrap_id (x := (i : Int) + 1) (by omega) (by omega)]
              refine Goes.pos (by omega) (Goes.pos (by omega) (Goes.pos (by omega) (Goes.pos (by omega) (Goes.pos (by omega) (Goes.pos (by omega) (Goes.pos (by omega) ?_))))))
              have nn : ∀ x, x ≤ k → nearP 1000 (pt l x) = true := fun x hx => by
                by_cases e : x = k
                · subst e; exact near_wide hf
                · exact near_wide (hI x (by omega))
              refine Goes.call (spec_area (a := pt l i) (b := pt l j) (c := pt l k) (near3_iff.2 ⟨nn i (by omega), nn j (by omega), nn k (by omega)⟩)) ?_
              by_cases g : areaP (pt l i) (pt l j) (pt l k) = 0
              · exact Goes.pos g (Goes.cast (Goes.ret _) (by simp [flatQ, g]))
              · exact Goes.neg g (Goes.cast (Goes.ok (K := fun (_ : Unit) q => spec_ArePoints.l2 q l (k : Int) (j : Int) ((i + 1 : Nat) : Int)) u) (by simp [flatQ, g]))
      · intro i hi
        by_cases ei : i = k
        · subst ei
          cases hf : nearP 50 (pt l i) with
          | true => rfl
          | false => simp [offPts, hf] at e
        · exact hI i (by omega)
    · unfold arePts
      rw [offPts_any]
      simp [hn.1, hn.2]
  · refine ev_neg (by simp; omega) (ev_cast (Ev.now _) ?_)
    unfold arePts
    have : (decide (3 ≤ l.length) && decide (l.length ≤ 7)) = false := by simp; omega
    rw [this]
    rfl
end Go.Proofs.Ytckkfjdkaimmhaa.M
namespace Go.Proofs.Ytckkfjdkaimmhaa.PX
open Go.RowKit Go.Proofs.Ytckkfjdkaimmhaa.G Go.Proofs.YtckkfjdkaimmhaaW.PrintWords Go.Proofs.YtckkfjdkaimmhaaW.PrintLast Go.Proofs.YtckkfjdkaimmhaaW.PrintMore
attribute [local go_sem] max2_int min2_int max_two min_two max_three min_three max_four min_four   -- for this text's walks alone
set_option linter.unusedVariables false
set_option linter.unusedSimpArgs false
/-! ### spec_l2Bent: function 100 -/
end Go.Proofs.Ytckkfjdkaimmhaa.PX
namespace Go.Proofs.Ytckkfjdkaimmhaa.M
open Go.RowKit Go.Proofs.YtckkfjdkaimmhaaW.PrintWords Go.Proofs.Ytckkfjdkaimmhaa.PX Go.Proofs.Ytckkfjdkaimmhaa.G
theorem l2_inner {x3 x5 : Int} {ps : List IP} {l : List Int} {i h p q : Int} {x8 : Nat} (h8 : x8 < ps.length) (hps : ps.length ≤ 100) (d : Nat) : ∀ (x9 : Nat) (x7 : Bool), x9 + d = x8 →
    ∃ x7', ∀ r, Ev (fun k => spec_l2Draw.l1 k x3 ps x5 x7' ((x8 + 1 : Nat) : Int) l i h p q) r → Ev (fun k => spec_l2Draw.l2 k x3 ps x5 x7 (x8 : Int) (x9 : Int) l i h p q) r := by
  induction d with
  | zero =>
    intro x9 x7 hd
    refine ⟨x7, fun r hr => ev_step ?_⟩
    simp only [spec_l2Draw.l2]
    rw [wrap_id (x := (x8 : Int) + 1) (by omega) (by omega)]
    exact ev_neg (by omega) hr
  | succ d ih =>
    intro x9 x7 hd
    cases x7 with
    | false =>
      refine ⟨false, fun r hr => ev_step ?_⟩
      simp only [spec_l2Draw.l2]
      rw [wrap_id (x := (x8 : Int) + 1) (by omega) (by omega)]
      exact ev_pos (by omega) (ev_neg (by decide) hr)
    | true =>
      obtain ⟨v, hv⟩ : ∃ v, spec_l2Area.f ((rd_T83 ps (x9 : Int)).f0) ((rd_T83 ps (x9 : Int)).f1) ((rd_T83 ps (x8 : Int)).f0) ((rd_T83 ps (x8 : Int)).f1) p q = some v := ⟨_, rfl⟩
      obtain ⟨x7', h'⟩ := ih (x9 + 1) (v != 0) (by omega)
      refine ⟨x7', fun r hr => ev_step ?_⟩
      simp only [spec_l2Draw.l2]
      rw [wrap_id (x := (x9 : Int) + 1) (by omega) (by omega)]
      exact ev_pos (by omega) (ev_pos (by trivial) (ev_pos (by omega) (ev_pos (by omega) (ev_pos (by omega) (ev_pos (by omega) (ev_call hv (h' r hr)))))))
theorem l2_outer {x3 : Int} {x5 : Nat} (h5 : x5 ≤ 12) {ps : List IP} {l : List Int} {i h p q : Int} (hps : ps.length ≤ 100) (d : Nat) : ∀ (x8 : Nat) (x7 : Bool), x8 + d = ps.length →
    ∃ ps' : List IP, ps'.length ≤ ps.length + 1 ∧ ∀ r, Ev (fun k => spec_l2Draw.l0 k x3 ps' ((x5 + 1 : Nat) : Int) l i h) r → Ev (fun k => spec_l2Draw.l1 k x3 ps (x5 : Int) x7 (x8 : Int) l i h p q) r := by
  have fin : ∀ (x8 : Nat) (x7 : Bool), ∃ ps' : List IP, ps'.length ≤ ps.length + 1 ∧ ∀ r, Ev (fun k => spec_l2Draw.l0 k x3 ps' ((x5 + 1 : Nat) : Int) l i h) r → Ev (fun k => spec_l2Draw.j3 k x3 ps (x5 : Int) x7 (x8 : Int) false l i h p q) r := by
    intro x8 x7
    cases x7 with
    | true =>
      refine ⟨ps ++ [(⟨p, q⟩ : IP)], by simp, fun r hr => ev_step ?_⟩
      simp only [spec_l2Draw.j3]
      rw [wrap_id (x := (x5 : Int) + 1) (by omega) (by omega)]
      exact ev_neg (by decide) (ev_pos (by trivial) (ev_pos (by omega) hr))
    | false =>
      refine ⟨ps, by omega, fun r hr => ev_step ?_⟩
      simp only [spec_l2Draw.j3]
      rw [wrap_id (x := (x5 : Int) + 1) (by omega) (by omega)]
      exact ev_neg (by decide) (ev_neg (by decide) hr)
  induction d with
  | zero =>
    intro x8 x7 hd
    obtain ⟨ps', hl, hr⟩ := fin x8 x7
    refine ⟨ps', hl, fun r h => ev_step ?_⟩
    simp only [spec_l2Draw.l1]
    exact ev_neg (by omega) (hr r h)
  | succ d ih =>
    intro x8 x7 hd
    cases x7 with
    | false =>
      obtain ⟨ps', hl, hr⟩ := fin x8 false
      refine ⟨ps', hl, fun r h => ev_step ?_⟩
      simp only [spec_l2Draw.l1]
      exact ev_pos (by omega) (hr r h)
    | true =>
      obtain ⟨x7', hi⟩ := l2_inner (x3 := x3) (x5 := (x5 : Int)) (l := l) (i := i) (h := h) (p := p) (q := q) (ps := ps) (x8 := x8) (by omega) hps x8 0 (!(((rd_T83 ps (x8 : Int)).f0) == p) || (!(((rd_T83 ps (x8 : Int)).f1) == q))) (by omega)
      obtain ⟨ps', hl, hr⟩ := ih (x8 + 1) x7' (by omega)
      refine ⟨ps', hl, fun r h => ev_step ?_⟩
      simp only [spec_l2Draw.l1]
      refine ev_pos (by omega) (ev_step ?_)
      simp only [spec_l2Draw.j3]
      exact ev_pos (by trivial) (ev_pos (by omega) (ev_pos (by omega) (hi r (hr r h))))
theorem l2Draw_ok {l : List Int} (hl : l.length ≤ 1048576) {i : Int} (hc : Cur l i) (h : Int) : ∃ (ps : List IP) (i' h' : Int), Ev (fun k => spec_l2Draw.f k l i h) (ps, i', h') ∧ 3 ≤ ps.length ∧ ps.length ≤ 20 ∧ Cur l i' := by
  have done : ∀ (x5 : Nat) (ps : List IP) (i h x3 : Int), ps.length ≤ 12 → Cur l i → ∃ (ps' : List IP) (i' h' : Int), Ev (fun k => spec_l2Draw.j1 k x3 ps (x5 : Int) false l i h) (ps', i', h') ∧ 3 ≤ ps'.length ∧ ps'.length ≤ 20 ∧ Cur l i' := by
    intro x5 ps i h x3 hp hc
    by_cases g : (ps.length : Int) < 3
    · refine ⟨[(⟨0, 0⟩ : IP), (⟨4, 1⟩ : IP), (⟨1, 3⟩ : IP), (⟨2, 2⟩ : IP)], i, h, ev_step ?_, by simp, by simp, hc⟩
      simp only [spec_l2Draw.j1]
      exact ev_neg (by decide) (ev_pos g (Ev.now _))
    · refine ⟨ps, i, h, ev_step ?_, by omega, by omega, hc⟩
      simp only [spec_l2Draw.j1]
      exact ev_neg (by decide) (ev_neg g (Ev.now _))
  have key : ∀ (d x5 : Nat) (ps : List IP) (i h x3 : Int), x5 + d = 12 → ps.length ≤ x5 → Cur l i → ∃ (ps' : List IP) (i' h' : Int), Ev (fun k => spec_l2Draw.l0 k x3 ps (x5 : Int) l i h) (ps', i', h') ∧ 3 ≤ ps'.length ∧ ps'.length ≤ 20 ∧ Cur l i' := by
    intro d
    induction d with
    | zero =>
      intro x5 ps i h x3 hd hp hc
      obtain ⟨ps', i', h', e, r⟩ := done x5 ps i h x3 (by omega) hc
      refine ⟨ps', i', h', ev_step ?_, r⟩
      simp only [spec_l2Draw.l0]
      exact ev_neg (by omega) e
    | succ d ih =>
      intro x5 ps i h x3 hd hp hc
      by_cases g : (ps.length : Int) < x3
      · obtain ⟨x, i1, h1, e1, _, _, c1⟩ := below_ok hl hc h 13
        obtain ⟨y, i2, h2, e2, _, _, c2⟩ := below_ok hl c1 h1 13
        obtain ⟨ps1, hl1, hr1⟩ := l2_outer (x3 := x3) (x5 := x5) (by omega) (l := l) (i := i2) (h := h2) (p := wrap64 (x - 6)) (q := wrap64 (y - 6)) (ps := ps) (by omega) ps.length 0 true (by omega)
        obtain ⟨ps', i', h', e, r⟩ := ih (x5 + 1) ps1 i2 h2 x3 (by omega) (by omega) c2
        refine ⟨ps', i', h', ev_step ?_, r⟩
        simp only [spec_l2Draw.l0]
        refine ev_pos (by omega) (ev_step ?_)
        simp only [spec_l2Draw.j1]
        exact ev_pos (decide_eq_true g) (ev_call e1 (ev_call e2 (hr1 _ e)))
      · obtain ⟨ps', i', h', e, r⟩ := done x5 ps i h x3 (by omega) hc
        refine ⟨ps', i', h', ev_step ?_, r⟩
        simp only [spec_l2Draw.l0]
        rw [decide_eq_false g]
        exact ev_pos (by omega) e
  obtain ⟨x, i1, h1, e1, _, _, c1⟩ := below_ok hl hc h 4
  obtain ⟨ps', i', h', e, r⟩ := key 12 0 [] i1 h1 (wrap64 (3 + x)) rfl (Nat.le_refl _) c1
  refine ⟨ps', i', h', ?_, r⟩
  unfold spec_l2Draw.f
  exact ev_call e1 e
end Go.Proofs.Ytckkfjdkaimmhaa.M
namespace Go.Proofs.Ytckkfjdkaimmhaa.M
open Go.RowKit Go.Proofs.YtckkfjdkaimmhaaW.PrintWords Go.Proofs.Ytckkfjdkaimmhaa.PX Go.Proofs.Ytckkfjdkaimmhaa.G
def sgPts (l : List IP) (q : Nat) : Int := sgnI (areaP (pt l (tripAt l.length q).f0.toNat) (pt l (tripAt l.length q).f1.toNat) (pt l (tripAt l.length q).f2.toNat))
def signsV (l : List IP) : Int × ByteArray × Bool := if arePts l = true then ((l.length : Int), txtS l.length (sgPts l), true) else (0, ⟨#[]⟩, false)
theorem sgPts_at {l : List IP} {q a b c : Nat} (hq : q < (tripN l.length).length) (e : (tripN l.length)[q] = ⟨(a : Int), (b : Int), (c : Int)⟩) : sgPts l q = sgnI (areaP (pt l a) (pt l b) (pt l c)) := by
  unfold sgPts
  rw [tripAt_eq hq, e]
  rfl
theorem sgnI_pos (x : Int) : (sgnI x > 0) ↔ x > 0 := by
  unfold sgnI
  split
  · constructor <;> intro h <;> omega
  · split <;> constructor <;> intro h <;> omega
theorem spec_signsOf (l : List IP) (hl : l.length ≤ 10000000) : Ev (fun q => spec_SignsOf.f q l) (signsV l) := by
  unfold spec_SignsOf.f signsV
  refine Ev.bind (spec_arePts l hl) ?_
  by_cases ha : arePts l = true
  · rw [if_pos ha]
    refine ev_pos ha ?_
    obtain ⟨⟨h0, h1⟩, hn, _⟩ := arePts_iff.1 ha
    have hn' : l.all (nearP 50) = true := List.all_eq_true.2 hn
    have key := loops3B (σ := List UInt8) (ρ := Int × ByteArray × Bool) (n := l.length) h1 List.length 0 (L0 := fun x s q => spec_SignsOf.l0 q l x (l.length : Int) (mkB s))
      (L1 := fun x y s q => spec_SignsOf.l1 q l x y (l.length : Int) (mkB s)) (L2 := fun x y z s q => spec_SignsOf.l2 q l x y z (l.length : Int) (mkB s)) (K := fun s _ => some ((l.length : Int), mkB s, true))
      (fun s q => .ok (s ++ [sgC (areaP (pt l q.1) (pt l q.2.1) (pt l q.2.2))])) (fun s q s' e => by cases e; rw [List.length_append]; exact Nat.le_refl _)
      (fun s => ?_) (fun a ha s => ?_) (fun a ha s => ?_) (fun a b hab hb s => ?_) (fun a b hab hb s => ?_) (fun a b c hab hbc hc s hs => ?_) [] (Nat.le_refl _)
    · rw [foldlM_ok, foldl_snoc, List.nil_append] at key
      have et : mkB ((tripsL l.length).map fun q => sgC (areaP (pt l q.1) (pt l q.2.1) (pt l q.2.2))) = txtS l.length (sgPts l) := txtS_trips (fun q => sgC (areaP (pt l q.1) (pt l q.2.1) (pt l q.2.2))) h0 h1 fun p hp a b c e => by
        rw [sgPts_at hp e]
        unfold sgC
        simp only [sgnI_pos]
      rw [← et]
      exact key _ (Ev.now _)
    · refine Goes.step ?_
      simp only [spec_SignsOf.l0]
      exact Goes.neg (by omega) (Goes.ok (K := fun s (_ : Nat) => some ((l.length : Int), mkB s, true)) s)
    · refine Goes.step ?_
      simp only [spec_SignsOf.l0]
      rw [wrap_id (by omega) (by omega)]
      exact Goes.pos (by omega) (Goes.ok (K := fun s q => spec_SignsOf.l1 q l (a : Int) ((a + 1 : Nat) : Int) (l.length : Int) (mkB s)) s)
    · refine Goes.step ?_
      simp only [spec_SignsOf.l1]
      rw [wrap_id (x := (a : Int) + 1) (by omega) (by omega)]
      exact Goes.neg (by omega) (Goes.ok (K := fun s q => spec_SignsOf.l0 q l ((a + 1 : Nat) : Int) (l.length : Int) (mkB s)) s)
    · refine Goes.step ?_
      simp only [spec_SignsOf.l1]
      rw [wrap_id (x := (b : Int) + 1) (by omega) (by omega)]
      exact Goes.pos (by omega) (Goes.ok (K := fun s q => spec_SignsOf.l2 q l (a : Int) (b : Int) ((b + 1 : Nat) : Int) (l.length : Int) (mkB s)) s)
    · refine Goes.step ?_
      simp only [spec_SignsOf.l2]
      rw [wrap_id (x := (b : Int) + 1) (by omega) (by omega)]
      exact Goes.neg (by omega) (Goes.ok (K := fun s q => spec_SignsOf.l1 q l (a : Int) ((b + 1 : Nat) : Int) (l.length : Int) (mkB s)) s)
    · refine Goes.step ?_
      simp only [spec_SignsOf.l2]
      rw [wrap_id (x := (c : Int) + 1) (by omega) (by omega)]
      refine Goes.pos (by omega) (Goes.pos (by omega) (Goes.pos (by omega) (Goes.pos (by omega) (Goes.pos (by omega) (Goes.pos (by omega) (Goes.call (spec_area (a := pt l a) (b := pt l b) (c := pt l c) (pts_near3 hn' (by omega) (by omega) (by omega))) (Goes.call (byte_ev _) (Goes.pos ?_ ?_))))))))
      · rw [mkB_size, mkB_size]
        simp only [List.length_singleton]
        omega
      · rw [mkB_append]
        exact Goes.ok (K := fun s q => spec_SignsOf.l2 q l (a : Int) (b : Int) ((c + 1 : Nat) : Int) (l.length : Int) (mkB s)) _
  · rw [if_neg ha]
    exact ev_neg ha (Ev.now _)
end Go.Proofs.Ytckkfjdkaimmhaa.M
namespace Go.Proofs.Ytckkfjdkaimmhaa.M
open Go.RowKit Go.Proofs.YtckkfjdkaimmhaaW.PrintWords Go.Proofs.Ytckkfjdkaimmhaa.PX Go.Proofs.Ytckkfjdkaimmhaa.G
theorem signsV_small (ps : List IP) : (0 ≤ (signsV ps).1 ∧ (signsV ps).1 ≤ 7) ∧ (signsV ps).2.1.size ≤ 35 := by
  unfold signsV
  by_cases g : arePts ps = true
  · rw [if_pos g]
    obtain ⟨⟨h0, h1⟩, _⟩ := arePts_iff.1 g
    have := areOk_size (txtS_ok (sgPts ps) h0 h1)
    simp only
    omega
  · rw [if_neg g]
    decide
theorem l3Draw_ok {l : List Int} (hl : l.length ≤ 1048576) {i : Int} (hc : Cur l i) (h : Int) : ∃ (n : Int) (t : ByteArray) (i' h' : Int), Ev (fun k => spec_l3Draw.f k l i h) (n, t, i', h') ∧ (0 ≤ n ∧ n ≤ 7) ∧ t.size ≤ 100 ∧ Cur l i' := by
  obtain ⟨b, i1, h1, e1, c1⟩ := once_ok hl hc h 5
  cases b with
  | true =>
    obtain ⟨x, i2, h2, e2, _, b2, c2⟩ := below_ok hl c1 h1 3
    have b2 := b2 (by omega)
    have key : ∀ (d x5 : Nat) (i h : Int) (t : ByteArray) (n : Int), n ∈ [(3 : Int), 4, 5] → x5 + d = 20 → t.size ≤ x5 → Cur l i → ∃ (t' : ByteArray) (i' h' : Int), Ev (fun k => spec_l3Draw.l0 k n (x5 : Int) l i h n t) (n, t', i', h') ∧ t'.size ≤ 100 ∧ Cur l i' := by
      intro d
      induction d with
      | zero =>
        intro x5 i h t n hn hd ht hc
        refine ⟨t, i, h, ev_step ?_, by omega, hc⟩
        simp only [spec_l3Draw.l0]
        refine ev_neg ?_ (Ev.now _)
        have : wrap64 (Int.tdiv (wrap64 ((wrap64 (n * (wrap64 (n - 1)))) * (wrap64 (n - 2)))) 6) ≤ 10 := by
          simp only [List.mem_cons, List.not_mem_nil, or_false] at hn
          rcases hn with rfl | rfl | rfl <;> decide +kernel
        omega
      | succ d ih =>
        intro x5 i h t n hn hd ht hc
        by_cases g : (x5 : Int) < wrap64 (Int.tdiv (wrap64 ((wrap64 (n * (wrap64 (n - 1)))) * (wrap64 (n - 2)))) 6)
        · obtain ⟨y, i3, h3, e3, m3, c3⟩ := pick_ok hl hc h [(⟨#[43]⟩ : ByteArray), (⟨#[45]⟩ : ByteArray), (⟨#[43]⟩ : ByteArray)] (by simp)
          have hy : y.size = 1 := by
            simp only [List.mem_cons, List.not_mem_nil, or_false] at m3
            rcases m3 with rfl | rfl | rfl <;> rfl
          obtain ⟨t', i', h', e, r⟩ := ih (x5 + 1) i3 h3 (t ++ y) n hn (by omega) (by rw [ByteArray.size_append]; omega) c3
          refine ⟨t', i', h', ev_step ?_, r⟩
          simp only [spec_l3Draw.l0]
          rw [wrap_id (x := (x5 : Int) + 1) (by omega) (by omega)]
          exact ev_pos g (ev_call e3 (ev_pos (by simp only; omega) e))
        · refine ⟨t, i, h, ev_step ?_, by omega, hc⟩
          simp only [spec_l3Draw.l0]
          exact ev_neg g (Ev.now _)
    have hn : (3 + x) ∈ [(3 : Int), 4, 5] := by
      have : x = 0 ∨ x = 1 ∨ x = 2 := by omega
      rcases this with rfl | rfl | rfl <;> decide
    obtain ⟨t', i', h', e, r⟩ := key 20 0 i2 h2 (⟨#[]⟩ : ByteArray) (3 + x) hn rfl (Nat.le_refl _) c2
    refine ⟨3 + x, t', i', h', ?_, by omega, r⟩
    unfold spec_l3Draw.f
    refine ev_call e1 (ev_pos (by trivial) (ev_call e2 ?_))
    simp only
    rw [wrap_id (by omega) (by omega)]
    exact e
  | false =>
    obtain ⟨ps, i2, h2, e2, m1, m2, c2⟩ := l2Draw_ok hl c1 h1
    have hs := spec_signsOf ps (by omega)
    have hb := signsV_small ps
    refine ⟨(signsV ps).1, (signsV ps).2.1, i2, h2, ?_, hb.1, by omega, c2⟩
    unfold spec_l3Draw.f
    exact ev_call e1 (ev_neg (by simp) (Ev.bind e2 (Ev.bind hs (Ev.now _))))
theorem l3Bent_ok {l : List Int} (hl : l.length ≤ 1048576) {i : Int} (hc : Cur l i) (h : Int) : ∃ (n : Int) (t : ByteArray) (i' h' : Int), Ev (fun k => spec_l3Bent.f k l i h) (n, t, i', h') ∧ (0 ≤ n ∧ n ≤ 8) ∧ t.size ≤ 101 ∧ Cur l i' := by
  obtain ⟨n, t, i1, h1, e1, m1, m2, c1⟩ := l3Draw_ok hl hc h
  obtain ⟨x, i2, h2, e2, _, _, c2⟩ := below_ok hl c1 h1 18
  by_cases g : x = 0
  · obtain ⟨y, i3, h3, e3, m3, c3⟩ := pickInt_ok hl c2 h2 [2, 8, 4, 5] (by decide)
    have hy : 0 ≤ y ∧ y ≤ 8 := by
      simp only [List.mem_cons, List.not_mem_nil, or_false] at m3
      omega
    refine ⟨y, t, i3, h3, ?_, hy, by omega, c3⟩
    unfold spec_l3Bent.f
    exact Ev.bind e1 (ev_call e2 (ev_pos g (ev_call e3 (Ev.now _))))
  · by_cases g1 : x = 1
    · obtain ⟨y, i3, h3, e3, m3, c3⟩ := pick_ok hl c2 h2 [(⟨#[43]⟩ : ByteArray), (⟨#[48]⟩ : ByteArray)] (by simp)
      have hy : y.size = 1 := by
        simp only [List.mem_cons, List.not_mem_nil, or_false] at m3
        rcases m3 with rfl | rfl <;> rfl
      refine ⟨n, t ++ y, i3, h3, ?_, by omega, by rw [ByteArray.size_append]; omega, c3⟩
      unfold spec_l3Bent.f
      exact Ev.bind e1 (ev_call e2 (ev_neg g (ev_pos g1 (ev_call e3 (ev_pos (by simp only; omega) (Ev.now _))))))
    · refine ⟨n, t, i2, h2, ?_, by omega, by omega, c2⟩
      unfold spec_l3Bent.f
      exact Ev.bind e1 (ev_call e2 (ev_neg g (ev_neg g1 (Ev.now _))))
theorem l3Order_ok {l : List Int} (hl : l.length ≤ 1048576) {i : Int} (hc : Cur l i) (h : Int) (n : Nat) (hn : n ≤ 100) : ∃ (o : List Int) (i' h' : Int), Ev (fun k => spec_l3Order.f k l i h (n : Int)) (o, i', h') ∧ o.length = n ∧ o.Nodup ∧ (∀ x ∈ o, 0 ≤ x ∧ x < (n : Int)) ∧ Cur l i' := by
  have key : ∀ (d m : Nat) (o : List Int) (i h : Int), m + d = n → o.length = m → o.Nodup → (∀ x ∈ o, 0 ≤ x ∧ x < (m : Int)) → Cur l i → ∃ (o' : List Int) (i' h' : Int), Ev (fun k => spec_l3Order.l0 k (n : Int) o (m : Int) l i h) (o', i', h') ∧ o'.length = n ∧ o'.Nodup ∧ (∀ x ∈ o', 0 ≤ x ∧ x < (n : Int)) ∧ Cur l i' := by
    intro d
    induction d with
    | zero =>
      intro m o i h hd ho hnd hb hc
      obtain rfl : m = n := by omega
      refine ⟨o, i, h, ev_step ?_, ho, hnd, hb, hc⟩
      simp only [spec_l3Order.l0]
      exact ev_neg (by omega) (Ev.now _)
    | succ d ih =>
      intro m o i h hd ho hnd hb hc
      obtain ⟨x, i1, h1, e1, _, b1, c1⟩ := below_ok hl hc h ((o.length : Int) + 1)
      have b1 := b1 (by omega)
      obtain ⟨j, rfl⟩ := Int.eq_ofNat_of_zero_le b1.1
      have hlen : (o.take j ++ [(m : Int)] ++ ([] ++ o.drop j)).length = m + 1 := by
        rw [List.length_append, List.length_append, List.nil_append, List.length_take, List.length_drop, List.length_singleton]
        omega
      have hperm : (o.take j ++ [(m : Int)] ++ ([] ++ o.drop j)).Perm ((m : Int) :: o) := by
        rw [List.nil_append, List.append_assoc, List.singleton_append]
        refine List.perm_middle.trans ?_
        rw [List.take_append_drop]
      have hmo : (m : Int) ∉ o := fun hm => by have := hb _ hm; omega
      obtain ⟨o', i', h', e, r⟩ := ih (m + 1) (o.take j ++ [(m : Int)] ++ ([] ++ o.drop j)) i1 h1 (by omega) hlen (hperm.nodup_iff.2 (List.nodup_cons.2 ⟨hmo, hnd⟩)) (fun y hy => by
        rcases List.mem_cons.1 (hperm.mem_iff.1 hy) with rfl | hy
        · omega
        · have := hb _ hy; omega) c1
      refine ⟨o', i', h', ev_step ?_, r⟩
      simp only [spec_l3Order.l0]
      rw [wrap_id (x := (o.length : Int) + 1) (by omega) (by omega), wrap_id (x := (m : Int) + 1) (by omega) (by omega)]
      refine ev_pos (by omega) (ev_call e1 (ev_call rfl (ev_pos (by simp only; omega) (ev_pos (by simp only; omega) (ev_call rfl (ev_pos ?_ (ev_call rfl (ev_call rfl (ev_pos ?_ (ev_call rfl (ev_pos ?_ e)))))))))))
      · simp only [List.length_nil, Int.toNat_natCast, List.length_drop]; omega
      · simp only [Int.toNat_natCast, List.length_take]; omega
      · simp only [Int.toNat_natCast, List.length_append, List.length_take, List.length_drop, List.length_nil, List.length_singleton]; omega
  unfold spec_l3Order.f
  exact key n 0 [] i h (by omega) rfl List.nodup_nil (fun x hx => by cases hx) hc
end Go.Proofs.Ytckkfjdkaimmhaa.M
namespace Go.Proofs.Ytckkfjdkaimmhaa.PX
open Go.RowKit Go.Proofs.Ytckkfjdkaimmhaa.G Go.Proofs.YtckkfjdkaimmhaaW.PrintWords Go.Proofs.YtckkfjdkaimmhaaW.PrintLast Go.Proofs.YtckkfjdkaimmhaaW.PrintMore
attribute [local go_sem] max2_int min2_int max_two min_two max_three min_three max_four min_four   -- for this text's walks alone
set_option linter.unusedVariables false
set_option linter.unusedSimpArgs false
/-! ### impl_chi_reverse: function 87 -/
end Go.Proofs.Ytckkfjdkaimmhaa.PX
namespace Go.Proofs.Ytckkfjdkaimmhaa.M
open Go.RowKit Go.Proofs.YtckkfjdkaimmhaaW.PrintWords Go.Proofs.Ytckkfjdkaimmhaa.PX Go.Proofs.Ytckkfjdkaimmhaa.G Go.Proofs.YtckkfjdkaimmhaaW.PrintMore
def par (set : Int) (a b c : Nat) : Bool := decide (Go.bits .and .i64 (wrap64 ((wrap64 ((shr .i64 set (IntKind.u64.wrap (a : Int))) + (shr .i64 set (IntKind.u64.wrap (b : Int))))) + (shr .i64 set (IntKind.u64.wrap (c : Int))))) 1 = 1)
theorem u64_nat {a : Nat} (h : a ≤ 1000) : 0 ≤ IntKind.u64.wrap (a : Int) := by
  simp [IntKind.wrap, IntKind.signed, IntKind.bits]; omega
def revB (n : Nat) (set : Int) (s : Nat → Int) : Nat → Int := fun p => if par set (tripAt n p).f0.toNat (tripAt n p).f1.toNat (tripAt n p).f2.toNat then -(s p) else s p
theorem l4Reverse_ev {n : Nat} {t : ByteArray} (h : areOk n t = true) (set : Int) : Ev (fun k => spec_l4Reverse.f k (n : Int) t set) ((n : Int), txtS n (revB n set (sgB t))) := by
  obtain ⟨⟨h0, h1⟩, _, _⟩ := (areOk_iff _ _).1 h
  have h0 : 3 ≤ n := by omega
  have h1 : n ≤ 7 := by omega
  unfold spec_l4Reverse.f
  have key := loops3B (σ := List UInt8) (ρ := Int × ByteArray) (n := n) (K := fun u _ => some ((n : Int), mkB u)) (L0 := fun a u k => spec_l4Reverse.l0 k set a (n : Int) t (n : Int) (mkB u)) (L1 := fun a b u k => spec_l4Reverse.l1 k set a b (n : Int) t (n : Int) (mkB u))
    (L2 := fun a b c u k => spec_l4Reverse.l2 k set a b c (n : Int) t (n : Int) (mkB u)) h1 List.length 0 (fun u q => .ok (u ++ [sgC (if par set q.1 q.2.1 q.2.2 then -(chi n t q.1 q.2.1 q.2.2) else chi n t q.1 q.2.1 q.2.2)]))
    (foldlM_okL _ _ fun s a => by rw [List.length_append]; exact Nat.le_refl _) (fun u => ?_) (fun a ha u => ?_) (fun a ha u => ?_) (fun a b hab hb u => ?_) (fun a b hab hb u => ?_) (fun a b c hab hbc hc u hu => ?_) [] (Nat.le_refl _)
  · rw [foldlM_ok, foldl_snoc, List.nil_append] at key
    refine ev_cast (key _ (Ev.now _)) ?_
    refine Prod.ext rfl ?_
    show mkB _ = txtS n _
    unfold txtS
    congr 1
    have e := tripN_L h0 h1
    have el : (tripsL n).length = (tripN n).length := by rw [e, List.length_map]
    refine List.ext_getElem (by rw [List.length_map, List.length_map, List.length_range, el]) fun p hp1 hp2 => ?_
    rw [List.length_map, List.length_range] at hp2
    obtain ⟨a, b, c, e1, hab, hbc, hc, hlk⟩ := trip_at h0 h1 hp2
    simp only [List.getElem_map, List.getElem_range, revB, tripAt_eq hp2, e1, Int.toNat_natCast]
    have e2 : (tripsL n)[p]'(by rw [el]; exact hp2) = (a, b, c) := by
      have : (tripN n)[p] = ⟨(((tripsL n)[p]'(by rw [el]; exact hp2)).1 : Int), (((tripsL n)[p]'(by rw [el]; exact hp2)).2.1 : Int), (((tripsL n)[p]'(by rw [el]; exact hp2)).2.2 : Int)⟩ := by
        simp only [e, List.getElem_map]
      rw [e1] at this
      injection this with i1 i2 i3
      refine Prod.ext ?_ (Prod.ext ?_ ?_)
      · exact (Int.ofNat_inj.1 i1).symm
      · exact (Int.ofNat_inj.1 i2).symm
      · exact (Int.ofNat_inj.1 i3).symm
    rw [e2, chi_chiS, chiS_at _ hlk]
    rfl
  · refine Goes.step ?_
    simp only [spec_l4Reverse.l0]
    exact Goes.neg (by omega) (Goes.ok (K := fun u _ => some ((n : Int), mkB u)) u)
  · refine Goes.step ?_
    simp only [spec_l4Reverse.l0]
    refine Goes.pos (by omega) ?_
    rw [wrap_id (by omega) (by omega)]
    exact Goes.ok (K := fun u k => spec_l4Reverse.l1 k set (a : Int) ((a + 1 : Nat) : Int) (n : Int) t (n : Int) (mkB u)) u
  · refine Goes.step ?_
    simp only [spec_l4Reverse.l1]
    refine Goes.neg (by omega) ?_
    rw [wrap_id (by omega) (by omega)]
    exact Goes.ok (K := fun u k => spec_l4Reverse.l0 k set ((a + 1 : Nat) : Int) (n : Int) t (n : Int) (mkB u)) u
  · refine Goes.step ?_
    simp only [spec_l4Reverse.l1]
    refine Goes.pos (by omega) ?_
    rw [wrap_id (by omega) (by omega)]
    exact Goes.ok (K := fun u k => spec_l4Reverse.l2 k set (a : Int) (b : Int) ((b + 1 : Nat) : Int) (n : Int) t (n : Int) (mkB u)) u
  · refine Goes.step ?_
    simp only [spec_l4Reverse.l2]
    refine Goes.neg (by omega) ?_
    rw [wrap_id (by omega) (by omega)]
    exact Goes.ok (K := fun u k => spec_l4Reverse.l1 k set (a : Int) ((b + 1 : Nat) : Int) (n : Int) t (n : Int) (mkB u)) u
  · refine Goes.step ?_
    simp only [spec_l4Reverse.l2]
    refine Goes.pos (by omega) (Goes.ev (l3At_ev h (by omega) (by omega) hc (by omega) (by omega) (by omega)) (Goes.pos (u64_nat (by omega)) (Goes.pos (u64_nat (by omega)) (Goes.pos (u64_nat (by omega)) ?_))))
    have hpm := chi_pm (a := a) (b := b) (c := c) t h0 h1 (by omega) (by omega) hc (by omega) (by omega) (by omega)
    rw [wrap_id (x := (c : Int) + 1) (by omega) (by omega)]
    have fin : ∀ v, Goes (ρ := Int × ByteArray) (.ok (u ++ [sgC v])) (fun u k => spec_l4Reverse.l2 k set (a : Int) (b : Int) ((c + 1 : Nat) : Int) (n : Int) t (n : Int) (mkB u)) (fun k => if (mkB u).size + (mkB [sgC v]).size ≤ 9223372036854775807 then spec_l4Reverse.l2 k set (a : Int) (b : Int) ((c : Int) + 1) (n : Int) t (n : Int) (mkB u ++ mkB [sgC v]) else none) := fun v => by
      refine Goes.pos (by rw [mkB_size, mkB_size, List.length_cons, List.length_nil]; omega) ?_
      rw [mkB_append]
      exact Goes.ok (K := fun u k => spec_l4Reverse.l2 k set (a : Int) (b : Int) ((c + 1 : Nat) : Int) (n : Int) t (n : Int) (mkB u)) _
    by_cases g : par set a b c = true
    · refine Goes.pos (of_decide_eq_true g) (Goes.call (byte_ev _) ?_)
      rw [wrap_id (by omega) (by omega)]
      simp only [g, if_true]
      exact fin _
    · refine Goes.neg (fun e => g (decide_eq_true e)) (Goes.call (byte_ev _) ?_)
      simp only [g]
      exact fin _
end Go.Proofs.Ytckkfjdkaimmhaa.M
namespace Go.Proofs.Ytckkfjdkaimmhaa.PX
open Go.RowKit Go.Proofs.Ytckkfjdkaimmhaa.G Go.Proofs.YtckkfjdkaimmhaaW.PrintWords Go.Proofs.YtckkfjdkaimmhaaW.PrintLast Go.Proofs.YtckkfjdkaimmhaaW.PrintMore
attribute [local go_sem] max2_int min2_int max_two min_two max_three min_three max_four min_four   -- for this text's walks alone
set_option linter.unusedVariables false
set_option linter.unusedSimpArgs false
/-! ### spec_l3One: function 85 -/
/-! ### spec_l4Four: function 91 -/
/-! ### laws_hasInt: function 28 -/
end Go.Proofs.Ytckkfjdkaimmhaa.PX
namespace Go.Proofs.Ytckkfjdkaimmhaa.M
open Go.RowKit Go.Proofs.YtckkfjdkaimmhaaW.PrintWords Go.Proofs.Ytckkfjdkaimmhaa.PX Go.Proofs.Ytckkfjdkaimmhaa.G Go.Proofs.YtckkfjdkaimmhaaW.PrintMore
def SmallS (n : Int) (t : ByteArray) : Prop := (0 ≤ n ∧ n ≤ 8) ∧ t.size ≤ 101
theorem l4Draw_ok {l : List Int} (hl : l.length ≤ 1048576) {i : Int} (hc : Cur l i) (h : Int) : ∃ (n : Int) (t : ByteArray) (i' h' : Int), Ev (fun k => spec_l4Draw.f k l i h) (n, t, i', h') ∧ SmallS n t ∧ Cur l i' := by
  obtain ⟨n, t, i1, h1, e1, m1, m2, c1⟩ := l3Bent_ok hl hc h
  have ea := spec_are n t (by omega)
  have no : ∀ (i h : Int), Cur l i → ∃ (n' : Int) (t' : ByteArray) (i' h' : Int), Ev (fun k => spec_l4Draw.j0 k false l i h n t) (n', t', i', h') ∧ SmallS n' t' ∧ Cur l i' := fun i h hc => by
    refine ⟨n, t, i, h, ev_step ?_, ⟨m1, m2⟩, hc⟩
    simp only [spec_l4Draw.j0]
    exact ev_neg (by decide) (Ev.now _)
  by_cases g : areOk n t = true
  · obtain ⟨b, i2, h2, e2, c2⟩ := once_ok hl c1 h1 4
    cases b with
    | false =>
      obtain ⟨n', t', i', h', e, r⟩ := no i2 h2 c2
      refine ⟨n', t', i', h', ?_, r⟩
      unfold spec_l4Draw.f
      exact Ev.bind e1 (Ev.bind ea (ev_pos g (ev_call e2 e)))
    | true =>
      obtain ⟨⟨h0, h1'⟩, _, _⟩ := (areOk_iff _ _).1 g
      obtain ⟨N, rfl⟩ := Int.eq_ofNat_of_zero_le m1.1
      obtain ⟨x, i3, h3, e3, _, b3, c3⟩ := below_ok hl c2 h2 (N : Int)
      have b3 := b3 (by omega)
      obtain ⟨y, rfl⟩ := Int.eq_ofNat_of_zero_le b3.1
      have er := l4Reverse_ev g (shl .i64 1 (IntKind.u64.wrap (y : Int)))
      have hs := areOk_size (txtS_ok (revB N (shl .i64 1 (IntKind.u64.wrap (y : Int))) (sgB t)) (n := N) (by omega) (by omega))
      refine ⟨(N : Int), _, i3, h3, ?_, ⟨m1, Nat.le_trans hs (by decide)⟩, c3⟩
      unfold spec_l4Draw.f
      refine Ev.bind e1 (Ev.bind ea (ev_pos g (ev_call e2 (ev_step ?_))))
      simp only [spec_l4Draw.j0]
      exact ev_pos (by trivial) (ev_call e3 (ev_pos (u64_nat (by omega)) (Ev.bind er (Ev.now _))))
  · obtain ⟨n', t', i', h', e, r⟩ := no i1 h1 c1
    refine ⟨n', t', i', h', ?_, r⟩
    unfold spec_l4Draw.f
    exact Ev.bind e1 (Ev.bind ea (ev_neg g e))
theorem max_ev (a b : Int) : spec_l1Max.f a b = some (if a > b then a else b) := by
  unfold spec_l1Max.f
  split <;> rfl
theorem sameInts_self (l : List Int) (hl : l.length ≤ 10000000) : Ev (fun k => laws_sameInts.f k l l) true := by
  unfold laws_sameInts.f
  refine ev_pos rfl ?_
  have key : ∀ (d i : Nat), i + d = l.length → Ev (fun k => laws_sameInts.l0 k l l (i : Int)) true := by
    intro d
    induction d with
    | zero =>
      intro i hi
      refine ev_step ?_
      simp only [laws_sameInts.l0]
      exact ev_neg (by omega) (Ev.now _)
    | succ d ih =>
      intro i hi
      refine ev_step ?_
      simp only [laws_sameInts.l0]
      rw [wrap_id (by omega) (by omega)]
      exact ev_pos (by omega) (ev_pos (by omega) (ev_pos (by omega) (ev_pos (by trivial) (ih (i + 1) (by omega)))))
  exact key l.length 0 (by omega)
end Go.Proofs.Ytckkfjdkaimmhaa.M
namespace Go.Proofs.Ytckkfjdkaimmhaa.PX
open Go.RowKit Go.Proofs.Ytckkfjdkaimmhaa.G Go.Proofs.YtckkfjdkaimmhaaW.PrintWords Go.Proofs.YtckkfjdkaimmhaaW.PrintLast Go.Proofs.YtckkfjdkaimmhaaW.PrintMore
attribute [local go_sem] max2_int min2_int max_two min_two max_three min_three max_four min_four   -- for this text's walks alone
set_option linter.unusedVariables false
set_option linter.unusedSimpArgs false
/-! ### spec_l6One: function 124 -/
/-! ### laws_total: function 78 -/
end Go.Proofs.Ytckkfjdkaimmhaa.PX
namespace Go.Proofs.Ytckkfjdkaimmhaa.M
open Go.RowKit Go.Proofs.YtckkfjdkaimmhaaW.PrintWords Go.Proofs.Ytckkfjdkaimmhaa.PX Go.Proofs.Ytckkfjdkaimmhaa.G Go.Proofs.YtckkfjdkaimmhaaW.PrintMore
theorem l5Draw_ok {l : List Int} (hl : l.length ≤ 1048576) {i : Int} (hc : Cur l i) (h : Int) : ∃ (n : Int) (t : ByteArray) (i' h' : Int), Ev (fun k => spec_l5Draw.f k l i h) (n, t, i', h') ∧ SmallS n t ∧ Cur l i' := by
  obtain ⟨b, i1, h1, e1, c1⟩ := once_ok hl hc h 8
  cases b with
  | true =>
    obtain ⟨n, t, i2, h2, e2, s, c2⟩ := l4Draw_ok hl c1 h1
    refine ⟨n, t, i2, h2, ?_, s, c2⟩
    unfold spec_l5Draw.f
    exact ev_call e1 (ev_pos (by trivial) (Ev.bind e2 (Ev.now _)))
  | false =>
    obtain ⟨ps, i2, h2, e2, _, m, c2⟩ := l2Draw_ok hl c1 h1
    have z := signsV_small ps
    refine ⟨(signsV ps).1, (signsV ps).2.1, i2, h2, ?_, ⟨by omega, by omega⟩, c2⟩
    unfold spec_l5Draw.f
    exact ev_call e1 (ev_neg (by simp) (Ev.bind e2 (Ev.bind (spec_signsOf ps (by omega)) (Ev.now _))))
theorem l5New_ok {l : List Int} (hl : l.length ≤ 1048576) : ∃ (h : Int) (n : Int) (t : ByteArray) (i' h' : Int), Ev (fun k => spec_l1New.f k l) (l, 0, h) ∧ Ev (fun k => spec_l5Draw.f k l 0 h) (n, t, i', h') ∧ SmallS n t ∧ Cur l i' := by
  obtain ⟨h, hn⟩ := new_ok l hl
  obtain ⟨n, t, i, h', e, s, c⟩ := l5Draw_ok hl (cur0 l) h
  exact ⟨h, n, t, i, h', hn, e, s, c⟩
theorem l5Four_ok {l : List Int} (hl : l.length ≤ 1048576) : ∃ (n : Int) (t : ByteArray) (o : List Int), Ev (fun k => spec_l5Four.f k l) (n, t, o) ∧ SmallS n t ∧ o.length = 4 := by
  obtain ⟨h, hn⟩ := new_ok l hl
  obtain ⟨n, t, i1, h1, e1, m1, c1⟩ := l5Draw_ok hl (cur0 l) h
  obtain ⟨M, hM⟩ : ∃ M : Nat, (if (4 : Int) > n then 4 else n) = (M : Int) ∧ 4 ≤ M ∧ M ≤ 8 := by
    obtain ⟨⟨h0, h8⟩, _⟩ := m1
    split
    · exact ⟨4, rfl, by omega, by omega⟩
    · obtain ⟨N, rfl⟩ := Int.eq_ofNat_of_zero_le h0
      exact ⟨N, rfl, by omega, by omega⟩
  obtain ⟨o, i2, h2, e2, lo, _, _, c2⟩ := l3Order_ok hl c1 h1 M (by omega)
  obtain ⟨b, i3, h3, e3, c3⟩ := once_ok hl c2 h2 14
  have em := max_ev 4 n
  rw [hM.1] at em
  cases b with
  | false =>
    refine ⟨n, t, o.take (4 : Int).toNat, ?_, m1, by rw [List.length_take]; simp; omega⟩
    unfold spec_l5Four.f
    exact Ev.bind hn (Ev.bind e1 (ev_call em (Ev.bind e2 (ev_call e3 (ev_neg (by simp) (ev_pos (by simp only; omega) (Ev.now _)))))))
  | true =>
    obtain ⟨x, i4, h4, e4, _, _, c4⟩ := below_ok hl c3 h3 8
    refine ⟨n, t, (o.set (0 : Int).toNat (wrap64 (x - 1))).take (4 : Int).toNat, ?_, m1, by rw [List.length_take, List.length_set]; simp; omega⟩
    unfold spec_l5Four.f
    exact Ev.bind hn (Ev.bind e1 (ev_call em (Ev.bind e2 (ev_call e3 (ev_pos (by trivial) (ev_call e4 (ev_pos (by simp only; omega) (ev_pos (by simp only; omega) (Ev.now _)))))))))
theorem rdLL {l : List (List Int)} {i : Nat} (h : i < l.length) : rd_L6 l (i : Int) = l[i] := by
  unfold rd_L6
  rw [Int.toNat_natCast, List.getD_eq_getElem?_getD, List.getElem?_eq_getElem h]; rfl
theorem sameLists_self (L : List (List Int)) (hl : L.length ≤ 10000 ∧ ∀ r ∈ L, r.length ≤ 10000) : Ev (fun k => laws_sameLists.f k L L) true := by
  unfold laws_sameLists.f
  refine ev_pos rfl ?_
  have l0 := hl.1
  have key : ∀ (d i : Nat), i + d = L.length → Ev (fun k => laws_sameLists.l0 k L L (i : Int)) true := by
    intro d
    induction d with
    | zero =>
      intro i hi
      refine ev_step ?_
      simp only [laws_sameLists.l0]
      exact ev_neg (by omega) (Ev.now _)
    | succ d ih =>
      intro i hi
      refine ev_step ?_
      simp only [laws_sameLists.l0]
      rw [wrap_id (by omega) (by omega), rdLL (show i < L.length by omega)]
      exact ev_pos (by omega) (ev_pos (by omega) (ev_pos (by omega) (Ev.bind (sameInts_self _ (Nat.le_trans (hl.2 _ (List.getElem_mem _)) (by decide))) (ev_pos rfl (ih (i + 1) (by omega))))))
  exact key L.length 0 (by omega)
def sizeChk : Bool := (List.range 128).all fun s => decide (laws_size.f 20 (s : Int) = some (popN s : Int))
theorem sizeChk_ok : sizeChk = true := by decide +kernel
theorem size_ev {s : Nat} (h : s < 128) : Ev (fun k => laws_size.f k (s : Int)) (popN s : Int) :=
  Ev.of (laws_size.mono _) (of_decide_eq_true (List.all_eq_true.1 sizeChk_ok s (List.mem_range.2 h)))
end Go.Proofs.Ytckkfjdkaimmhaa.M
namespace Go.Proofs.Ytckkfjdkaimmhaa.M
open Go.RowKit Go.Proofs.YtckkfjdkaimmhaaW.PrintWords Go.Proofs.Ytckkfjdkaimmhaa.PX Go.Proofs.Ytckkfjdkaimmhaa.G Go.Proofs.YtckkfjdkaimmhaaW.PrintMore
def emptV (n : Nat) (t : ByteArray) : Nat := ((tripsL n).filter fun q => cntV n t q.1 q.2.1 q.2.2 == 0).length
def emptA (n : Int) (t : ByteArray) : Int := if acyOk n t = true then (emptV n.toNat t : Int) else -1
theorem cntL_fold {ρ α : Type} (c : α → Bool) (l : List α) : l.foldlM (fun (s : Nat) p => (.ok (if c p then s + 1 else s) : Except ρ Nat)) 0 = .ok (l.filter c).length := by
  rw [foldlM_ok]
  have key : ∀ (l : List α) (s : Nat), l.foldl (fun s p => if c p then s + 1 else s) s = s + (l.filter c).length := by
    intro l
    induction l with
    | nil => intro s; rfl
    | cons x l ih =>
      intro s
      rw [List.foldl_cons, ih, List.filter_cons]
      split
      · rw [List.length_cons]; omega
      · rfl
  rw [key, Nat.zero_add]
theorem impl_empt (n : Int) (t : ByteArray) (hs : t.size ≤ 9223372036854775807) : Ev (fun k => impl_EmptyTriangles.f k n t) (emptA n t) := by
  unfold impl_EmptyTriangles.f emptA
  refine Ev.bind (order_ev n t hs) ?_
  by_cases h : acyOk n t = true
  · rw [if_pos h, if_pos h]
    obtain ⟨N, rfl, ho, h0, h1⟩ := acy_are h
    simp only [Int.toNat_natCast]
    refine ev_pos (by trivial) (Ev.bind (triples_ev h0 h1) ?_)
    rw [tripN_S h0 h1]
    have hl : ((tripsL N).map toS3).length = (tripsL N).length := List.length_map ..
    have h35 := quads_len h0 h1
    have key := loop_up' (σ := Nat) (ρ := Int) (lo := 0) (n := (tripsL N).length) (K := fun s _ => some (s : Int)) (L := fun i s k => impl_EmptyTriangles.l0 k (tblL N t) (s : Int) ((tripsL N).map toS3) (((tripsL N).map toS3).length : Int) i)
      (fun i s => s ≤ i) (fun s i => .ok (if cntV N t ((tripsL N).getD i (0, 0, 0)).1 ((tripsL N).getD i (0, 0, 0)).2.1 ((tripsL N).getD i (0, 0, 0)).2.2 == 0 then s + 1 else s)) (fun s _ => ?_) (fun i _ hi s hs => ?_) (fun p _ hp s hs s' e => ?_) (by omega) 0 (by omega)
    · rw [foldlM_index (0, 0, 0) (fun (s : Nat) (q : Nat × Nat × Nat) => (.ok (if cntV N t q.1 q.2.1 q.2.2 == 0 then s + 1 else s) : Except Int Nat)), cntL_fold] at key
      exact key _ (Ev.now _)
    · refine Goes.step ?_
      simp only [impl_EmptyTriangles.l0]
      exact Goes.neg (by omega) (Goes.ok (K := fun s _ => some (s : Int)) s)
    · have hg : (tripsL N).getD i (0, 0, 0) = (tripsL N)[i] := by rw [List.getD_eq_getElem?_getD, List.getElem?_eq_getElem hi]; rfl
      have hm := List.getElem_mem hi
      rw [hg]
      refine Goes.step ?_
      simp only [impl_EmptyTriangles.l0, rd_toS3 hi]
      generalize (tripsL N)[i] = q at *
      obtain ⟨a, b, c⟩ := q
      obtain ⟨hab, hbc, hc⟩ := mem_trips hm
      simp only [toS3]
      refine Goes.pos (by omega) (Goes.pos (by omega) (Goes.pos (by omega) (Goes.pos (tblL_length _ _) (Goes.ev (impl_cnt ho (by omega) (by omega) hc (by omega) (by omega) (by omega)) ?_))))
      rw [wrap_id (x := (i : Int) + 1) (by omega) (by omega), wrap_id (x := (s : Int) + 1) (by omega) (by omega)]
      by_cases g : cntV N t a b c = 0
      · rw [beq_iff_eq.2 g]
        exact Goes.pos (by omega) (Goes.ok (K := fun (s : Nat) k => impl_EmptyTriangles.l0 k (tblL N t) (s : Int) ((tripsL N).map toS3) (((tripsL N).map toS3).length : Int) ((i + 1 : Nat) : Int)) (s + 1))
      · rw [beq_eq_false_iff_ne.2 g]
        exact Goes.neg (by omega) (Goes.ok _)
    · cases e
      split <;> omega
  · rw [if_neg h, if_neg h]
    exact ev_neg (by simp) (Ev.now _)
theorem spec_empt (n : Int) (t : ByteArray) (hs : t.size ≤ 9223372036854775807) : Ev (fun k => spec_EmptyTriangles.f k n t) (emptA n t) := by
  unfold spec_EmptyTriangles.f emptA
  refine Ev.bind (spec_isA n t hs) ?_
  by_cases h : acyOk n t = true
  · rw [if_pos h]
    refine ev_pos h ?_
    obtain ⟨N, rfl, ho, h0, h1⟩ := acy_are h
    simp only [Int.toNat_natCast]
    have key := loops3B (σ := Nat) (ρ := Int) (n := N) (K := fun s _ => some (s : Int)) (L0 := fun a s k => spec_EmptyTriangles.l0 k (s : Int) a (N : Int) t) (L1 := fun a b s k => spec_EmptyTriangles.l1 k (s : Int) a b (N : Int) t) (L2 := fun a b c s k => spec_EmptyTriangles.l2 k (s : Int) a b c (N : Int) t)
      h1 id 0 (fun s q => .ok (if cntV N t q.1 q.2.1 q.2.2 == 0 then s + 1 else s)) (foldlM_okL _ _ fun s a => by simp only [id]; split <;> omega) (fun s => ?_) (fun a ha s => ?_) (fun a ha s => ?_) (fun a b hab hb s => ?_) (fun a b hab hb s => ?_) (fun a b c hab hbc hc s hs => ?_) 0 (Nat.le_refl _)
    · rw [cntL_fold] at key
      exact key _ (Ev.now _)
    · refine Goes.step ?_
      simp only [spec_EmptyTriangles.l0]
      exact Goes.neg (by omega) (Goes.ok (K := fun s _ => some (s : Int)) s)
    · refine Goes.step ?_
      simp only [spec_EmptyTriangles.l0]
      refine Goes.pos (by omega) ?_
      rw [wrap_id (by omega) (by omega)]
      exact Goes.ok (K := fun (s : Nat) k => spec_EmptyTriangles.l1 k (s : Int) (a : Int) ((a + 1 : Nat) : Int) (N : Int) t) s
    · refine Goes.step ?_
      simp only [spec_EmptyTriangles.l1]
      refine Goes.neg (by omega) ?_
      rw [wrap_id (by omega) (by omega)]
      exact Goes.ok (K := fun (s : Nat) k => spec_EmptyTriangles.l0 k (s : Int) ((a + 1 : Nat) : Int) (N : Int) t) s
    · refine Goes.step ?_
      simp only [spec_EmptyTriangles.l1]
      refine Goes.pos (by omega) ?_
      rw [wrap_id (by omega) (by omega)]
      exact Goes.ok (K := fun (s : Nat) k => spec_EmptyTriangles.l2 k (s : Int) (a : Int) (b : Int) ((b + 1 : Nat) : Int) (N : Int) t) s
    · refine Goes.step ?_
      simp only [spec_EmptyTriangles.l2]
      refine Goes.neg (by omega) ?_
      rw [wrap_id (by omega) (by omega)]
      exact Goes.ok (K := fun (s : Nat) k => spec_EmptyTriangles.l1 k (s : Int) (a : Int) ((b + 1 : Nat) : Int) (N : Int) t) s
    · simp only [id] at hs
      refine Goes.step ?_
      simp only [spec_EmptyTriangles.l2]
      have hb1 : ∀ x : Bool, spec_l1Bit.f x = some (if x = true then 1 else 0) := fun x => by unfold spec_l1Bit.f; split <;> rfl
      refine Goes.pos (by omega) (Goes.ev (spec_cnt ho (by omega) (by omega) hc (by omega) (by omega) (by omega)) (Goes.call (hb1 _) ?_))
      rw [wrap_id (x := (c : Int) + 1) (by omega) (by omega)]
      by_cases g : cntV N t a b c = 0
      · have e : ((cntV N t a b c : Nat) : Int) = 0 := by omega
        rw [beq_iff_eq.2 g, beq_iff_eq.2 e, if_pos rfl, if_pos rfl, wrap_id (by omega) (by omega)]
        exact Goes.ok (K := fun (s : Nat) k => spec_EmptyTriangles.l2 k (s : Int) (a : Int) (b : Int) ((c + 1 : Nat) : Int) (N : Int) t) (s + 1)
      · have e : ¬ ((cntV N t a b c : Nat) : Int) = 0 := by omega
        rw [beq_eq_false_iff_ne.2 g, beq_eq_false_iff_ne.2 e, if_neg (by decide), if_neg (by decide), wrap_id (by omega) (by omega), Int.add_zero]
        exact Goes.ok (K := fun (s : Nat) k => spec_EmptyTriangles.l2 k (s : Int) (a : Int) (b : Int) ((c + 1 : Nat) : Int) (N : Int) t) s
  · rw [if_neg h]
    exact ev_neg h (Ev.now _)
end Go.Proofs.Ytckkfjdkaimmhaa.M
namespace Go.Proofs.Ytckkfjdkaimmhaa.M
open Go.RowKit Go.Proofs.YtckkfjdkaimmhaaW.PrintWords Go.Proofs.Ytckkfjdkaimmhaa.PX Go.Proofs.Ytckkfjdkaimmhaa.G
theorem four_sort {n : Nat} {P : Nat → Nat → Nat → Nat → Prop} (h1 : ∀ a b c d, a < n → b < n → c < n → d < n → P b a c d → P a b c d) (h2 : ∀ a b c d, a < n → b < n → c < n → d < n → P a c b d → P a b c d) (h3 : ∀ a b c d, a < n → b < n → c < n → d < n → P a b d c → P a b c d)
    (base : ∀ a b c d, a < b → b < c → c < d → d < n → P a b c d) {a b c d : Nat} (ha : a < n) (hb : b < n) (hc : c < n) (hd : d < n) (hx : dist4 a b c d = true) : P a b c d := by
  obtain ⟨e1, e2, e3, e4, e5, e6⟩ := dist4_iff.1 hx
  have A : ∀ a b c d : Nat, a < b → b < c → c < n → d < n → d ≠ a → d ≠ b → d ≠ c → P a b c d := by
    intro a b c d hab hbc hc hd k1 k2 k3
    rcases Nat.lt_or_gt_of_ne k3 with g | g
    · refine h3 _ _ _ _ (by omega) (by omega) hc hd ?_
      rcases Nat.lt_or_gt_of_ne k2 with g' | g'
      · refine h2 _ _ _ _ (by omega) (by omega) hd hc ?_
        rcases Nat.lt_or_gt_of_ne k1 with g'' | g''
        · exact h1 _ _ _ _ (by omega) hd (by omega) hc (base _ _ _ _ g'' hab hbc hc)
        · exact base _ _ _ _ g'' g' hbc hc
      · exact base _ _ _ _ hab g' g hc
    · exact base _ _ _ _ hab hbc g hd
  have B : ∀ a b c d : Nat, a < b → b < n → c < n → d < n → dist4 a b c d = true → P a b c d := by
    intro a b c d hab hb hc hd hx
    obtain ⟨e1, e2, e3, e4, e5, e6⟩ := dist4_iff.1 hx
    rcases Nat.lt_or_gt_of_ne e4 with g | g
    · exact A _ _ _ _ hab g hc hd (by omega) (by omega) (by omega)
    · refine h2 _ _ _ _ (by omega) hb hc hd ?_
      rcases Nat.lt_or_gt_of_ne e2 with g' | g'
      · exact A _ _ _ _ g' g hb hd (by omega) (by omega) (by omega)
      · exact h1 _ _ _ _ (by omega) hc hb hd (A _ _ _ _ g' hab hb hd (by omega) (by omega) (by omega))
  rcases Nat.lt_or_gt_of_ne e1 with g | g
  · exact B _ _ _ _ g hb hc hd hx
  · exact h1 _ _ _ _ ha hb hc hd (B _ _ _ _ g ha hc hd (dist4_iff.2 (by omega)))
structure Ord (n : Nat) (f : Nat → Nat → Nat → Int) : Prop where
  pm : ∀ a b c, a < n → b < n → c < n → a ≠ b → b ≠ c → a ≠ c → f a b c = 1 ∨ f a b c = -1
  s1 : ∀ a b c, a < n → b < n → c < n → f b a c = -f a b c
  s2 : ∀ a b c, a < n → b < n → c < n → f a c b = -f a b c
  gp : ∀ x a b c d, x < n → a < n → b < n → c < n → d < n → dist4 a b c d = true → x ≠ a → x ≠ b → x ≠ c → x ≠ d → ¬ (f x a b * f x c d = f x a d * f x b c ∧ f x a d * f x b c = -(f x a c) * f x b d)
  ac : ∀ a b c d, a < n → b < n → c < n → d < n → dist4 a b c d = true → ¬ (f a c d = -(f b c d) ∧ f a b d = f b c d ∧ f a b c = -(f b c d))
theorem brkFrom_nil {n : Nat} {t : ByteArray} : ∀ (d x : Nat), brkFrom n t x d = [] → ∀ y, x ≤ y → y < x + d → srch n t y (qs1 (othersN n y) 0 (othersN n y).length) = none := by
  intro d
  induction d with
  | zero => intro x _ y h1 h2; omega
  | succ d ih =>
    intro x h y h1 h2
    rw [brkFrom] at h
    cases hs : srch n t x (qs1 (othersN n x) 0 (othersN n x).length) with
    | some v =>
      rw [hs] at h
      obtain ⟨q, _, hq⟩ := List.exists_of_findSome?_eq_some hs
      unfold brkQ at hq
      split at hq
      · cases hq; cases h
      · cases hq
    | none =>
      rw [hs] at h
      by_cases e : y = x
      · subst e; exact hs
      · exact ih (x + 1) h y (by omega) (by omega)
theorem mat_gp {n : Nat} {t : ByteArray} (ho : areOk (n : Int) t = true) (hb0 : brkA n t = []) (h0 : 3 ≤ n) (h1 : n ≤ 7) : ∀ x a b c d, x < n → a < n → b < n → c < n → d < n → dist4 a b c d = true → x ≠ a → x ≠ b → x ≠ c → x ≠ d → ¬ (chi n t x a b * chi n t x c d = chi n t x a d * chi n t x b c ∧ chi n t x a d * chi n t x b c = -(chi n t x a c) * chi n t x b d) := by
  have s1 : ∀ a b c, a < n → b < n → c < n → chi n t b a c = -chi n t a b c := fun a b c ha hb hc => chi_swap1 t h0 h1 (by omega) (by omega) (by omega)
  have s2 : ∀ a b c, a < n → b < n → c < n → chi n t a c b = -chi n t a b c := fun a b c ha hb hc => chi_swap2 t h0 h1 (by omega) (by omega) (by omega)
  intro x a b c d hx ha hb hc hd hq k1 k2 k3 k4
  refine four_sort (n := n) (P := fun a b c d => x ≠ a → x ≠ b → x ≠ c → x ≠ d → ¬ (chi n t x a b * chi n t x c d = chi n t x a d * chi n t x b c ∧ chi n t x a d * chi n t x b c = -(chi n t x a c) * chi n t x b d)) ?_ ?_ ?_ ?_ ha hb hc hd hq k1 k2 k3 k4
  · intro a b c d ha hb hc hd hP k1 k2 k3 k4 hh
    refine hP k2 k1 k3 k4 ?_
    rw [s2 x a b hx ha hb]
    have e1 := hh.1
    have e2 := hh.2
    constructor
    · rw [Int.neg_mul, e1, e2, Int.neg_mul, Int.neg_neg, Int.mul_comm]
    · rw [Int.mul_comm (chi n t x b d), Int.neg_mul, Int.mul_comm (chi n t x b c)]
      rw [Int.neg_mul] at e2
      omega
  · intro a b c d ha hb hc hd hP k1 k2 k3 k4 hh
    refine hP k1 k3 k2 k4 ?_
    have e1 := hh.1
    have e2 := hh.2
    have e3 : chi n t x c b = -chi n t x b c := s2 x b c hx hb hc
    rw [e3]
    rw [Int.neg_mul] at e2
    constructor
    · rw [Int.mul_neg]; omega
    · rw [Int.mul_neg, Int.neg_mul]; omega
  · intro a b c d ha hb hc hd hP k1 k2 k3 k4 hh
    refine hP k1 k2 k4 k3 ?_
    have e1 := hh.1
    have e2 := hh.2
    have e3 : chi n t x d c = -chi n t x c d := s2 x c d hx hc hd
    rw [e3]
    rw [Int.neg_mul] at e2
    constructor
    · rw [Int.mul_neg]; omega
    · rw [Int.neg_mul]; omega
  · intro a b c d hab hbc hcd hd k1 k2 k3 k4 hh
    have hA : areOk (n : Int) t = true := ho
    have hb := hb0
    unfold brkA at hb
    rw [if_pos hA, Int.toNat_natCast] at hb
    have hs := brkFrom_nil n 0 hb x (by omega) (by omega)
    have hcq := chkQ_ok h0 h1
    simp only [chkQ, Bool.and_eq_true, List.all_eq_true, List.mem_range, decide_eq_true_eq] at hcq
    rw [← hcq.1.1 x hx, (quadQ_L h0 h1).1] at hs
    unfold srch at hs
    have hq := List.findSome?_eq_none_iff.1 hs (a, b, c, d) (List.mem_filter.2 ⟨quads_mem hab hbc hcd hd, by simp only [noX, Bool.and_eq_true, decide_eq_true_eq]; omega⟩)
    unfold brkQ at hq
    split at hq
    · cases hq
    · rename_i hbk
      refine hbk ?_
      unfold brk
      rw [Bool.and_eq_true, decide_eq_true_eq, decide_eq_true_eq]
      exact hh
theorem acyc_ac {n : Nat} {t : ByteArray} (hac0 : acyc n t = true) (h0 : 3 ≤ n) (h1 : n ≤ 7) : ∀ a b c d, a < n → b < n → c < n → d < n → dist4 a b c d = true → ¬ (chi n t a c d = -(chi n t b c d) ∧ chi n t a b d = chi n t b c d ∧ chi n t a b c = -(chi n t b c d)) := by
  have s1 : ∀ a b c, a < n → b < n → c < n → chi n t b a c = -chi n t a b c := fun a b c ha hb hc => chi_swap1 t h0 h1 (by omega) (by omega) (by omega)
  have s2 : ∀ a b c, a < n → b < n → c < n → chi n t a c b = -chi n t a b c := fun a b c ha hb hc => chi_swap2 t h0 h1 (by omega) (by omega) (by omega)
  intro a b c d ha hb hc hd hq
  refine four_sort (n := n) (P := fun a b c d => dist4 a b c d = true → ¬ (chi n t a c d = -(chi n t b c d) ∧ chi n t a b d = chi n t b c d ∧ chi n t a b c = -(chi n t b c d))) ?_ ?_ ?_ ?_ ha hb hc hd hq hq
  · intro a b c d ha hb hc hd hP hx hh
    refine hP (dist4_iff.2 (by have := dist4_iff.1 hx; omega)) ?_
    have e1 := s1 a b d ha hb hd
    have e2 := s1 a b c ha hb hc
    omega
  · intro a b c d ha hb hc hd hP hx hh
    refine hP (dist4_iff.2 (by have := dist4_iff.1 hx; omega)) ?_
    have e1 := s1 b c d hb hc hd
    have e2 := s2 a b c ha hb hc
    omega
  · intro a b c d ha hb hc hd hP hx hh
    refine hP (dist4_iff.2 (by have := dist4_iff.1 hx; omega)) ?_
    have e1 := s2 b c d hb hc hd
    have e2 := s2 a c d ha hc hd
    omega
  · intro a b c d hab hbc hcd hd hx hh
    have hac := hac0
    unfold acyc at hac
    rw [Bool.not_eq_true', List.any_eq_false] at hac
    refine hac (a, b, c, d) (quads_mem hab hbc hcd hd) ?_
    obtain ⟨e1, e2, e3⟩ := hh
    unfold allPlus
    simp only [e1, e2, e3, decide_eq_true_eq]
    rcases chi_pm (n := n) (a := b) (b := c) (c := d) t h0 h1 (by omega) (by omega) hd (by omega) (by omega) (by omega) with e | e <;> rw [e] <;> decide +kernel
theorem order_ord {n : Nat} {t : ByteArray} (h : acyOk n t = true) : Ord n (chi n t) := by
  obtain ⟨N, hN, ho, h0, h1⟩ := acy_are h
  obtain rfl : n = N := by omega
  have hm : brkA n t = [] ∧ acyc n t = true := by
    unfold acyOk matOk at h
    simp only [Bool.and_eq_true, Int.toNat_natCast, List.isEmpty_iff] at h
    exact ⟨h.1.2, h.2⟩
  have s1 : ∀ a b c, a < n → b < n → c < n → chi n t b a c = -chi n t a b c := fun a b c ha hb hc => chi_swap1 t h0 h1 (by omega) (by omega) (by omega)
  have s2 : ∀ a b c, a < n → b < n → c < n → chi n t a c b = -chi n t a b c := fun a b c ha hb hc => chi_swap2 t h0 h1 (by omega) (by omega) (by omega)
  exact ⟨fun a b c ha hb hc hab hbc hac => chi_pm t h0 h1 ha hb hc hab hbc hac, s1, s2, mat_gp ho hm.1 h0 h1, acyc_ac hm.2 h0 h1⟩
end Go.Proofs.Ytckkfjdkaimmhaa.M
