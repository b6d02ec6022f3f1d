/- A part of proofs about signs and points: what some functions answer, and that their calls answer so. No condition. -/
import Derived.Test.YtckkfjdkaimmhaaGreatDoorProg
import Derived.Laws.Bits128
import Derived.Lib.AtoiAllCases
import Derived.Lib.ItoaNum
import Derived.Test.YtckkfjdkaimmhaaGreatDoorV1
import Derived.Test.YtckkfjdkaimmhaaGreatDoorBkoscde1
import Derived.Test.YtckkfjdkaimmhaaGreatDoorBkoscde2
import Derived.Test.YtckkfjdkaimmhaaGreatDoorBkoscde3
set_option linter.unusedVariables false
set_option linter.unusedSimpArgs false
namespace Go.Proofs.YtckkfjdkaimmhaaGreatDoor.PX
open Go.RowKit Go.Proofs.YtckkfjdkaimmhaaGreatDoor.G Go.Proofs.YtckkfjdkaimmhaaGreatDoorW.PrintWords Go.Proofs.YtckkfjdkaimmhaaGreatDoorW.PrintLast Go.Proofs.YtckkfjdkaimmhaaGreatDoorW.PrintMore
attribute [local go_sem] max2_int min2_int Yv Yx Xm Xl X9 Yb   -- for this text's walks alone
set_option linter.unusedVariables false
set_option linter.unusedSimpArgs false
attribute [local go_sem high] jM4
mutual
def Qe.j0 : Nat → Int → Int → Int → List (S48) → Bool → Bool → List Int → Bool → Bool → Int → ByteArray → Int → ByteArray → Int → ByteArray → Int → ByteArray → Int → ByteArray → Int → ByteArray → Option (Bool)
 | 0, _, _, _, _, _, _, _, _, _, _, _, _, _, _, _, _, _, _, _, _, _ => none
 | k + 1, x4, x5, x6, x7, x9, aW, aX, x20, aY, aA, aC, aD, aG, aH, aI, aJ, aK, aM, aN, aQ, aT => if aY = true then (some false) else ((J9.f k aA aC).bind fun aV => ((Jv.f k aV).bind fun aU => ((Jy.f k aA aC).bind fun aZ => (if aV.toList = aZ.toList then ((Qu.f k aA aC).bind fun bA => (if (aU.2.2 != bA) = true then (Qe.j1 k x4 x5 x6 x7 x9 aW aX x20 true aA aC aD aG aH aI aJ aK aM aN aQ aT) else (if aU.2.2 = true then (Qe.j1 k x4 x5 x6 x7 x9 aW aX x20 (!(aU.1 == aA) || (!(aU.2.1.toList == aC.toList))) aA aC aD aG aH aI aJ aK aM aN aQ aT) else (Qe.j1 k x4 x5 x6 x7 x9 aW aX x20 false aA aC aD aG aH aI aJ aK aM aN aQ aT)))) else (Qe.j1 k x4 x5 x6 x7 x9 aW aX x20 true aA aC aD aG aH aI aJ aK aM aN aQ aT)))))
def Qe.j1 : Nat → Int → Int → Int → List (S48) → Bool → Bool → List Int → Bool → Bool → Int → ByteArray → Int → ByteArray → Int → ByteArray → Int → ByteArray → Int → ByteArray → Int → ByteArray → Option (Bool)
 | 0, _, _, _, _, _, _, _, _, _, _, _, _, _, _, _, _, _, _, _, _, _ => none
 | k + 1, x4, x5, x6, x7, x9, aZ, bA, x20, aU, aA, aC, aD, aG, aH, aI, aJ, aK, aM, aN, aQ, aT => if aU = true then (some false) else ((J2.f k aA aC x4 x5 x6).bind fun aV => ((J2.f k aA aC x5 x6 x4).bind fun aW => (if aV = aW then ((J2.f k aA aC x4 x5 x6).bind fun aX => ((J2.f k aA aC x5 x4 x6).bind fun aY => (Qe.j2 k x7 x9 aZ bA x20 (aX != (wrap64 (-aY))) aD aG aH aI aJ aK aM aN aQ aT))) else (Qe.j2 k x7 x9 aZ bA x20 true aD aG aH aI aJ aK aM aN aQ aT))))
def Qe.j2 : Nat → List (S48) → Bool → Bool → List Int → Bool → Bool → Int → ByteArray → Int → ByteArray → Int → ByteArray → Int → ByteArray → Int → ByteArray → Option (Bool)
 | 0, _, _, _, _, _, _, _, _, _, _, _, _, _, _, _, _ => none
 | k + 1, x7, x9, aV, aW, x20, aQ, aM, aN, aA, aC, aD, aG, aH, aI, aJ, aK => if aQ = true then (some false) else (if x9 = true then ((J2.f k aM aN 0 1 2).bind fun aT => (if 0 < (x7.length : Int) then (if 1 < (x7.length : Int) then (if 2 < (x7.length : Int) then ((Xa.f ((Qp x7 0).f0) ((Qp x7 0).f1) ((Qp x7 1).f0) ((Qp x7 1).f1) ((Qp x7 2).f0) ((Qp x7 2).f1)).bind fun aU => (Qe.j3 k aV aW x20 (aT != aU) aA aC aD aG aH aI aJ aK)) else (none)) else (none)) else (none))) else (Qe.j3 k aV aW x20 false aA aC aD aG aH aI aJ aK))
def Qe.j3 : Nat → Bool → List Int → Bool → Bool → Int → ByteArray → Int → ByteArray → Int → ByteArray → Int → ByteArray → Option (Bool)
 | 0, _, _, _, _, _, _, _, _, _, _, _, _ => none
 | k + 1, aU, aM, x20, aN, aA, aC, aD, aG, aH, aI, aJ, aK => if aN = true then (some false) else (if x20 = true then (if 0 < (aM.length : Int) then (if 1 < (aM.length : Int) then (if 2 < (aM.length : Int) then ((J2.f k aJ aK (rd aM 0) (rd aM 1) (rd aM 2)).bind fun aQ => ((J2.f k aH aI 0 1 2).bind fun aT => (Qe.j4 k aU (aQ != aT) aA aC aD aG))) else (none)) else (none)) else (none)) else (Qe.j4 k aU false aA aC aD aG))
def Qe.j4 : Nat → Bool → Bool → Int → ByteArray → Int → ByteArray → Option (Bool)
 | 0, _, _, _, _, _, _ => none
 | k + 1, aM, aI, aA, aC, aD, aG => if aI = true then (some false) else (if aM = true then ((Jk.f k aD aG).bind fun aH => (if (aH.1 == aA && (aH.2.1.toList == aC.toList)) = true then ((J2.f k aD aG 0 1 2).bind fun aJ => ((J2.f k aA aC 0 1 2).bind fun aK => (some (aJ == (wrap64 (-aK)))))) else (some false))) else (some true))
end
def Qe.f (k : Nat) (l0 : List Int) : Option (Bool) := (Kg.f l0).bind fun aY => (if aY = true then (some true) else ((Xp.f k l0).bind fun aA => ((Xd.f k l0).bind fun aJ => ((Js.f k aJ).bind fun aD => ((Qz.f k aJ).bind fun aM => ((Zk.f k l0).bind fun aI => ((Jk.f k aI.1 aI.2).bind fun aG => ((Q8.f k aI.1 aI.2).bind fun aN => ((Zp.f k l0).bind fun aC => ((Ju.f k aC.1 aC.2.1 aC.2.2).bind fun aH => ((Jw.f k aC.1 aC.2.1 aC.2.2).bind fun aQ => ((Zi.f k l0).bind fun aK => ((Qs.f k aK.1 aK.2.1 aK.2.2).bind fun aT => ((Q4.f k aK.1 aK.2.1 aK.2.2).bind fun aU => ((Zv.f k l0).bind fun aX => ((Jv.f k aX).bind fun aV => ((J3.f k aX).bind fun aW => ((J2.f k aA.1 aA.2.1 aA.2.2.1 aA.2.2.2.1 aA.2.2.2.2).bind fun aZ => ((Yy.f k aA.1 aA.2.1 aA.2.2.1 aA.2.2.2.1 aA.2.2.2.2).bind fun bA => (if aZ = bA then (if (aD.2.2 != aM.2.2) = true then (Qe.j0 k aA.2.2.1 aA.2.2.2.1 aA.2.2.2.2 aJ aD.2.2 aG.2.2 aC.2.2 aH.2.2 true aA.1 aA.2.1 aD.1 aD.2.1 aI.1 aI.2 aG.1 aG.2.1 aC.1 aC.2.1 aH.1 aH.2.1) else (if (!(aD.1 == aM.1) || (!(aD.2.1.toList == aM.2.1.toList))) = true then (Qe.j0 k aA.2.2.1 aA.2.2.2.1 aA.2.2.2.2 aJ aD.2.2 aG.2.2 aC.2.2 aH.2.2 true aA.1 aA.2.1 aD.1 aD.2.1 aI.1 aI.2 aG.1 aG.2.1 aC.1 aC.2.1 aH.1 aH.2.1) else (if (aG.2.2 != aN.2.2) = true then (Qe.j0 k aA.2.2.1 aA.2.2.2.1 aA.2.2.2.2 aJ aD.2.2 aG.2.2 aC.2.2 aH.2.2 true aA.1 aA.2.1 aD.1 aD.2.1 aI.1 aI.2 aG.1 aG.2.1 aC.1 aC.2.1 aH.1 aH.2.1) else (if (!(aG.1 == aN.1) || (!(aG.2.1.toList == aN.2.1.toList))) = true then (Qe.j0 k aA.2.2.1 aA.2.2.2.1 aA.2.2.2.2 aJ aD.2.2 aG.2.2 aC.2.2 aH.2.2 true aA.1 aA.2.1 aD.1 aD.2.1 aI.1 aI.2 aG.1 aG.2.1 aC.1 aC.2.1 aH.1 aH.2.1) else (if (aH.2.2 != aQ.2.2) = true then (Qe.j0 k aA.2.2.1 aA.2.2.2.1 aA.2.2.2.2 aJ aD.2.2 aG.2.2 aC.2.2 aH.2.2 true aA.1 aA.2.1 aD.1 aD.2.1 aI.1 aI.2 aG.1 aG.2.1 aC.1 aC.2.1 aH.1 aH.2.1) else (if (!(aH.1 == aQ.1) || (!(aH.2.1.toList == aQ.2.1.toList))) = true then (Qe.j0 k aA.2.2.1 aA.2.2.2.1 aA.2.2.2.2 aJ aD.2.2 aG.2.2 aC.2.2 aH.2.2 true aA.1 aA.2.1 aD.1 aD.2.1 aI.1 aI.2 aG.1 aG.2.1 aC.1 aC.2.1 aH.1 aH.2.1) else (if (aT.2.2 != aU.2.2) = true then (Qe.j0 k aA.2.2.1 aA.2.2.2.1 aA.2.2.2.2 aJ aD.2.2 aG.2.2 aC.2.2 aH.2.2 true aA.1 aA.2.1 aD.1 aD.2.1 aI.1 aI.2 aG.1 aG.2.1 aC.1 aC.2.1 aH.1 aH.2.1) else (if (!(aT.1 == aU.1) || (!(aT.2.1.toList == aU.2.1.toList))) = true then (Qe.j0 k aA.2.2.1 aA.2.2.2.1 aA.2.2.2.2 aJ aD.2.2 aG.2.2 aC.2.2 aH.2.2 true aA.1 aA.2.1 aD.1 aD.2.1 aI.1 aI.2 aG.1 aG.2.1 aC.1 aC.2.1 aH.1 aH.2.1) else (if (aV.2.2 != aW.2.2) = true then (Qe.j0 k aA.2.2.1 aA.2.2.2.1 aA.2.2.2.2 aJ aD.2.2 aG.2.2 aC.2.2 aH.2.2 true aA.1 aA.2.1 aD.1 aD.2.1 aI.1 aI.2 aG.1 aG.2.1 aC.1 aC.2.1 aH.1 aH.2.1) else (if (!(aV.1 == aW.1) || (!(aV.2.1.toList == aW.2.1.toList))) = true then (Qe.j0 k aA.2.2.1 aA.2.2.2.1 aA.2.2.2.2 aJ aD.2.2 aG.2.2 aC.2.2 aH.2.2 true aA.1 aA.2.1 aD.1 aD.2.1 aI.1 aI.2 aG.1 aG.2.1 aC.1 aC.2.1 aH.1 aH.2.1) else ((Qw.f k aA.1 aA.2.1).bind fun bB => ((Qu.f k aA.1 aA.2.1).bind fun bC => (Qe.j0 k aA.2.2.1 aA.2.2.2.1 aA.2.2.2.2 aJ aD.2.2 aG.2.2 aC.2.2 aH.2.2 (bB != bC) aA.1 aA.2.1 aD.1 aD.2.1 aI.1 aI.2 aG.1 aG.2.1 aC.1 aC.2.1 aH.1 aH.2.1))))))))))))) else (Qe.j0 k aA.2.2.1 aA.2.2.2.1 aA.2.2.2.2 aJ aD.2.2 aG.2.2 aC.2.2 aH.2.2 true aA.1 aA.2.1 aD.1 aD.2.1 aI.1 aI.2 aG.1 aG.2.1 aC.1 aC.2.1 aH.1 aH.2.1)))))))))))))))))))))
def Qe.T19 : Bool × List (List Nat × List Nat) := (true, [([], []), ([], []), ([], []), ([], []), ([0, 1, 2, 3], [0, 1, 2, 3]), ([], []), ([], []), ([], []), ([], []), ([5, 6, 7, 8, 4], [5, 6, 7, 8]), ([4, 9], [4, 9]), ([10, 9], [10]), ([11], [11]), ([11], [11]), ([12, 13, 11], [11, 12, 13]), ([11, 14], [11, 14]), ([15, 11], [15]), ([16], [16]), ([16], [16]), ([17, 18, 16], [16, 17, 18]), ([16, 19], [16, 19]), ([20, 16], [20]), ([21], [21]), ([21], [21]), ([22, 23, 21], [21, 22, 23]), ([21, 24], [21, 24]), ([25, 21], [25]), ([26], [26]), ([26], [26]), ([27, 28, 26], [26, 27, 28]), ([26, 29], [26, 29]), ([30, 26], [30]), ([31], [31]), ([31], [31]), ([32, 33, 31], [31, 32, 33]), ([31, 34], [31, 34]), ([35, 31], [35]), ([36], [36]), ([36], [36]), ([37, 38, 36], [36, 37, 38]), ([36, 39], [36, 39]), ([40, 36], [40]), ([41], [41]), ([41], [41]), ([42, 43, 41], [41, 42, 43]), ([41, 44], [41, 44]), ([45, 41], [45]), ([46], [46]), ([46], [46]), ([47, 48, 46], [46, 47, 48]), ([46, 49], [46, 49]), ([50, 46], [50]), ([51], [51]), ([51], [51]), ([52, 53, 51], [51, 52, 53]), ([51, 54], [51, 54]), ([55, 51], [55]), ([56], [56]), ([56], [56]), ([57, 58, 56], [56, 57, 58]), ([56, 59], [56, 59]), ([60, 56], [60]), ([61], [61]), ([62, 61, 61], [61, 62]), ([61], [61]), ([64, 63, 61], [61, 64]), ([63, 65, 61], [61, 63, 65]), ([61, 66], [61, 66])])
def Qe.B19 : List Nat := [0, 0, 0, 0, 15, 0, 0, 0, 0, 511, 1023, 2047, 4095, 4095, 16383, 32767, 65535, 131071, 131071, 524287, 1048575, 2097151, 4194303, 4194303, 16777215, 33554431, 67108863, 134217727, 134217727, 536870911, 1073741823, 2147483647, 4294967295, 4294967295, 17179869183, 34359738367, 68719476735, 137438953471, 137438953471, 549755813887, 1099511627775, 2199023255551, 4398046511103, 4398046511103, 17592186044415, 35184372088831, 70368744177663, 140737488355327, 140737488355327, 562949953421311, 1125899906842623, 2251799813685247, 4503599627370495, 4503599627370495, 18014398509481983, 36028797018963967, 72057594037927935, 144115188075855871, 144115188075855871, 576460752303423487, 1152921504606846975, 2305843009213693951, 4611686018427387903, 9223372036854775807, 4611686018427387903, 36893488147419103231, 73786976294838206463, 147573952589676412927]
theorem Qe.tab19 : Vv .any (opsOf Tryz.f3 19) = Qe.T19 := by kernel_rfl
theorem Qe.bits19 : Zz Qe.T19.2 Qe.B19 = true := by kernel_rfl
def Qe.T25 : Bool × List (List Nat × List Nat) := (true, [([], []), ([], []), ([], []), ([], []), ([0, 1, 2, 3], [0, 1, 2, 3]), ([], []), ([], []), ([], []), ([], []), ([5, 6, 7, 8, 4], [5, 6, 7, 8]), ([4, 9], [4, 9]), ([10, 9], [10]), ([11], [11]), ([11], [11]), ([11], [11]), ([11], [11]), ([12, 13, 14, 15, 11, 11], [11, 12, 13, 14, 15]), ([11], [11]), ([11], [11]), ([11], [11]), ([11], [11]), ([17, 18, 19, 20, 16, 11], [11, 17, 18, 19, 20]), ([21, 11], [11, 21]), ([16, 22, 11], [11, 16, 22]), ([11, 23], [11, 23])])
def Qe.B25 : List Nat := [0, 0, 0, 0, 15, 0, 0, 0, 0, 511, 1023, 2047, 4095, 4095, 4095, 4095, 65535, 4095, 4095, 4095, 4095, 2097151, 4194303, 8388607, 16777215]
theorem Qe.tab25 : Vv .any (opsOf Tryz.f3 25) = Qe.T25 := by kernel_rfl
theorem Qe.bits25 : Zz Qe.T25.2 Qe.B25 = true := by kernel_rfl
def Qe.T27 : Bool × List (List Nat × List Nat) := (true, [([], []), ([0], [0]), ([1], [1]), ([2, 1, 1], [1, 2]), ([1], [1]), ([4, 1], [1, 4]), ([5, 1], [1, 5]), ([1], [1]), ([7, 1], [1, 7]), ([8, 1], [1, 8]), ([1], [1]), ([10, 1], [1, 10]), ([11, 1], [1, 11]), ([6, 9, 12, 3, 1], [1, 6, 9, 12]), ([3, 13, 1], [1, 3, 13]), ([1, 14], [1, 14])])
def Qe.B27 : List Nat := [0, 1, 3, 7, 3, 19, 51, 3, 131, 387, 3, 1027, 3075, 8191, 16383, 32767]
theorem Qe.tab27 : Vv .any (opsOf Tryz.f3 27) = Qe.T27 := by kernel_rfl
theorem Qe.bits27 : Zz Qe.T27.2 Qe.B27 = true := by kernel_rfl
def Qe.T29 : Bool × List (List Nat × List Nat) := (true, [([], []), ([0], [0]), ([1], [1]), ([1], [1]), ([3, 1], [1, 3]), ([4, 1], [1, 4]), ([1], [1]), ([6, 1], [1, 6]), ([7, 1], [1, 7]), ([1], [1]), ([9, 1], [1, 9]), ([10, 1], [1, 10]), ([2, 5, 8, 11, 1, 1], [1, 2, 5, 8, 11]), ([1], [1]), ([13, 12, 1], [1, 13]), ([12, 14, 1], [1, 12, 14]), ([1, 15], [1, 15])])
def Qe.B29 : List Nat := [0, 1, 3, 3, 11, 27, 3, 67, 195, 3, 515, 1539, 4095, 3, 16383, 32767, 65535]
theorem Qe.tab29 : Vv .any (opsOf Tryz.f3 29) = Qe.T29 := by kernel_rfl
theorem Qe.bits29 : Zz Qe.T29.2 Qe.B29 = true := by kernel_rfl
def Qe.T34 : Bool × List (List Nat × List Nat) := (true, [([], []), ([], []), ([0, 1], [0, 1]), ([2], [2]), ([3], [3]), ([4, 3, 3], [3, 4]), ([3], [3]), ([6, 5, 3], [3, 6]), ([7, 3], [3, 7]), ([5, 8, 3], [3, 5, 8]), ([3, 9], [3, 9]), ([10, 7, 0, 1, 2, 3, 4, 5, 6, 7, 8, 9, 10], [10])])
def Qe.B34 : List Nat := [0, 0, 3, 7, 15, 31, 15, 127, 255, 511, 1023, 2047]
theorem Qe.tab34 : Vv .any (opsOf Tryz.f3 34) = Qe.T34 := by kernel_rfl
theorem Qe.bits34 : Zz Qe.T34.2 Qe.B34 = true := by kernel_rfl
theorem Qe.j0_no (k : Nat) (y0 : Int) (y1 : Int) (y2 : Int) (y3 : List (S48)) (y4 : Bool) (y5 : Bool) (y6 : List Int) (y7 : Bool) (y9 : Int) (aA : ByteArray) (aC : Int) (aD : ByteArray) (y13 : Int) (aG : ByteArray) (aH : Int) (aI : ByteArray) (aJ : Int) (aK : ByteArray) (aM : Int) (y20 : ByteArray) (r : Bool) (h_ : r = true) : ¬ Qe.j0 k y0 y1 y2 y3 y4 y5 y6 y7 true y9 aA aC aD y13 aG aH aI aJ aK aM y20 = some r := by
 subst h_
 cases k <;> simp [Qe.j0]
theorem Qe.j1_no (k : Nat) (y0 : Int) (y1 : Int) (y2 : Int) (y3 : List (S48)) (y4 : Bool) (y5 : Bool) (y6 : List Int) (y7 : Bool) (y9 : Int) (aA : ByteArray) (aC : Int) (aD : ByteArray) (y13 : Int) (aG : ByteArray) (aH : Int) (aI : ByteArray) (aJ : Int) (aK : ByteArray) (aM : Int) (y20 : ByteArray) (r : Bool) (h_ : r = true) : ¬ Qe.j1 k y0 y1 y2 y3 y4 y5 y6 y7 true y9 aA aC aD y13 aG aH aI aJ aK aM y20 = some r := by
 subst h_
 cases k <;> simp [Qe.j1]
theorem Qe.j2_no (k : Nat) (y0 : List (S48)) (y1 : Bool) (y2 : Bool) (y3 : List Int) (y4 : Bool) (y6 : Int) (y7 : ByteArray) (y8 : Int) (y9 : ByteArray) (aA : Int) (aC : ByteArray) (aD : Int) (y13 : ByteArray) (aG : Int) (aH : ByteArray) (r : Bool) (h_ : r = true) : ¬ Qe.j2 k y0 y1 y2 y3 y4 true y6 y7 y8 y9 aA aC aD y13 aG aH = some r := by
 subst h_
 cases k <;> simp [Qe.j2]
theorem jAw {p q p0 p1 p2 p3 p4 p5 p6 p7 p8 : Prop} (g : p) (g0 : p0) (g1 : p1) (g2 : p2) (g3 : p3) (g4 : p4) (g5 : p5) (g6 : p6) (g7 : p7) (g8 : p8) (h : p → p0 → p1 → p2 → p3 → p4 → p5 → p6 → p7 → p8 → q := by intro zg_ aA aC aD aG aH aI aJ aK aM; repeat (first | (with_reducible first | exact zg_ | apply Qv | apply Qr | apply Qo | refine Qf ?_ aA | refine Qf ?_ aC | refine Qf ?_ aD | refine Qf ?_ aG | refine Qf ?_ aH | refine Qf ?_ aI | refine Qf ?_ aJ | refine Qf ?_ aK | refine Qf ?_ aM) | exact zg_)) : q := h g g0 g1 g2 g3 g4 g5 g6 g7 g8
theorem jB6 {p q p0 p1 p2 p3 p4 p5 p6 p7 p8 p9 : Prop} (g : p) (g0 : p0) (g1 : p1) (g2 : p2) (g3 : p3) (g4 : p4) (g5 : p5) (g6 : p6) (g7 : p7) (g8 : p8) (g9 : p9) (h : p → p0 → p1 → p2 → p3 → p4 → p5 → p6 → p7 → p8 → p9 → q := by intro zg_ aA aC aD aG aH aI aJ aK aM aN; repeat (first | (with_reducible first | exact zg_ | apply Qv | apply Qr | apply Qo | refine Qf ?_ aA | refine Qf ?_ aC | refine Qf ?_ aD | refine Qf ?_ aG | refine Qf ?_ aH | refine Qf ?_ aI | refine Qf ?_ aJ | refine Qf ?_ aK | refine Qf ?_ aM | refine Qf ?_ aN) | exact zg_)) : q := h g g0 g1 g2 g3 g4 g5 g6 g7 g8 g9
theorem jCh {p q p0 p1 p2 p3 p4 p5 p6 p7 p8 p9 aC : Prop} (g : p) (g0 : p0) (g1 : p1) (g2 : p2) (g3 : p3) (g4 : p4) (g5 : p5) (g6 : p6) (g7 : p7) (g8 : p8) (g9 : p9) (g10 : aC) (h : p → p0 → p1 → p2 → p3 → p4 → p5 → p6 → p7 → p8 → p9 → aC → q := by intro zg_ aD aG aH aI aJ aK aM aN aQ aT aA; repeat (first | (with_reducible first | exact zg_ | apply Qv | apply Qr | apply Qo | refine Qf ?_ aD | refine Qf ?_ aG | refine Qf ?_ aH | refine Qf ?_ aI | refine Qf ?_ aJ | refine Qf ?_ aK | refine Qf ?_ aM | refine Qf ?_ aN | refine Qf ?_ aQ | refine Qf ?_ aT | refine Qf ?_ aA) | exact zg_)) : q := h g g0 g1 g2 g3 g4 g5 g6 g7 g8 g9 g10
theorem Uw {p q p0 p1 p2 p3 p4 p5 p6 p7 p8 p9 aD aG : Prop} (g : p) (g0 : p0) (g1 : p1) (g2 : p2) (g3 : p3) (g4 : p4) (g5 : p5) (g6 : p6) (g7 : p7) (g8 : p8) (g9 : p9) (g10 : aD) (g11 : aG) (h : p → p0 → p1 → p2 → p3 → p4 → p5 → p6 → p7 → p8 → p9 → aD → aG → q := by intro zg_ aH aI aJ aK aM aN aQ aT aU aV aA aC; repeat (first | (with_reducible first | exact zg_ | apply Qv | apply Qr | apply Qo | refine Qf ?_ aH | refine Qf ?_ aI | refine Qf ?_ aJ | refine Qf ?_ aK | refine Qf ?_ aM | refine Qf ?_ aN | refine Qf ?_ aQ | refine Qf ?_ aT | refine Qf ?_ aU | refine Qf ?_ aV | refine Qf ?_ aA | refine Qf ?_ aC) | exact zg_)) : q := h g g0 g1 g2 g3 g4 g5 g6 g7 g8 g9 g10 g11
theorem jCf {p q p0 p1 p2 p3 p4 p5 p6 p7 p8 p9 aG aH p12 : Prop} (g : p) (g0 : p0) (g1 : p1) (g2 : p2) (g3 : p3) (g4 : p4) (g5 : p5) (g6 : p6) (g7 : p7) (g8 : p8) (g9 : p9) (g10 : aG) (g11 : aH) (g12 : p12) (h : p → p0 → p1 → p2 → p3 → p4 → p5 → p6 → p7 → p8 → p9 → aG → aH → p12 → q := by intro zg_ aI aJ aK aM aN aQ aT aU aV aW aA aC aD; repeat (first | (with_reducible first | exact zg_ | apply Qv | apply Qr | apply Qo | refine Qf ?_ aI | refine Qf ?_ aJ | refine Qf ?_ aK | refine Qf ?_ aM | refine Qf ?_ aN | refine Qf ?_ aQ | refine Qf ?_ aT | refine Qf ?_ aU | refine Qf ?_ aV | refine Qf ?_ aW | refine Qf ?_ aA | refine Qf ?_ aC | refine Qf ?_ aD) | exact zg_)) : q := h g g0 g1 g2 g3 g4 g5 g6 g7 g8 g9 g10 g11 g12
theorem Vf {p q p0 p1 p2 p3 p4 p5 p6 p7 p8 p9 aH aI p12 aJ : Prop} (g : p) (g0 : p0) (g1 : p1) (g2 : p2) (g3 : p3) (g4 : p4) (g5 : p5) (g6 : p6) (g7 : p7) (g8 : p8) (g9 : p9) (g10 : aH) (g11 : aI) (g12 : p12) (g13 : aJ) (h : p → p0 → p1 → p2 → p3 → p4 → p5 → p6 → p7 → p8 → p9 → aH → aI → p12 → aJ → q := by intro zg_ aK aM aN aQ aT aU aV aW aX aY aA aC aD aG; repeat (first | (with_reducible first | exact zg_ | apply Qv | apply Qr | apply Qo | refine Qf ?_ aK | refine Qf ?_ aM | refine Qf ?_ aN | refine Qf ?_ aQ | refine Qf ?_ aT | refine Qf ?_ aU | refine Qf ?_ aV | refine Qf ?_ aW | refine Qf ?_ aX | refine Qf ?_ aY | refine Qf ?_ aA | refine Qf ?_ aC | refine Qf ?_ aD | refine Qf ?_ aG) | exact zg_)) : q := h g g0 g1 g2 g3 g4 g5 g6 g7 g8 g9 g10 g11 g12 g13
theorem Xh {p q p0 p1 p2 p3 p4 p5 p6 p7 p8 p9 aI aJ p12 aK aM : Prop} (g : p) (g0 : p0) (g1 : p1) (g2 : p2) (g3 : p3) (g4 : p4) (g5 : p5) (g6 : p6) (g7 : p7) (g8 : p8) (g9 : p9) (g10 : aI) (g11 : aJ) (g12 : p12) (g13 : aK) (g14 : aM) (h : p → p0 → p1 → p2 → p3 → p4 → p5 → p6 → p7 → p8 → p9 → aI → aJ → p12 → aK → aM → q := by intro zg_ aN aQ aT aU aV aW aX aY aZ bA aA aC aD aG aH; repeat (first | (with_reducible first | exact zg_ | apply Qv | apply Qr | apply Qo | refine Qf ?_ aN | refine Qf ?_ aQ | refine Qf ?_ aT | refine Qf ?_ aU | refine Qf ?_ aV | refine Qf ?_ aW | refine Qf ?_ aX | refine Qf ?_ aY | refine Qf ?_ aZ | refine Qf ?_ bA | refine Qf ?_ aA | refine Qf ?_ aC | refine Qf ?_ aD | refine Qf ?_ aG | refine Qf ?_ aH) | exact zg_)) : q := h g g0 g1 g2 g3 g4 g5 g6 g7 g8 g9 g10 g11 g12 g13 g14
theorem jCk {p q p0 p1 p2 p3 p4 p5 p6 p7 p8 p9 aJ aK p12 aM aN aQ : Prop} (g : p) (g0 : p0) (g1 : p1) (g2 : p2) (g3 : p3) (g4 : p4) (g5 : p5) (g6 : p6) (g7 : p7) (g8 : p8) (g9 : p9) (g10 : aJ) (g11 : aK) (g12 : p12) (g13 : aM) (g14 : aN) (g15 : aQ) (h : p → p0 → p1 → p2 → p3 → p4 → p5 → p6 → p7 → p8 → p9 → aJ → aK → p12 → aM → aN → aQ → q := by intro zg_ aT aU aV aW aX aY aZ bA bB bC aA aC aD aG aH aI; repeat (first | (with_reducible first | exact zg_ | apply Qv | apply Qr | apply Qo | refine Qf ?_ aT | refine Qf ?_ aU | refine Qf ?_ aV | refine Qf ?_ aW | refine Qf ?_ aX | refine Qf ?_ aY | refine Qf ?_ aZ | refine Qf ?_ bA | refine Qf ?_ bB | refine Qf ?_ bC | refine Qf ?_ aA | refine Qf ?_ aC | refine Qf ?_ aD | refine Qf ?_ aG | refine Qf ?_ aH | refine Qf ?_ aI) | exact zg_)) : q := h g g0 g1 g2 g3 g4 g5 g6 g7 g8 g9 g10 g11 g12 g13 g14 g15
set_option maxHeartbeats 8000000 in
set_option maxRecDepth 100000 in
theorem Qe.calls (k : Nat) (A0 : Option Addr) (c0 : Nat) (l0 : List Int) (r : Bool) (w : World) (hr0 : Kd.C (Kd.int .u8) w A0 l0.length l0) (hc0 : l0.length ≤ c0) (h : Qe.f k l0 = some r) (hr_ : r = true) (hT : T2 w) :
  Calls Tryz.prog 3 #[.slice A0 l0.length c0] w fun e w' => e = .returned (.bool r) ∧ Below w.heap.size w w' := by
 have HT := Qa.mk hT
 clear hT
 have aVc := Tryz.underlying25
 have aVd := Tryz.underlying48
 have vT := Qa.mk hr0
 have vU := Qa.mk hc0
 clear hr0 hc0
 have HB := Qa.mk (Below.refl w.heap.size w)
 have H := h
 unfold Qe.f at H
 clear h
 obtain ⟨aCv, A2, H⟩ := zO H
 by_cases c3 : aCv = true
 ·subst c3
  replace H := (if_pos rfl).symm.trans H
  obtain rfl := Option.some.inj H
  go_enter Tryz.func3, Tryz.ntmps3
  go_wp2_with (first | ((with_reducible refine Qd (f := 5) rfl ?_); refine zD (some 40) Tryz.func5 #[.slice A0 l0.length c0] ((Kg.calls _ _ l0 true _ ?dA ?dB A2.out).mono ?_); (case dA => exact zc vT.out); (case dB => exact vU.out); rintro e w' ⟨rfl, ⟨nd, rfl⟩⟩; refine ⟨_, rfl, ?_⟩))
  go_ret
  exact ⟨zE, zB⟩
 replace c3 := Bool.eq_false_iff.mpr c3
 subst c3
 replace H := (if_neg zFf).symm.trans H
 obtain ⟨⟨bQ, bR, iO, iP, iQ⟩, A4, H⟩ := zO H
 dsimp only at H
 obtain ⟨bS, A5, H⟩ := zO H
 obtain ⟨⟨dD, dE, oO⟩, A6, H⟩ := zO H
 dsimp only at H
 obtain ⟨⟨eB, eD, vG⟩, A7, H⟩ := zO H
 dsimp only at H
 obtain ⟨⟨bY, bZ⟩, A8, H⟩ := zO H
 dsimp only at H
 obtain ⟨⟨dI, dJ, nJ⟩, A9, H⟩ := zO H
 dsimp only at H
 obtain ⟨⟨fT, fU, vH⟩, A10, H⟩ := zO H
 dsimp only at H
 obtain ⟨⟨dK, dL, bX⟩, A11, H⟩ := zO H
 dsimp only at H
 obtain ⟨⟨dQ, dR, oM⟩, A12, H⟩ := zO H
 dsimp only at H
 obtain ⟨⟨gB, gD, vI⟩, A13, H⟩ := zO H
 dsimp only at H
 obtain ⟨⟨gF, gG, vX⟩, A14, H⟩ := zO H
 dsimp only at H
 obtain ⟨⟨gJ, gK, vJ⟩, A15, H⟩ := zO H
 dsimp only at H
 obtain ⟨⟨iM, iN, vK⟩, A16, H⟩ := zO H
 dsimp only at H
 obtain ⟨vY, A17, H⟩ := zO H
 obtain ⟨⟨iR, iT, vL⟩, A18, H⟩ := zO H
 dsimp only at H
 obtain ⟨⟨dF, dG, vM⟩, A19, H⟩ := zO H
 dsimp only at H
 have vZ := Qa.mk H
 clear H
 go_enter Tryz.func3, Tryz.ntmps3
 go_upto_region 19 with (first | ((with_reducible refine Qd (f := 5) rfl ?_); refine zD (some 40) Tryz.func5 #[.slice A0 l0.length c0] ((Kg.calls _ _ l0 false _ ?dA ?dB A2.out).mono ?_); (case dA => exact zc vT.out); (case dB => exact vU.out); rintro e w' ⟨rfl, ⟨nd, rfl⟩⟩; refine ⟨_, rfl, ?_⟩) | ((with_reducible refine Qd (f := 6) rfl ?_); refine zD (some 43) Tryz.func6 #[.slice A0 l0.length c0] ((Xp.calls k _ _ l0 bQ bR iO iP iQ _ ?dA ?dB A4.out).mono ?_); (case dA => exact zc vT.out); (case dB => exact vU.out); rintro e w21 ⟨rfl, hb⟩; refine ⟨_, rfl, ?_⟩; replace HB := zX hb; (try clear hb)) | ((with_reducible refine Qm (N := 3) rfl ?_); refine zBx (N := 3) #[.int .i64 0, .string (⟨#[]⟩ : ByteArray)] 25 ?_; intro bW hg w22 hbox hb; have aA := Qa.mk (hbox); have aQt := zS hg; have aV := zS hg; replace HB := zX hb; clear hb hbox hg; obtain ⟨aBd, aBe, aBf, aBg⟩ := zq2 aA.out) | ((with_reducible refine Qd (f := 7) rfl ?_); refine zD (some 49) Tryz.func7 #[.slice A0 l0.length c0] ((Xd.calls k _ _ l0 bS _ ?dA ?dB A5.out).mono ?_); (case dA => exact Kd.C_below vT.out (zG aV.out)); (case dB => exact vU.out); rintro e w24 ⟨aVo, rfl, ho0, hb⟩; refine ⟨_, rfl, ?_⟩; have bC := Qa.mk (Kd.R_lower ho0 (Q6 (zG aV.out))); replace aA := Qa.mk (Qh (g := bW) (o := .cells #[.int .i64 bQ, .string bR] 25 (0, 0)) (zk0 aA.out) hb); replace HB := zX1 aV.out hb; (try clear hb); (try clear ho0); obtain ⟨pW, oU, aCw⟩ := Kd.R_slice bC.out; subst aCw) | ((with_reducible refine Qd (f := 8) rfl ?_); refine zD (some 52) Tryz.func8 #[.slice pW bS.length oU] ((Js.calls k _ _ bS dD dE oO _ ?dA ?dB A6.out).mono ?_); (case dA => exact zc ((Kd.R_reads' bC.out).2.2)); (case dB => exact (Kd.R_reads' bC.out).2.1); rintro e w26 ⟨rfl, hb⟩; refine ⟨_, rfl, ?_⟩; replace bC := zW bC.out hb; replace aA := zV aA.out hb; replace HB := zX1 aV.out hb; (try clear hb)) | ((with_reducible refine Qm (N := 8) rfl ?_); refine zBx (N := 8) #[.int .i64 0, .string (⟨#[]⟩ : ByteArray)] 25 ?_; intro bT hg w27 hbox hb; replace bC := zW bC.out hb; have aC := Qa.mk (hbox); have aQu := zSg hg (zG aV.out); have aX := zSg hg (zG aV.out); have eF := zL hg aA.out; have gL := zLg hg aA.out; replace aA := zV aA.out hb; replace HB := zX1 aV.out hb; clear hb hbox hg; have aQv := gL.out; have aQw := eF.out; obtain ⟨aBh, aBi, aBj, aBk⟩ := zq2 aC.out) | ((with_reducible refine Qd (f := 9) rfl ?_); refine zD (some 57) Tryz.func9 #[.slice pW bS.length oU] ((Qz.calls k _ _ bS eB eD vG _ ?dA ?dB A7.out).mono ?_); (case dA => refine (Kd.R_reads' (e := 48) (base := w.heap.size) (ok := fun k_ => True) (n := bS.length) (c := oU) ?_).2.2; exact (by (with_reducible repeat (first | apply Kd.R_alloc | apply Kd.R_drewN | apply Kd.R_drew)); exact (Kd.R_mono (Kd.R_far (p := ⟨bT, 1, none⟩) (Kd.R_far (p := ⟨bT, 0, none⟩) (Kd.R_types bC.out aC.out (by decide)) (fun _ hk => hk.2) (.int .i64 dD)) (fun _ hk => hk.2) (.string dE)) (fun _ h_ => h_.1)))); (case dB => exact (Kd.R_reads' bC.out).2.1); rintro e w30 ⟨rfl, hb⟩; refine ⟨_, rfl, ?_⟩; replace bC := Qa.mk (Kd.R_below (by (with_reducible repeat (first | apply Kd.R_alloc | apply Kd.R_drewN | apply Kd.R_drew)); exact (Kd.R_mono (Kd.R_far (p := ⟨bT, 1, none⟩) (Kd.R_far (p := ⟨bT, 0, none⟩) (Kd.R_types bC.out aC.out (by decide)) (fun _ hk => hk.2) (.int .i64 dD)) (fun _ hk => hk.2) (.string dE)) (fun _ h_ => h_.1))) hb); replace aA := Qa.mk (Qh (g := bW) (o := .cells #[.int .i64 bQ, .string bR] 25 (0, 0)) (zk2 aA.out eF.out eF.out) hb); replace aC := Qa.mk (Qh (g := bT) (o := .cells #[.int .i64 dD, .string dE] 25 (0, 0)) (zk0 aC.out) hb); replace HB := Qa.mk (Qg (zG2 aV.out aX.out) hb); (try clear hb)) | ((with_reducible refine Qm (N := 10) rfl ?_); refine zBx (N := 10) #[.int .i64 0, .string (⟨#[]⟩ : ByteArray)] 25 ?_; intro cK hg w31 hbox hb; replace bC := zW bC.out hb; have aD := Qa.mk (hbox); have aQx := zSg hg (zG2 aV.out aX.out); have aY := zSg hg (zG2 aV.out aX.out); have eG := zL hg aA.out; have gM := zLg hg aA.out; replace aA := zV aA.out hb; have jE := zL hg aC.out; have pX := zLg hg aC.out; replace aC := zV aC.out hb; replace HB := Qa.mk (Qg (zG2 aV.out aX.out) hb); clear hb hbox hg; have aQy := gM.out; have aQz := eG.out; have aRa := pX.out; have aRb := jE.out; obtain ⟨aBl, aBm, aBn, aBo⟩ := zq2 aD.out) | ((with_reducible refine Qd (f := 10) rfl ?_); refine zD (some 61) Tryz.func10 #[.slice A0 l0.length c0] ((Zk.calls k _ _ l0 bY bZ _ ?dA ?dB A8.out).mono ?_); (case dA => exact Kd.C_below vT.out (zG3 aV.out aX.out aY.out)); (case dB => exact vU.out); rintro e w35 ⟨rfl, hb⟩; refine ⟨_, rfl, ?_⟩; replace bC := Qa.mk (Kd.R_below (by (with_reducible repeat (first | apply Kd.R_alloc | apply Kd.R_drewN | apply Kd.R_drew)); exact (Kd.R_mono (Kd.R_far (p := ⟨cK, 1, none⟩) (Kd.R_far (p := ⟨cK, 0, none⟩) (Kd.R_types bC.out aD.out (by decide)) (fun _ hk => hk.2) (.int .i64 eB)) (fun _ hk => hk.2) (.string eD)) (fun _ h_ => h_.1))) hb); replace aA := Qa.mk (Qh (g := bW) (o := .cells #[.int .i64 bQ, .string bR] 25 (0, 0)) (zk2 aA.out eG.out eG.out) hb); replace aC := Qa.mk (Qh (g := bT) (o := .cells #[.int .i64 dD, .string dE] 25 (0, 0)) (zk2 aC.out jE.out jE.out) hb); replace aD := Qa.mk (Qh (g := cK) (o := .cells #[.int .i64 eB, .string eD] 25 (0, 0)) (zk0 aD.out) hb); replace HB := Qa.mk (Qg (zG3 aV.out aX.out aY.out) hb); (try clear hb)) | ((with_reducible refine Qm (N := 12) rfl ?_); refine zBx (N := 12) #[.int .i64 0, .string (⟨#[]⟩ : ByteArray)] 25 ?_; intro dC hg w36 hbox hb; replace bC := zW bC.out hb; have aG := Qa.mk (hbox); have aRc := zSg hg (zG3 aV.out aX.out aY.out); have aZ := zSg hg (zG3 aV.out aX.out aY.out); have eH := zL hg aA.out; have gN := zLg hg aA.out; replace aA := zV aA.out hb; have jF := zL hg aC.out; have pY := zLg hg aC.out; replace aC := zV aC.out hb; have jG := zL hg aD.out; have qA := zLg hg aD.out; replace aD := zV aD.out hb; replace HB := Qa.mk (Qg (zG3 aV.out aX.out aY.out) hb); clear hb hbox hg; have aRd := gN.out; have aRe := eH.out; have aRf := pY.out; have aRg := jF.out; have aRh := qA.out; have aRi := jG.out; obtain ⟨aBp, aBq, aBr, aBs⟩ := zq2 aG.out) | ((with_reducible refine Qd (f := 11) rfl ?_); refine zD (some 64) Tryz.func11 _ ((Jk.calls k bY bZ dI dJ nJ _ A9.out).mono ?_); rintro e w41 ⟨rfl, hb⟩; refine ⟨_, rfl, ?_⟩; replace bC := Qa.mk (Kd.R_below (by (with_reducible repeat (first | apply Kd.R_alloc | apply Kd.R_drewN | apply Kd.R_drew)); exact (Kd.R_mono (Kd.R_far (p := ⟨dC, 1, none⟩) (Kd.R_far (p := ⟨dC, 0, none⟩) (Kd.R_types bC.out aG.out (by decide)) (fun _ hk => hk.2) (.int .i64 bY)) (fun _ hk => hk.2) (.string bZ)) (fun _ h_ => h_.1))) hb); replace aA := Qa.mk (Qh (g := bW) (o := .cells #[.int .i64 bQ, .string bR] 25 (0, 0)) (zk2 aA.out eH.out eH.out) hb); replace aC := Qa.mk (Qh (g := bT) (o := .cells #[.int .i64 dD, .string dE] 25 (0, 0)) (zk2 aC.out jF.out jF.out) hb); replace aD := Qa.mk (Qh (g := cK) (o := .cells #[.int .i64 eB, .string eD] 25 (0, 0)) (zk2 aD.out jG.out jG.out) hb); replace aG := Qa.mk (Qh (g := dC) (o := .cells #[.int .i64 bY, .string bZ] 25 (0, 0)) (zk0 aG.out) hb); replace HB := Qa.mk (Qg (zG4 aV.out aX.out aY.out aZ.out) hb); (try clear hb)) | ((with_reducible refine Qm (N := 13) rfl ?_); refine zBx (N := 13) #[.int .i64 0, .string (⟨#[]⟩ : ByteArray)] 25 ?_; intro cO hg w42 hbox hb; replace bC := zW bC.out hb; have aH := Qa.mk (hbox); have aRj := zSg hg (zG4 aV.out aX.out aY.out aZ.out); have bA := zSg hg (zG4 aV.out aX.out aY.out aZ.out); have dW := zL hg aA.out; have fV := zLg hg aA.out; replace aA := zV aA.out hb; have gP := zL hg aC.out; have nL := zLg hg aC.out; replace aC := zV aC.out hb; have gQ := zL hg aD.out; have nM := zLg hg aD.out; replace aD := zV aD.out hb; have gT := zL hg aG.out; have nN := zLg hg aG.out; replace aG := zV aG.out hb; replace HB := Qa.mk (Qg (zG4 aV.out aX.out aY.out aZ.out) hb); clear hb hbox hg; have aRk := fV.out; have aRl := dW.out; have aRm := nL.out; have aRn := gP.out; have aRo := nM.out; have aRp := gQ.out; have aRq := nN.out; have aRr := gT.out; obtain ⟨aBt, aBu, aBv, aBw⟩ := zq2 aH.out; obtain ⟨aBx, aBy, aBz, aCa⟩ := zq2 aG.out) | ((with_reducible refine Qd (f := 12) rfl ?_); refine zD (some 69) Tryz.func12 _ ((Q8.calls k bY bZ fT fU vH _ A10.out).mono ?_); rintro e w49 ⟨rfl, hb⟩; refine ⟨_, rfl, ?_⟩; replace bC := Qa.mk (Kd.R_below (by (with_reducible repeat (first | apply Kd.R_alloc | apply Kd.R_drewN | apply Kd.R_drew)); exact (Kd.R_mono (Kd.R_far (p := ⟨cO, 1, none⟩) (Kd.R_far (p := ⟨cO, 0, none⟩) (Kd.R_types bC.out aH.out (by decide)) (fun _ hk => hk.2) (.int .i64 dI)) (fun _ hk => hk.2) (.string dJ)) (fun _ h_ => h_.1))) hb); replace aA := Qa.mk (Qh (g := bW) (o := .cells #[.int .i64 bQ, .string bR] 25 (0, 0)) (zk2 aA.out dW.out dW.out) hb); replace aC := Qa.mk (Qh (g := bT) (o := .cells #[.int .i64 dD, .string dE] 25 (0, 0)) (zk2 aC.out gP.out gP.out) hb); replace aD := Qa.mk (Qh (g := cK) (o := .cells #[.int .i64 eB, .string eD] 25 (0, 0)) (zk2 aD.out gQ.out gQ.out) hb); replace aG := Qa.mk (Qh (g := dC) (o := .cells #[.int .i64 bY, .string bZ] 25 (0, 0)) (zk2 aG.out gT.out gT.out) hb); replace aH := Qa.mk (Qh (g := cO) (o := .cells #[.int .i64 dI, .string dJ] 25 (0, 0)) (zk0 aH.out) hb); replace HB := Qa.mk (Qg (zG5 aV.out aX.out aY.out aZ.out bA.out) hb); (try clear hb)) | ((with_reducible refine Qm (N := 15) rfl ?_); refine zBx (N := 15) #[.int .i64 0, .string (⟨#[]⟩ : ByteArray)] 25 ?_; intro dH hg w50 hbox hb; replace bC := zW bC.out hb; have aI := Qa.mk (hbox); have aRs := zSg hg (zG5 aV.out aX.out aY.out aZ.out bA.out); have bB := zSg hg (zG5 aV.out aX.out aY.out aZ.out bA.out); have eO := zL hg aA.out; have gU := zLg hg aA.out; replace aA := zV aA.out hb; have jH := zL hg aC.out; have qB := zLg hg aC.out; replace aC := zV aC.out hb; have jI := zL hg aD.out; have qC := zLg hg aD.out; replace aD := zV aD.out hb; have jJ := zL hg aG.out; have qD := zLg hg aG.out; replace aG := zV aG.out hb; have gV := zL hg aH.out; have nO := zLg hg aH.out; replace aH := zV aH.out hb; replace HB := Qa.mk (Qg (zG5 aV.out aX.out aY.out aZ.out bA.out) hb); clear hb hbox hg; have aRt := gU.out; have aRu := eO.out; have aRv := qB.out; have aRw := jH.out; have aRx := qC.out; have aRy := jI.out; have aRz := qD.out; have aSa := jJ.out; have aSb := nO.out; have aSc := gV.out; obtain ⟨aCb, aCc, aCd, aCe⟩ := zq2 aI.out) | ((with_reducible refine Qd (f := 13) rfl ?_); refine zD (some 74) Tryz.func13 #[.slice A0 l0.length c0] ((Zp.calls k _ _ l0 dK dL bX _ ?dA ?dB A11.out).mono ?_); (case dA => exact Kd.C_below vT.out (zG6 aV.out aX.out aY.out aZ.out bA.out bB.out)); (case dB => exact vU.out); rintro e w57 ⟨aVp, rfl, ho0, hb⟩; refine ⟨_, rfl, ?_⟩; replace bC := Qa.mk (Kd.R_below (by (with_reducible repeat (first | apply Kd.R_alloc | apply Kd.R_drewN | apply Kd.R_drew)); exact (Kd.R_mono (Kd.R_far (p := ⟨dH, 1, none⟩) (Kd.R_far (p := ⟨dH, 0, none⟩) (Kd.R_types bC.out aI.out (by decide)) (fun _ hk => hk.2) (.int .i64 fT)) (fun _ hk => hk.2) (.string fU)) (fun _ h_ => h_.1))) hb); have bL := Qa.mk (Kd.R_lower ho0 (Q6 (zG6 aV.out aX.out aY.out aZ.out bA.out bB.out))); replace aA := Qa.mk (Qh (g := bW) (o := .cells #[.int .i64 bQ, .string bR] 25 (0, 0)) (zk2 aA.out eO.out eO.out) hb); replace aC := Qa.mk (Qh (g := bT) (o := .cells #[.int .i64 dD, .string dE] 25 (0, 0)) (zk2 aC.out jH.out jH.out) hb); replace aD := Qa.mk (Qh (g := cK) (o := .cells #[.int .i64 eB, .string eD] 25 (0, 0)) (zk2 aD.out jI.out jI.out) hb); replace aG := Qa.mk (Qh (g := dC) (o := .cells #[.int .i64 bY, .string bZ] 25 (0, 0)) (zk2 aG.out jJ.out jJ.out) hb); replace aH := Qa.mk (Qh (g := cO) (o := .cells #[.int .i64 dI, .string dJ] 25 (0, 0)) (zk2 aH.out gV.out gV.out) hb); replace aI := Qa.mk (Qh (g := dH) (o := .cells #[.int .i64 fT, .string fU] 25 (0, 0)) (zk0 aI.out) hb); replace HB := Qa.mk (Qg (zG6 aV.out aX.out aY.out aZ.out bA.out bB.out) hb); (try clear hb); (try clear ho0)) | ((with_reducible refine Qm (N := 17) rfl ?_); refine zBx (N := 17) #[.int .i64 0, .string (⟨#[]⟩ : ByteArray)] 25 ?_; intro cZ hg w58 hbox hb; replace bC := zW bC.out hb; replace bL := zW bL.out hb; have aJ := Qa.mk (hbox); have aSd := zSg hg (zG6 aV.out aX.out aY.out aZ.out bA.out bB.out); have bD := zSg hg (zG6 aV.out aX.out aY.out aZ.out bA.out bB.out); have eP := zL hg aA.out; have gW := zLg hg aA.out; replace aA := zV aA.out hb; have jK := zL hg aC.out; have qE := zLg hg aC.out; replace aC := zV aC.out hb; have jL := zL hg aD.out; have qF := zLg hg aD.out; replace aD := zV aD.out hb; have jM := zL hg aG.out; have qG := zLg hg aG.out; replace aG := zV aG.out hb; have gX := zL hg aH.out; have nP := zLg hg aH.out; replace aH := zV aH.out hb; have jN := zL hg aI.out; have qH := zLg hg aI.out; replace aI := zV aI.out hb; replace HB := Qa.mk (Qg (zG6 aV.out aX.out aY.out aZ.out bA.out bB.out) hb); clear hb hbox hg; have aSe := gW.out; have aSf := eP.out; have aSg := qE.out; have aSh := jK.out; have aSi := qF.out; have aSj := jL.out; have aSk := qG.out; have aSl := jM.out; have aSm := nP.out; have aSn := gX.out; have aSo := qH.out; have aSp := jN.out; obtain ⟨aCf, aCg, aCh, aCi⟩ := zq2 aJ.out; obtain ⟨oV, oN, aCx⟩ := Kd.R_slice bL.out; subst aCx) | ((with_reducible refine Qd (f := 14) rfl ?_); refine zD (some 80) Tryz.func14 #[.agg #[.int .i64 dK, .string dL], .slice oV bX.length oN] ((Ju.calls k dK dL _ _ bX dQ dR oM _ ?dA ?dB A12.out).mono ?_); (case dA => refine (Kd.R_reads' (e := 3) (base := w.heap.size) (ok := fun k_ => True) (n := bX.length) (c := oN) ?_).2.2; exact (by (with_reducible repeat (first | apply Kd.R_alloc | apply Kd.R_drewN | apply Kd.R_drew)); exact (Kd.R_mono (Kd.R_far (p := ⟨cZ, 1, none⟩) (Kd.R_far (p := ⟨cZ, 0, none⟩) (Kd.R_types bL.out aJ.out (by decide)) (fun _ hk => hk.2) (.int .i64 dK)) (fun _ hk => hk.2) (.string dL)) (fun _ h_ => h_.1)))); (case dB => exact (Kd.R_reads' bL.out).2.1); rintro e w67 ⟨rfl, hb⟩; refine ⟨_, rfl, ?_⟩; replace bC := Qa.mk (Kd.R_below (by (with_reducible repeat (first | apply Kd.R_alloc | apply Kd.R_drewN | apply Kd.R_drew)); exact (Kd.R_mono (Kd.R_far (p := ⟨cZ, 1, none⟩) (Kd.R_far (p := ⟨cZ, 0, none⟩) (Kd.R_types bC.out aJ.out (by decide)) (fun _ hk => hk.2) (.int .i64 dK)) (fun _ hk => hk.2) (.string dL)) (fun _ h_ => h_.1))) hb); replace bL := Qa.mk (Kd.R_below (by (with_reducible repeat (first | apply Kd.R_alloc | apply Kd.R_drewN | apply Kd.R_drew)); exact (Kd.R_mono (Kd.R_far (p := ⟨cZ, 1, none⟩) (Kd.R_far (p := ⟨cZ, 0, none⟩) (Kd.R_types bL.out aJ.out (by decide)) (fun _ hk => hk.2) (.int .i64 dK)) (fun _ hk => hk.2) (.string dL)) (fun _ h_ => h_.1))) hb); replace aA := Qa.mk (Qh (g := bW) (o := .cells #[.int .i64 bQ, .string bR] 25 (0, 0)) (zk2 aA.out eP.out eP.out) hb); replace aC := Qa.mk (Qh (g := bT) (o := .cells #[.int .i64 dD, .string dE] 25 (0, 0)) (zk2 aC.out jK.out jK.out) hb); replace aD := Qa.mk (Qh (g := cK) (o := .cells #[.int .i64 eB, .string eD] 25 (0, 0)) (zk2 aD.out jL.out jL.out) hb); replace aG := Qa.mk (Qh (g := dC) (o := .cells #[.int .i64 bY, .string bZ] 25 (0, 0)) (zk2 aG.out jM.out jM.out) hb); replace aH := Qa.mk (Qh (g := cO) (o := .cells #[.int .i64 dI, .string dJ] 25 (0, 0)) (zk2 aH.out gX.out gX.out) hb); replace aI := Qa.mk (Qh (g := dH) (o := .cells #[.int .i64 fT, .string fU] 25 (0, 0)) (zk2 aI.out jN.out jN.out) hb); replace aJ := Qa.mk (Qh (g := cZ) (o := .cells #[.int .i64 dK, .string dL] 25 (0, 0)) (zk0 aJ.out) hb); replace HB := Qa.mk (Qg (zG7 aV.out aX.out aY.out aZ.out bA.out bB.out bD.out) hb); (try clear hb)) | ((with_reducible refine Qm (N := 19) rfl ?_); refine zBx (N := 19) #[.int .i64 0, .string (⟨#[]⟩ : ByteArray)] 25 ?_; intro cB hg w68 hbox hb; replace bC := zW bC.out hb; replace bL := zW bL.out hb; have aK := Qa.mk (hbox); have aSq := zSg hg (zG7 aV.out aX.out aY.out aZ.out bA.out bB.out bD.out); have bF := zSg hg (zG7 aV.out aX.out aY.out aZ.out bA.out bB.out bD.out); have eQ := zL hg aA.out; have gY := zLg hg aA.out; replace aA := zV aA.out hb; have jO := zL hg aC.out; have qI := zLg hg aC.out; replace aC := zV aC.out hb; have jP := zL hg aD.out; have qJ := zLg hg aD.out; replace aD := zV aD.out hb; have jQ := zL hg aG.out; have qK := zLg hg aG.out; replace aG := zV aG.out hb; have gZ := zL hg aH.out; have nQ := zLg hg aH.out; replace aH := zV aH.out hb; have jR := zL hg aI.out; have qL := zLg hg aI.out; replace aI := zV aI.out hb; have jS := zL hg aJ.out; have qM := zLg hg aJ.out; replace aJ := zV aJ.out hb; replace HB := Qa.mk (Qg (zG7 aV.out aX.out aY.out aZ.out bA.out bB.out bD.out) hb); clear hb hbox hg; have aSr := gY.out; have aSs := eQ.out; have aSt := qI.out; have aSu := jO.out; have aSv := qJ.out; have aSw := jP.out; have aSx := qK.out; have aSy := jQ.out; have aSz := nQ.out; have aTa := gZ.out; have aTb := qL.out; have aTc := jR.out; have aTd := qM.out; have aTe := jS.out; obtain ⟨aCj, aCk, aCl, aCm⟩ := zq2 aK.out; obtain ⟨aCn, aCo, aCp, aCq⟩ := zq2 aJ.out) | ((with_reducible refine Qd (f := 15) rfl ?_); refine zD (some 86) Tryz.func15 #[.agg #[.int .i64 dK, .string dL], .slice oV bX.length oN] ((Jw.calls k dK dL _ _ bX gB gD vI _ ?dA ?dB A13.out).mono ?_); (case dA => refine (Kd.R_reads' (e := 3) (base := w.heap.size) (ok := fun k_ => True) (n := bX.length) (c := oN) ?_).2.2; exact (by (with_reducible repeat (first | apply Kd.R_alloc | apply Kd.R_drewN | apply Kd.R_drew)); exact (Kd.R_mono (Kd.R_far (p := ⟨cB, 1, none⟩) (Kd.R_far (p := ⟨cB, 0, none⟩) (Kd.R_types bL.out aK.out (by decide)) (fun _ hk => hk.2) (.int .i64 dQ)) (fun _ hk => hk.2) (.string dR)) (fun _ h_ => h_.1)))); (case dB => exact (Kd.R_reads' bL.out).2.1); rintro e w78 ⟨rfl, hb⟩; refine ⟨_, rfl, ?_⟩; replace bC := Qa.mk (Kd.R_below (by (with_reducible repeat (first | apply Kd.R_alloc | apply Kd.R_drewN | apply Kd.R_drew)); exact (Kd.R_mono (Kd.R_far (p := ⟨cB, 1, none⟩) (Kd.R_far (p := ⟨cB, 0, none⟩) (Kd.R_types bC.out aK.out (by decide)) (fun _ hk => hk.2) (.int .i64 dQ)) (fun _ hk => hk.2) (.string dR)) (fun _ h_ => h_.1))) hb); replace bL := Qa.mk (Kd.R_below (by (with_reducible repeat (first | apply Kd.R_alloc | apply Kd.R_drewN | apply Kd.R_drew)); exact (Kd.R_mono (Kd.R_far (p := ⟨cB, 1, none⟩) (Kd.R_far (p := ⟨cB, 0, none⟩) (Kd.R_types bL.out aK.out (by decide)) (fun _ hk => hk.2) (.int .i64 dQ)) (fun _ hk => hk.2) (.string dR)) (fun _ h_ => h_.1))) hb); replace aA := Qa.mk (Qh (g := bW) (o := .cells #[.int .i64 bQ, .string bR] 25 (0, 0)) (zk2 aA.out eQ.out eQ.out) hb); replace aC := Qa.mk (Qh (g := bT) (o := .cells #[.int .i64 dD, .string dE] 25 (0, 0)) (zk2 aC.out jO.out jO.out) hb); replace aD := Qa.mk (Qh (g := cK) (o := .cells #[.int .i64 eB, .string eD] 25 (0, 0)) (zk2 aD.out jP.out jP.out) hb); replace aG := Qa.mk (Qh (g := dC) (o := .cells #[.int .i64 bY, .string bZ] 25 (0, 0)) (zk2 aG.out jQ.out jQ.out) hb); replace aH := Qa.mk (Qh (g := cO) (o := .cells #[.int .i64 dI, .string dJ] 25 (0, 0)) (zk2 aH.out gZ.out gZ.out) hb); replace aI := Qa.mk (Qh (g := dH) (o := .cells #[.int .i64 fT, .string fU] 25 (0, 0)) (zk2 aI.out jR.out jR.out) hb); replace aJ := Qa.mk (Qh (g := cZ) (o := .cells #[.int .i64 dK, .string dL] 25 (0, 0)) (zk2 aJ.out jS.out jS.out) hb); replace aK := Qa.mk (Qh (g := cB) (o := .cells #[.int .i64 dQ, .string dR] 25 (0, 0)) (zk0 aK.out) hb); replace HB := Qa.mk (Qg (zG8 aV.out aX.out aY.out aZ.out bA.out bB.out bD.out bF.out) hb); (try clear hb)) | ((with_reducible refine Qm (N := 21) rfl ?_); refine zBx (N := 21) #[.int .i64 0, .string (⟨#[]⟩ : ByteArray)] 25 ?_; intro dM hg w79 hbox hb; replace bC := zW bC.out hb; replace bL := zW bL.out hb; have aM := Qa.mk (hbox); have aTf := zSg hg (zG8 aV.out aX.out aY.out aZ.out bA.out bB.out bD.out bF.out); have bG := zSg hg (zG8 aV.out aX.out aY.out aZ.out bA.out bB.out bD.out bF.out); have eU := zL hg aA.out; have iA := zLg hg aA.out; replace aA := zV aA.out hb; have jT := zL hg aC.out; have qN := zLg hg aC.out; replace aC := zV aC.out hb; have jU := zL hg aD.out; have qO := zLg hg aD.out; replace aD := zV aD.out hb; have jV := zL hg aG.out; have qP := zLg hg aG.out; replace aG := zV aG.out hb; have iB := zL hg aH.out; have nR := zLg hg aH.out; replace aH := zV aH.out hb; have jW := zL hg aI.out; have qQ := zLg hg aI.out; replace aI := zV aI.out hb; have jX := zL hg aJ.out; have qR := zLg hg aJ.out; replace aJ := zV aJ.out hb; have jY := zL hg aK.out; have qU := zLg hg aK.out; replace aK := zV aK.out hb; replace HB := Qa.mk (Qg (zG8 aV.out aX.out aY.out aZ.out bA.out bB.out bD.out bF.out) hb); clear hb hbox hg; have aTg := iA.out; have aTh := eU.out; have aTi := qN.out; have aTj := jT.out; have aTk := qO.out; have aTl := jU.out; have aTm := qP.out; have aTn := jV.out; have aTo := nR.out; have aTp := iB.out; have aTq := qQ.out; have aTr := jW.out; have aTs := qR.out; have aTt := jX.out; have aTu := qU.out; have aTv := jY.out; obtain ⟨aCr, aCs, aCt, aCu⟩ := zq2 aM.out) | ((with_reducible refine Qd (f := 16) rfl ?_); refine zD (some 91) Tryz.func16 #[.slice A0 l0.length c0] ((Zi.calls k _ _ l0 gF gG vX _ ?dA ?dB A14.out).mono ?_); (case dA => exact Kd.C_below vT.out (jAw HB.out aV.out aX.out aY.out aZ.out bA.out bB.out bD.out bF.out bG.out)); (case dB => exact vU.out); rintro e w89 ⟨rfl, hb⟩; refine ⟨_, rfl, ?_⟩; replace bC := Qa.mk (Kd.R_below (by (with_reducible repeat (first | apply Kd.R_alloc | apply Kd.R_drewN | apply Kd.R_drew)); exact (Kd.R_mono (Kd.R_far (p := ⟨dM, 1, none⟩) (Kd.R_far (p := ⟨dM, 0, none⟩) (Kd.R_types bC.out aM.out (by decide)) (fun _ hk => hk.2) (.int .i64 gB)) (fun _ hk => hk.2) (.string gD)) (fun _ h_ => h_.1))) hb); replace bL := Qa.mk (Kd.R_below (by (with_reducible repeat (first | apply Kd.R_alloc | apply Kd.R_drewN | apply Kd.R_drew)); exact (Kd.R_mono (Kd.R_far (p := ⟨dM, 1, none⟩) (Kd.R_far (p := ⟨dM, 0, none⟩) (Kd.R_types bL.out aM.out (by decide)) (fun _ hk => hk.2) (.int .i64 gB)) (fun _ hk => hk.2) (.string gD)) (fun _ h_ => h_.1))) hb); replace aA := Qa.mk (Qh (g := bW) (o := .cells #[.int .i64 bQ, .string bR] 25 (0, 0)) (zk2 aA.out eU.out eU.out) hb); replace aC := Qa.mk (Qh (g := bT) (o := .cells #[.int .i64 dD, .string dE] 25 (0, 0)) (zk2 aC.out jT.out jT.out) hb); replace aD := Qa.mk (Qh (g := cK) (o := .cells #[.int .i64 eB, .string eD] 25 (0, 0)) (zk2 aD.out jU.out jU.out) hb); replace aG := Qa.mk (Qh (g := dC) (o := .cells #[.int .i64 bY, .string bZ] 25 (0, 0)) (zk2 aG.out jV.out jV.out) hb); replace aH := Qa.mk (Qh (g := cO) (o := .cells #[.int .i64 dI, .string dJ] 25 (0, 0)) (zk2 aH.out iB.out iB.out) hb); replace aI := Qa.mk (Qh (g := dH) (o := .cells #[.int .i64 fT, .string fU] 25 (0, 0)) (zk2 aI.out jW.out jW.out) hb); replace aJ := Qa.mk (Qh (g := cZ) (o := .cells #[.int .i64 dK, .string dL] 25 (0, 0)) (zk2 aJ.out jX.out jX.out) hb); replace aK := Qa.mk (Qh (g := cB) (o := .cells #[.int .i64 dQ, .string dR] 25 (0, 0)) (zk2 aK.out jY.out jY.out) hb); replace aM := Qa.mk (Qh (g := dM) (o := .cells #[.int .i64 gB, .string gD] 25 (0, 0)) (zk0 aM.out) hb); replace HB := Qa.mk (Qg (jAw HB.out aV.out aX.out aY.out aZ.out bA.out bB.out bD.out bF.out bG.out) hb); (try clear hb)) | ((with_reducible refine Qm (N := 23) rfl ?_); refine zBx (N := 23) #[.int .i64 0, .string (⟨#[]⟩ : ByteArray)] 25 ?_; intro dO hg w90 hbox hb; replace bC := zW bC.out hb; replace bL := zW bL.out hb; have aN := Qa.mk (hbox); have aTw := Qa.mk ((by rw [hg]; exact (Q6 (jAw HB.out aV.out aX.out aY.out aZ.out bA.out bB.out bD.out bF.out bG.out)) : w.heap.size ≤ dO)); have bH := Qa.mk ((by rw [hg]; exact (Q6 (jAw HB.out aV.out aX.out aY.out aZ.out bA.out bB.out bD.out bF.out bG.out)) : w.heap.size ≤ dO)); have eX := zL hg aA.out; have iC := zLg hg aA.out; replace aA := zV aA.out hb; have jZ := zL hg aC.out; have qV := zLg hg aC.out; replace aC := zV aC.out hb; have kC := zL hg aD.out; have qW := zLg hg aD.out; replace aD := zV aD.out hb; have kD := zL hg aG.out; have qX := zLg hg aG.out; replace aG := zV aG.out hb; have iD := zL hg aH.out; have nS := zLg hg aH.out; replace aH := zV aH.out hb; have kE := zL hg aI.out; have qY := zLg hg aI.out; replace aI := zV aI.out hb; have kF := zL hg aJ.out; have qZ := zLg hg aJ.out; replace aJ := zV aJ.out hb; have kG := zL hg aK.out; have rA := zLg hg aK.out; replace aK := zV aK.out hb; have kH := zL hg aM.out; have rC := zLg hg aM.out; replace aM := zV aM.out hb; replace HB := Qa.mk (Qg (jAw HB.out aV.out aX.out aY.out aZ.out bA.out bB.out bD.out bF.out bG.out) hb); clear hb hbox hg; have aTx := iC.out; have aTy := eX.out; have aTz := qV.out; have aUa := jZ.out; have aUb := qW.out; have aUc := kC.out; have aUd := qX.out; have aUe := kD.out; have aUf := nS.out; have aUg := iD.out; have aUh := qY.out; have aUi := kE.out; have aUj := qZ.out; have aUk := kF.out; have aUl := rA.out; have aUm := kG.out; have aUn := rC.out; have aUo := kH.out; obtain ⟨xJ, xK, xL, xM⟩ := zq2 aN.out) | ((with_reducible refine Qd (f := 17) rfl ?_); refine zD (some 97) Tryz.func17 _ ((Qs.calls k gF gG vX gJ gK vJ _ A15.out).mono ?_); rintro e aVq ⟨rfl, hb⟩; refine ⟨_, rfl, ?_⟩; replace bC := Qa.mk (Kd.R_below (by (with_reducible repeat (first | apply Kd.R_alloc | apply Kd.R_drewN | apply Kd.R_drew)); exact (Kd.R_mono (Kd.R_far (p := ⟨dO, 1, none⟩) (Kd.R_far (p := ⟨dO, 0, none⟩) (Kd.R_types bC.out aN.out (by decide)) (fun _ hk => hk.2) (.int .i64 gF)) (fun _ hk => hk.2) (.string gG)) (fun _ h_ => h_.1))) hb); replace bL := Qa.mk (Kd.R_below (by (with_reducible repeat (first | apply Kd.R_alloc | apply Kd.R_drewN | apply Kd.R_drew)); exact (Kd.R_mono (Kd.R_far (p := ⟨dO, 1, none⟩) (Kd.R_far (p := ⟨dO, 0, none⟩) (Kd.R_types bL.out aN.out (by decide)) (fun _ hk => hk.2) (.int .i64 gF)) (fun _ hk => hk.2) (.string gG)) (fun _ h_ => h_.1))) hb); replace aA := Qa.mk (Qh (g := bW) (o := .cells #[.int .i64 bQ, .string bR] 25 (0, 0)) (zk2 aA.out eX.out eX.out) hb); replace aC := Qa.mk (Qh (g := bT) (o := .cells #[.int .i64 dD, .string dE] 25 (0, 0)) (zk2 aC.out jZ.out jZ.out) hb); replace aD := Qa.mk (Qh (g := cK) (o := .cells #[.int .i64 eB, .string eD] 25 (0, 0)) (zk2 aD.out kC.out kC.out) hb); replace aG := Qa.mk (Qh (g := dC) (o := .cells #[.int .i64 bY, .string bZ] 25 (0, 0)) (zk2 aG.out kD.out kD.out) hb); replace aH := Qa.mk (Qh (g := cO) (o := .cells #[.int .i64 dI, .string dJ] 25 (0, 0)) (zk2 aH.out iD.out iD.out) hb); replace aI := Qa.mk (Qh (g := dH) (o := .cells #[.int .i64 fT, .string fU] 25 (0, 0)) (zk2 aI.out kE.out kE.out) hb); replace aJ := Qa.mk (Qh (g := cZ) (o := .cells #[.int .i64 dK, .string dL] 25 (0, 0)) (zk2 aJ.out kF.out kF.out) hb); replace aK := Qa.mk (Qh (g := cB) (o := .cells #[.int .i64 dQ, .string dR] 25 (0, 0)) (zk2 aK.out kG.out kG.out) hb); replace aM := Qa.mk (Qh (g := dM) (o := .cells #[.int .i64 gB, .string gD] 25 (0, 0)) (zk2 aM.out kH.out kH.out) hb); replace aN := Qa.mk (Qh (g := dO) (o := .cells #[.int .i64 gF, .string gG] 25 (0, 0)) (zk0 aN.out) hb); replace HB := Qa.mk (Qg (jB6 HB.out aV.out aX.out aY.out aZ.out bA.out bB.out bD.out bF.out bG.out bH.out) hb); (try clear hb)) | ((with_reducible refine Qm (N := 25) rfl ?_); refine zBx (N := 25) #[.int .i64 0, .string (⟨#[]⟩ : ByteArray)] 25 ?_; intro dN hg aVr hbox hb; replace bC := zW bC.out hb; replace bL := zW bL.out hb; have aQ := Qa.mk (hbox); have aUp := Qa.mk ((by rw [hg]; exact (Q6 (jB6 HB.out aV.out aX.out aY.out aZ.out bA.out bB.out bD.out bF.out bG.out bH.out)) : w.heap.size ≤ dN)); have bI := Qa.mk ((by rw [hg]; exact (Q6 (jB6 HB.out aV.out aX.out aY.out aZ.out bA.out bB.out bD.out bF.out bG.out bH.out)) : w.heap.size ≤ dN)); have eY := zL hg aA.out; have iE := zLg hg aA.out; replace aA := zV aA.out hb; have kI := zL hg aC.out; have rD := zLg hg aC.out; replace aC := zV aC.out hb; have kJ := zL hg aD.out; have rE := zLg hg aD.out; replace aD := zV aD.out hb; have kK := zL hg aG.out; have rF := zLg hg aG.out; replace aG := zV aG.out hb; have iF := zL hg aH.out; have nT := zLg hg aH.out; replace aH := zV aH.out hb; have kL := zL hg aI.out; have rG := zLg hg aI.out; replace aI := zV aI.out hb; have kM := zL hg aJ.out; have rH := zLg hg aJ.out; replace aJ := zV aJ.out hb; have kN := zL hg aK.out; have rJ := zLg hg aK.out; replace aK := zV aK.out hb; have kP := zL hg aM.out; have rM := zLg hg aM.out; replace aM := zV aM.out hb; have kQ := zL hg aN.out; have rO := zLg hg aN.out; replace aN := zV aN.out hb; replace HB := Qa.mk (Qg (jB6 HB.out aV.out aX.out aY.out aZ.out bA.out bB.out bD.out bF.out bG.out bH.out) hb); clear hb hbox hg; have aCy := iE.out; have aCz := eY.out; have aDa := rD.out; have aDb := kI.out; have aDc := rE.out; have aDd := kJ.out; have aDe := rF.out; have aDf := kK.out; have aDg := nT.out; have aDh := iF.out; have aDi := rG.out; have aDj := kL.out; have aDk := rH.out; have aDl := kM.out; have aDm := rJ.out; have aDn := kN.out; have aDo := rM.out; have aDp := kP.out; have aDq := rO.out; have aDr := kQ.out; obtain ⟨xN, xO, xP, xQ⟩ := zq2 aQ.out; obtain ⟨xR, xS, xU, xV⟩ := zq2 aN.out) | ((with_reducible refine Qd (f := 18) rfl ?_); refine zD (some 103) Tryz.func18 _ ((Q4.calls k gF gG vX iM iN vK _ A16.out).mono ?_); rintro e aVs ⟨rfl, hb⟩; refine ⟨_, rfl, ?_⟩; replace bC := Qa.mk (Kd.R_below (by (with_reducible repeat (first | apply Kd.R_alloc | apply Kd.R_drewN | apply Kd.R_drew)); exact (Kd.R_mono (Kd.R_far (p := ⟨dN, 1, none⟩) (Kd.R_far (p := ⟨dN, 0, none⟩) (Kd.R_types bC.out aQ.out (by decide)) (fun _ hk => hk.2) (.int .i64 gJ)) (fun _ hk => hk.2) (.string gK)) (fun _ h_ => h_.1))) hb); replace bL := Qa.mk (Kd.R_below (by (with_reducible repeat (first | apply Kd.R_alloc | apply Kd.R_drewN | apply Kd.R_drew)); exact (Kd.R_mono (Kd.R_far (p := ⟨dN, 1, none⟩) (Kd.R_far (p := ⟨dN, 0, none⟩) (Kd.R_types bL.out aQ.out (by decide)) (fun _ hk => hk.2) (.int .i64 gJ)) (fun _ hk => hk.2) (.string gK)) (fun _ h_ => h_.1))) hb); replace aA := Qa.mk (Qh (g := bW) (o := .cells #[.int .i64 bQ, .string bR] 25 (0, 0)) (zk2 aA.out eY.out eY.out) hb); replace aC := Qa.mk (Qh (g := bT) (o := .cells #[.int .i64 dD, .string dE] 25 (0, 0)) (zk2 aC.out kI.out kI.out) hb); replace aD := Qa.mk (Qh (g := cK) (o := .cells #[.int .i64 eB, .string eD] 25 (0, 0)) (zk2 aD.out kJ.out kJ.out) hb); replace aG := Qa.mk (Qh (g := dC) (o := .cells #[.int .i64 bY, .string bZ] 25 (0, 0)) (zk2 aG.out kK.out kK.out) hb); replace aH := Qa.mk (Qh (g := cO) (o := .cells #[.int .i64 dI, .string dJ] 25 (0, 0)) (zk2 aH.out iF.out iF.out) hb); replace aI := Qa.mk (Qh (g := dH) (o := .cells #[.int .i64 fT, .string fU] 25 (0, 0)) (zk2 aI.out kL.out kL.out) hb); replace aJ := Qa.mk (Qh (g := cZ) (o := .cells #[.int .i64 dK, .string dL] 25 (0, 0)) (zk2 aJ.out kM.out kM.out) hb); replace aK := Qa.mk (Qh (g := cB) (o := .cells #[.int .i64 dQ, .string dR] 25 (0, 0)) (zk2 aK.out kN.out kN.out) hb); replace aM := Qa.mk (Qh (g := dM) (o := .cells #[.int .i64 gB, .string gD] 25 (0, 0)) (zk2 aM.out kP.out kP.out) hb); replace aN := Qa.mk (Qh (g := dO) (o := .cells #[.int .i64 gF, .string gG] 25 (0, 0)) (zk2 aN.out kQ.out kQ.out) hb); replace aQ := Qa.mk (Qh (g := dN) (o := .cells #[.int .i64 gJ, .string gK] 25 (0, 0)) (zk0 aQ.out) hb); replace HB := Qa.mk (Qg (jCh HB.out aV.out aX.out aY.out aZ.out bA.out bB.out bD.out bF.out bG.out bH.out bI.out) hb); (try clear hb)) | ((with_reducible refine Qm (N := 27) rfl ?_); refine zBx (N := 27) #[.int .i64 0, .string (⟨#[]⟩ : ByteArray)] 25 ?_; intro dP hg aVt hbox hb; replace bC := zW bC.out hb; replace bL := zW bL.out hb; have aT := Qa.mk (hbox); have aUq := Qa.mk ((by rw [hg]; exact (Q6 (jCh HB.out aV.out aX.out aY.out aZ.out bA.out bB.out bD.out bF.out bG.out bH.out bI.out)) : w.heap.size ≤ dP)); have bM := Qa.mk ((by rw [hg]; exact (Q6 (jCh HB.out aV.out aX.out aY.out aZ.out bA.out bB.out bD.out bF.out bG.out bH.out bI.out)) : w.heap.size ≤ dP)); have eZ := zL hg aA.out; have iG := zLg hg aA.out; replace aA := zV aA.out hb; have kR := zL hg aC.out; have rP := zLg hg aC.out; replace aC := zV aC.out hb; have kS := zL hg aD.out; have rQ := zLg hg aD.out; replace aD := zV aD.out hb; have kT := zL hg aG.out; have rR := zLg hg aG.out; replace aG := zV aG.out hb; have iH := zL hg aH.out; have nU := zLg hg aH.out; replace aH := zV aH.out hb; have kU := zL hg aI.out; have rT := zLg hg aI.out; replace aI := zV aI.out hb; have kV := zL hg aJ.out; have rU := zLg hg aJ.out; replace aJ := zV aJ.out hb; have kW := zL hg aK.out; have rV := zLg hg aK.out; replace aK := zV aK.out hb; have kX := zL hg aM.out; have rW := zLg hg aM.out; replace aM := zV aM.out hb; have kY := zL hg aN.out; have rX := zLg hg aN.out; replace aN := zV aN.out hb; have kZ := zL hg aQ.out; have rY := zLg hg aQ.out; replace aQ := zV aQ.out hb; replace HB := Qa.mk (Qg (jCh HB.out aV.out aX.out aY.out aZ.out bA.out bB.out bD.out bF.out bG.out bH.out bI.out) hb); clear hb hbox hg; have aDs := iG.out; have aDt := eZ.out; have aDu := rP.out; have aDv := kR.out; have aDw := rQ.out; have aDx := kS.out; have aDy := rR.out; have aDz := kT.out; have aEa := nU.out; have aEb := iH.out; have aEc := rT.out; have aEd := kU.out; have aEe := rU.out; have aEf := kV.out; have aEg := rV.out; have aEh := kW.out; have aEi := rW.out; have aEj := kX.out; have aEk := rX.out; have aEl := kY.out; have aEm := rY.out; have aEn := kZ.out; obtain ⟨xW, xX, xY, xZ⟩ := zq2 aT.out) | ((with_reducible refine Qd (f := 19) rfl ?_); refine zD (some 107) Tryz.func19 #[.slice A0 l0.length c0] ((Zv.calls k _ _ l0 vY _ ?dA ?dB A17.out).mono ?_); (case dA => exact Kd.C_below vT.out (Uw HB.out aV.out aX.out aY.out aZ.out bA.out bB.out bD.out bF.out bG.out bH.out bI.out bM.out)); (case dB => exact vU.out); rintro e aVu ⟨rfl, hb⟩; refine ⟨_, rfl, ?_⟩; replace bC := Qa.mk (Kd.R_below (by (with_reducible repeat (first | apply Kd.R_alloc | apply Kd.R_drewN | apply Kd.R_drew)); exact (Kd.R_mono (Kd.R_far (p := ⟨dP, 1, none⟩) (Kd.R_far (p := ⟨dP, 0, none⟩) (Kd.R_types bC.out aT.out (by decide)) (fun _ hk => hk.2) (.int .i64 iM)) (fun _ hk => hk.2) (.string iN)) (fun _ h_ => h_.1))) hb); replace bL := Qa.mk (Kd.R_below (by (with_reducible repeat (first | apply Kd.R_alloc | apply Kd.R_drewN | apply Kd.R_drew)); exact (Kd.R_mono (Kd.R_far (p := ⟨dP, 1, none⟩) (Kd.R_far (p := ⟨dP, 0, none⟩) (Kd.R_types bL.out aT.out (by decide)) (fun _ hk => hk.2) (.int .i64 iM)) (fun _ hk => hk.2) (.string iN)) (fun _ h_ => h_.1))) hb); replace aA := Qa.mk (Qh (g := bW) (o := .cells #[.int .i64 bQ, .string bR] 25 (0, 0)) (zk2 aA.out eZ.out eZ.out) hb); replace aC := Qa.mk (Qh (g := bT) (o := .cells #[.int .i64 dD, .string dE] 25 (0, 0)) (zk2 aC.out kR.out kR.out) hb); replace aD := Qa.mk (Qh (g := cK) (o := .cells #[.int .i64 eB, .string eD] 25 (0, 0)) (zk2 aD.out kS.out kS.out) hb); replace aG := Qa.mk (Qh (g := dC) (o := .cells #[.int .i64 bY, .string bZ] 25 (0, 0)) (zk2 aG.out kT.out kT.out) hb); replace aH := Qa.mk (Qh (g := cO) (o := .cells #[.int .i64 dI, .string dJ] 25 (0, 0)) (zk2 aH.out iH.out iH.out) hb); replace aI := Qa.mk (Qh (g := dH) (o := .cells #[.int .i64 fT, .string fU] 25 (0, 0)) (zk2 aI.out kU.out kU.out) hb); replace aJ := Qa.mk (Qh (g := cZ) (o := .cells #[.int .i64 dK, .string dL] 25 (0, 0)) (zk2 aJ.out kV.out kV.out) hb); replace aK := Qa.mk (Qh (g := cB) (o := .cells #[.int .i64 dQ, .string dR] 25 (0, 0)) (zk2 aK.out kW.out kW.out) hb); replace aM := Qa.mk (Qh (g := dM) (o := .cells #[.int .i64 gB, .string gD] 25 (0, 0)) (zk2 aM.out kX.out kX.out) hb); replace aN := Qa.mk (Qh (g := dO) (o := .cells #[.int .i64 gF, .string gG] 25 (0, 0)) (zk2 aN.out kY.out kY.out) hb); replace aQ := Qa.mk (Qh (g := dN) (o := .cells #[.int .i64 gJ, .string gK] 25 (0, 0)) (zk2 aQ.out kZ.out kZ.out) hb); replace aT := Qa.mk (Qh (g := dP) (o := .cells #[.int .i64 iM, .string iN] 25 (0, 0)) (zk0 aT.out) hb); replace HB := Qa.mk (Qg (Uw HB.out aV.out aX.out aY.out aZ.out bA.out bB.out bD.out bF.out bG.out bH.out bI.out bM.out) hb); (try clear hb)) | ((with_reducible refine Qd (f := 20) rfl ?_); refine zD (some 110) Tryz.func20 _ ((Jv.calls k vY iR iT vL _ A18.out (HT.out.below ?sideT)).mono ?_); (case sideT => exact (Uw HB.out aV.out aX.out aY.out aZ.out bA.out bB.out bD.out bF.out bG.out bH.out bI.out bM.out)); rintro e aVv ⟨rfl, hb⟩; refine ⟨_, rfl, ?_⟩; replace bC := zW bC.out hb; replace bL := zW bL.out hb; replace aA := zV aA.out hb; replace aC := zV aC.out hb; replace aD := zV aD.out hb; replace aG := zV aG.out hb; replace aH := zV aH.out hb; replace aI := zV aI.out hb; replace aJ := zV aJ.out hb; replace aK := zV aK.out hb; replace aM := zV aM.out hb; replace aN := zV aN.out hb; replace aQ := zV aQ.out hb; replace aT := zV aT.out hb; replace HB := Qa.mk (Qg (Uw HB.out aV.out aX.out aY.out aZ.out bA.out bB.out bD.out bF.out bG.out bH.out bI.out bM.out) hb); (try clear hb)) | ((with_reducible refine Qm (N := 30) rfl ?_); refine zBx (N := 30) #[.int .i64 0, .string (⟨#[]⟩ : ByteArray)] 25 ?_; intro dV hg aVw hbox hb; replace bC := zW bC.out hb; replace bL := zW bL.out hb; have aU := Qa.mk (hbox); have aUr := Qa.mk ((by rw [hg]; exact (Q6 (Uw HB.out aV.out aX.out aY.out aZ.out bA.out bB.out bD.out bF.out bG.out bH.out bI.out bM.out)) : w.heap.size ≤ dV)); have bN := Qa.mk ((by rw [hg]; exact (Q6 (Uw HB.out aV.out aX.out aY.out aZ.out bA.out bB.out bD.out bF.out bG.out bH.out bI.out bM.out)) : w.heap.size ≤ dV)); have fA := zL hg aA.out; have iI := zLg hg aA.out; replace aA := zV aA.out hb; have lC := zL hg aC.out; have rZ := zLg hg aC.out; replace aC := zV aC.out hb; have lD := zL hg aD.out; have sD := zLg hg aD.out; replace aD := zV aD.out hb; have lF := zL hg aG.out; have sF := zLg hg aG.out; replace aG := zV aG.out hb; have iJ := zL hg aH.out; have nV := zLg hg aH.out; replace aH := zV aH.out hb; have lG := zL hg aI.out; have sG := zLg hg aI.out; replace aI := zV aI.out hb; have lH := zL hg aJ.out; have sH := zLg hg aJ.out; replace aJ := zV aJ.out hb; have lI := zL hg aK.out; have sI := zLg hg aK.out; replace aK := zV aK.out hb; have lJ := zL hg aM.out; have sJ := zLg hg aM.out; replace aM := zV aM.out hb; have lK := zL hg aN.out; have sK := zLg hg aN.out; replace aN := zV aN.out hb; have lL := zL hg aQ.out; have sM := zLg hg aQ.out; replace aQ := zV aQ.out hb; have lM := zL hg aT.out; have sN := zLg hg aT.out; replace aT := zV aT.out hb; replace HB := Qa.mk (Qg (Uw HB.out aV.out aX.out aY.out aZ.out bA.out bB.out bD.out bF.out bG.out bH.out bI.out bM.out) hb); clear hb hbox hg; have aEo := iI.out; have aEp := fA.out; have aEq := rZ.out; have aEr := lC.out; have aEs := sD.out; have aEt := lD.out; have aEu := sF.out; have aEv := lF.out; have aEw := nV.out; have aEx := iJ.out; have aEy := sG.out; have aEz := lG.out; have aFa := sH.out; have aFb := lH.out; have aFc := sI.out; have aFd := lI.out; have aFe := sJ.out; have aFf := lJ.out; have aFg := sK.out; have aFh := lK.out; have aFi := sM.out; have aFj := lL.out; have aFk := sN.out; have aFl := lM.out; obtain ⟨yA, yB, yC, yD⟩ := zq2 aU.out) | ((with_reducible refine Qd (f := 21) rfl ?_); refine zD (some 115) Tryz.func21 _ ((J3.calls k vY dF dG vM _ A19.out).mono ?_); rintro e aVx ⟨rfl, hb⟩; refine ⟨_, rfl, ?_⟩; replace bC := Qa.mk (Kd.R_below (by (with_reducible repeat (first | apply Kd.R_alloc | apply Kd.R_drewN | apply Kd.R_drew)); exact (Kd.R_mono (Kd.R_far (p := ⟨dV, 1, none⟩) (Kd.R_far (p := ⟨dV, 0, none⟩) (Kd.R_types bC.out aU.out (by decide)) (fun _ hk => hk.2) (.int .i64 iR)) (fun _ hk => hk.2) (.string iT)) (fun _ h_ => h_.1))) hb); replace bL := Qa.mk (Kd.R_below (by (with_reducible repeat (first | apply Kd.R_alloc | apply Kd.R_drewN | apply Kd.R_drew)); exact (Kd.R_mono (Kd.R_far (p := ⟨dV, 1, none⟩) (Kd.R_far (p := ⟨dV, 0, none⟩) (Kd.R_types bL.out aU.out (by decide)) (fun _ hk => hk.2) (.int .i64 iR)) (fun _ hk => hk.2) (.string iT)) (fun _ h_ => h_.1))) hb); replace aA := Qa.mk (Qh (g := bW) (o := .cells #[.int .i64 bQ, .string bR] 25 (0, 0)) (zk2 aA.out fA.out fA.out) hb); replace aC := Qa.mk (Qh (g := bT) (o := .cells #[.int .i64 dD, .string dE] 25 (0, 0)) (zk2 aC.out lC.out lC.out) hb); replace aD := Qa.mk (Qh (g := cK) (o := .cells #[.int .i64 eB, .string eD] 25 (0, 0)) (zk2 aD.out lD.out lD.out) hb); replace aG := Qa.mk (Qh (g := dC) (o := .cells #[.int .i64 bY, .string bZ] 25 (0, 0)) (zk2 aG.out lF.out lF.out) hb); replace aH := Qa.mk (Qh (g := cO) (o := .cells #[.int .i64 dI, .string dJ] 25 (0, 0)) (zk2 aH.out iJ.out iJ.out) hb); replace aI := Qa.mk (Qh (g := dH) (o := .cells #[.int .i64 fT, .string fU] 25 (0, 0)) (zk2 aI.out lG.out lG.out) hb); replace aJ := Qa.mk (Qh (g := cZ) (o := .cells #[.int .i64 dK, .string dL] 25 (0, 0)) (zk2 aJ.out lH.out lH.out) hb); replace aK := Qa.mk (Qh (g := cB) (o := .cells #[.int .i64 dQ, .string dR] 25 (0, 0)) (zk2 aK.out lI.out lI.out) hb); replace aM := Qa.mk (Qh (g := dM) (o := .cells #[.int .i64 gB, .string gD] 25 (0, 0)) (zk2 aM.out lJ.out lJ.out) hb); replace aN := Qa.mk (Qh (g := dO) (o := .cells #[.int .i64 gF, .string gG] 25 (0, 0)) (zk2 aN.out lK.out lK.out) hb); replace aQ := Qa.mk (Qh (g := dN) (o := .cells #[.int .i64 gJ, .string gK] 25 (0, 0)) (zk2 aQ.out lL.out lL.out) hb); replace aT := Qa.mk (Qh (g := dP) (o := .cells #[.int .i64 iM, .string iN] 25 (0, 0)) (zk2 aT.out lM.out lM.out) hb); replace aU := Qa.mk (Qh (g := dV) (o := .cells #[.int .i64 iR, .string iT] 25 (0, 0)) (zk0 aU.out) hb); replace HB := Qa.mk (Qg (jCf HB.out aV.out aX.out aY.out aZ.out bA.out bB.out bD.out bF.out bG.out bH.out bI.out bM.out bN.out) hb); (try clear hb)) | ((with_reducible refine Qm (N := 32) rfl ?_); refine zBx (N := 32) #[.int .i64 0, .string (⟨#[]⟩ : ByteArray)] 25 ?_; intro bK hg gH hbox hb; replace bC := zW bC.out hb; replace bL := zW bL.out hb; have aW := Qa.mk (hbox); have aUs := Qa.mk ((by rw [hg]; exact (Q6 (jCf HB.out aV.out aX.out aY.out aZ.out bA.out bB.out bD.out bF.out bG.out bH.out bI.out bM.out bN.out)) : w.heap.size ≤ bK)); have bO := Qa.mk ((by rw [hg]; exact (Q6 (jCf HB.out aV.out aX.out aY.out aZ.out bA.out bB.out bD.out bF.out bG.out bH.out bI.out bM.out bN.out)) : w.heap.size ≤ bK)); have fB := zL hg aA.out; have iK := zLg hg aA.out; replace aA := zV aA.out hb; have lN := zL hg aC.out; have sO := zLg hg aC.out; replace aC := zV aC.out hb; have lQ := zL hg aD.out; have sP := zLg hg aD.out; replace aD := zV aD.out hb; have lS := zL hg aG.out; have sQ := zLg hg aG.out; replace aG := zV aG.out hb; have iL := zL hg aH.out; have nW := zLg hg aH.out; replace aH := zV aH.out hb; have lU := zL hg aI.out; have sS := zLg hg aI.out; replace aI := zV aI.out hb; have lV := zL hg aJ.out; have sU := zLg hg aJ.out; replace aJ := zV aJ.out hb; have lW := zL hg aK.out; have sV := zLg hg aK.out; replace aK := zV aK.out hb; have lX := zL hg aM.out; have sW := zLg hg aM.out; replace aM := zV aM.out hb; have lY := zL hg aN.out; have sZ := zLg hg aN.out; replace aN := zV aN.out hb; have lZ := zL hg aQ.out; have tC := zLg hg aQ.out; replace aQ := zV aQ.out hb; have mD := zL hg aT.out; have tF := zLg hg aT.out; replace aT := zV aT.out hb; have mE := zL hg aU.out; have tH := zLg hg aU.out; replace aU := zV aU.out hb; replace HB := Qa.mk (Qg (jCf HB.out aV.out aX.out aY.out aZ.out bA.out bB.out bD.out bF.out bG.out bH.out bI.out bM.out bN.out) hb); clear hb hbox hg; have aFm := iK.out; have aFn := fB.out; have aFo := sO.out; have aFp := lN.out; have aFq := sP.out; have aFr := lQ.out; have aFs := sQ.out; have aFt := lS.out; have aFu := nW.out; have aFv := iL.out; have aFw := sS.out; have aFx := lU.out; have aFy := sU.out; have aFz := lV.out; have aGa := sV.out; have aGb := lW.out; have aGc := sW.out; have aGd := lX.out; have aGe := sZ.out; have aGf := lY.out; have aGg := tC.out; have aGh := lZ.out; have aGi := tF.out; have aGj := mD.out; have aGk := tH.out; have aGl := mE.out; obtain ⟨yE, yF, yG, yH⟩ := zq2 aW.out))
 (try simp only [Act.put, List.setIfInBounds_toArray, List.set_cons_zero, List.set_cons_succ])
 go_cut [185] (fun aGm wc => ∃ (kq : Nat) (nD : Bool), aGm = .bool nD ∧ Qa (Qe.j0 kq iO iP iQ bS oO nJ bX oM nD bQ bR dD dE bY bZ dI dJ dK dL dQ dR = some r) ∧ Qa (kq ≤ k) ∧ Qa (Kd.R k48 48 wc w.heap.size (fun _ => True) (.slice pW bS.length oU) bS) ∧ Qa (Kd.R (Kd.int .i64) 3 wc w.heap.size (fun _ => True) (.slice oV bX.length oN) bX) ∧ Qa (wc.heap[bW]? = some (.cells #[.int .i64 bQ, .string bR] 25 (0, 0))) ∧ Qa (wc.heap[bT]? = some (.cells #[.int .i64 dD, .string dE] 25 (0, 0))) ∧ Qa (wc.heap[cK]? = some (.cells #[.int .i64 eB, .string eD] 25 (0, 0))) ∧ Qa (wc.heap[dC]? = some (.cells #[.int .i64 bY, .string bZ] 25 (0, 0))) ∧ Qa (wc.heap[cO]? = some (.cells #[.int .i64 dI, .string dJ] 25 (0, 0))) ∧ Qa (wc.heap[dH]? = some (.cells #[.int .i64 fT, .string fU] 25 (0, 0))) ∧ Qa (wc.heap[cZ]? = some (.cells #[.int .i64 dK, .string dL] 25 (0, 0))) ∧ Qa (wc.heap[cB]? = some (.cells #[.int .i64 dQ, .string dR] 25 (0, 0))) ∧ Qa (wc.heap[dM]? = some (.cells #[.int .i64 gB, .string gD] 25 (0, 0))) ∧ Qa (wc.heap[dO]? = some (.cells #[.int .i64 gF, .string gG] 25 (0, 0))) ∧ Qa (wc.heap[dN]? = some (.cells #[.int .i64 gJ, .string gK] 25 (0, 0))) ∧ Qa (wc.heap[dP]? = some (.cells #[.int .i64 iM, .string iN] 25 (0, 0))) ∧ Qa (wc.heap[dV]? = some (.cells #[.int .i64 iR, .string iT] 25 (0, 0))) ∧ Qa (wc.heap[bK]? = some (.cells #[.int .i64 dF, .string dG] 25 (0, 0))) ∧ Qa (Below w.heap.size w wc))
 case first => as_aux_lemma =>
  have H := vZ.out
  clear vZ
  obtain ⟨aGn, aGo, H⟩ := zO H
  obtain ⟨aGp, aGq, H⟩ := zO H
  replace H := jGj H
  rcases H with ⟨uF, aGr, H⟩ | ⟨aVy, H⟩
  ·(first | rw [uF] | (simp only [Zj, Zl]; rw [uF]) | skip)
   replace H := X8 H
   rcases H with ⟨c164, H⟩ | ⟨c164, H⟩
   ·exact absurd H (Qe.j0_no _ _ _ _ _ _ _ _ _ _ _ _ _ _ _ _ _ _ _ _ _ _ hr_)
   have aGs : (oO != vG) = false := by simpa using c164
   (try (have aGt : decide (oO = vG) = true := by simpa using c164))
   (try (have aGu : (oO == vG) = true := by simpa using c164))
   clear c164
   replace H := X8 H
   rcases H with ⟨wB, H⟩ | ⟨wB, H⟩
   ·exact absurd H (Qe.j0_no _ _ _ _ _ _ _ _ _ _ _ _ _ _ _ _ _ _ _ _ _ _ hr_)
   have aGv : (!(dD == eB) || (!(dE.toList == eD.toList))) = false := by simpa using wB
   clear wB
   replace H := X8 H
   rcases H with ⟨uG, H⟩ | ⟨uG, H⟩
   ·exact absurd H (Qe.j0_no _ _ _ _ _ _ _ _ _ _ _ _ _ _ _ _ _ _ _ _ _ _ hr_)
   have aGw : (nJ != vH) = false := by simpa using uG
   (try (have aGx : decide (nJ = vH) = true := by simpa using uG))
   (try (have aGy : (nJ == vH) = true := by simpa using uG))
   clear uG
   replace H := X8 H
   rcases H with ⟨wC, H⟩ | ⟨wC, H⟩
   ·exact absurd H (Qe.j0_no _ _ _ _ _ _ _ _ _ _ _ _ _ _ _ _ _ _ _ _ _ _ hr_)
   have aGz : (!(dI == fT) || (!(dJ.toList == fU.toList))) = false := by simpa using wC
   clear wC
   replace H := X8 H
   rcases H with ⟨uH, H⟩ | ⟨uH, H⟩
   ·exact absurd H (Qe.j0_no _ _ _ _ _ _ _ _ _ _ _ _ _ _ _ _ _ _ _ _ _ _ hr_)
   have aHa : (oM != vI) = false := by simpa using uH
   (try (have aHb : decide (oM = vI) = true := by simpa using uH))
   (try (have aHc : (oM == vI) = true := by simpa using uH))
   clear uH
   replace H := X8 H
   rcases H with ⟨wD, H⟩ | ⟨wD, H⟩
   ·exact absurd H (Qe.j0_no _ _ _ _ _ _ _ _ _ _ _ _ _ _ _ _ _ _ _ _ _ _ hr_)
   have aHd : (!(dQ == gB) || (!(dR.toList == gD.toList))) = false := by simpa using wD
   clear wD
   replace H := X8 H
   rcases H with ⟨c194, H⟩ | ⟨c194, H⟩
   ·exact absurd H (Qe.j0_no _ _ _ _ _ _ _ _ _ _ _ _ _ _ _ _ _ _ _ _ _ _ hr_)
   have aHe : (vJ != vK) = false := by simpa using c194
   (try (have aHf : decide (vJ = vK) = true := by simpa using c194))
   (try (have aHg : (vJ == vK) = true := by simpa using c194))
   clear c194
   replace H := X8 H
   rcases H with ⟨wE, H⟩ | ⟨wE, H⟩
   ·exact absurd H (Qe.j0_no _ _ _ _ _ _ _ _ _ _ _ _ _ _ _ _ _ _ _ _ _ _ hr_)
   have aHh : (!(gJ == iM) || (!(gK.toList == iN.toList))) = false := by simpa using wE
   clear wE
   replace H := X8 H
   rcases H with ⟨uI, H⟩ | ⟨uI, H⟩
   ·exact absurd H (Qe.j0_no _ _ _ _ _ _ _ _ _ _ _ _ _ _ _ _ _ _ _ _ _ _ hr_)
   have aHi : (vL != vM) = false := by simpa using uI
   (try (have aHj : decide (vL = vM) = true := by simpa using uI))
   (try (have aHk : (vL == vM) = true := by simpa using uI))
   clear uI
   replace H := X8 H
   rcases H with ⟨wF, H⟩ | ⟨wF, H⟩
   ·exact absurd H (Qe.j0_no _ _ _ _ _ _ _ _ _ _ _ _ _ _ _ _ _ _ _ _ _ _ hr_)
   have aHl : (!(iR == dF) || (!(iT.toList == dG.toList))) = false := by simpa using wF
   clear wF
   obtain ⟨yI, aHm, H⟩ := zO H
   obtain ⟨yJ, aHn, H⟩ := zO H
   have H' := Qa.mk H; clear H
   try go_wp2
   have wG : Qa (Kd.R k48 48 ((gH.setCell ⟨bK, 0, none⟩ (.int .i64 dF)).setCell ⟨bK, 1, none⟩ (.string dG)) w.heap.size (fun _ => True) (.slice pW bS.length oU) bS) := ⟨by (with_reducible repeat (first | apply Kd.R_alloc | apply Kd.R_drewN | apply Kd.R_drew)); exact Kd.R_mono (Kd.R_far (p := ⟨bK, 1, none⟩) (Kd.R_far (p := ⟨bK, 0, none⟩) (Kd.R_types bC.out aW.out (by decide)) (fun _ hk => hk.2) (.int .i64 dF)) (fun _ hk => hk.2) (.string dG)) (fun _ hk => trivial)⟩
   have wH : Qa (Kd.R (Kd.int .i64) 3 ((gH.setCell ⟨bK, 0, none⟩ (.int .i64 dF)).setCell ⟨bK, 1, none⟩ (.string dG)) w.heap.size (fun _ => True) (.slice oV bX.length oN) bX) := ⟨by (with_reducible repeat (first | apply Kd.R_alloc | apply Kd.R_drewN | apply Kd.R_drew)); exact Kd.R_mono (Kd.R_far (p := ⟨bK, 1, none⟩) (Kd.R_far (p := ⟨bK, 0, none⟩) (Kd.R_types bL.out aW.out (by decide)) (fun _ hk => hk.2) (.int .i64 dF)) (fun _ hk => hk.2) (.string dG)) (fun _ hk => trivial)⟩
   have wI : Qa (((gH.setCell ⟨bK, 0, none⟩ (.int .i64 dF)).setCell ⟨bK, 1, none⟩ (.string dG)).heap[bW]? = some (.cells #[.int .i64 bQ, .string bR] 25 (0, 0))) := ⟨zk2 aA.out fB.out fB.out⟩
   have wJ : Qa (((gH.setCell ⟨bK, 0, none⟩ (.int .i64 dF)).setCell ⟨bK, 1, none⟩ (.string dG)).heap[bT]? = some (.cells #[.int .i64 dD, .string dE] 25 (0, 0))) := ⟨zk2 aC.out lN.out lN.out⟩
   have wK : Qa (((gH.setCell ⟨bK, 0, none⟩ (.int .i64 dF)).setCell ⟨bK, 1, none⟩ (.string dG)).heap[cK]? = some (.cells #[.int .i64 eB, .string eD] 25 (0, 0))) := ⟨zk2 aD.out lQ.out lQ.out⟩
   have wL : Qa (((gH.setCell ⟨bK, 0, none⟩ (.int .i64 dF)).setCell ⟨bK, 1, none⟩ (.string dG)).heap[dC]? = some (.cells #[.int .i64 bY, .string bZ] 25 (0, 0))) := ⟨zk2 aG.out lS.out lS.out⟩
   have wM : Qa (((gH.setCell ⟨bK, 0, none⟩ (.int .i64 dF)).setCell ⟨bK, 1, none⟩ (.string dG)).heap[cO]? = some (.cells #[.int .i64 dI, .string dJ] 25 (0, 0))) := ⟨zk2 aH.out iL.out iL.out⟩
   have wN : Qa (((gH.setCell ⟨bK, 0, none⟩ (.int .i64 dF)).setCell ⟨bK, 1, none⟩ (.string dG)).heap[dH]? = some (.cells #[.int .i64 fT, .string fU] 25 (0, 0))) := ⟨zk2 aI.out lU.out lU.out⟩
   have wO : Qa (((gH.setCell ⟨bK, 0, none⟩ (.int .i64 dF)).setCell ⟨bK, 1, none⟩ (.string dG)).heap[cZ]? = some (.cells #[.int .i64 dK, .string dL] 25 (0, 0))) := ⟨zk2 aJ.out lV.out lV.out⟩
   have wP : Qa (((gH.setCell ⟨bK, 0, none⟩ (.int .i64 dF)).setCell ⟨bK, 1, none⟩ (.string dG)).heap[cB]? = some (.cells #[.int .i64 dQ, .string dR] 25 (0, 0))) := ⟨zk2 aK.out lW.out lW.out⟩
   have oW : Qa (((gH.setCell ⟨bK, 0, none⟩ (.int .i64 dF)).setCell ⟨bK, 1, none⟩ (.string dG)).heap[dM]? = some (.cells #[.int .i64 gB, .string gD] 25 (0, 0))) := ⟨zk2 aM.out lX.out lX.out⟩
   have oZ : Qa (((gH.setCell ⟨bK, 0, none⟩ (.int .i64 dF)).setCell ⟨bK, 1, none⟩ (.string dG)).heap[dO]? = some (.cells #[.int .i64 gF, .string gG] 25 (0, 0))) := ⟨zk2 aN.out lY.out lY.out⟩
   have pE : Qa (((gH.setCell ⟨bK, 0, none⟩ (.int .i64 dF)).setCell ⟨bK, 1, none⟩ (.string dG)).heap[dN]? = some (.cells #[.int .i64 gJ, .string gK] 25 (0, 0))) := ⟨zk2 aQ.out lZ.out lZ.out⟩
   have pF : Qa (((gH.setCell ⟨bK, 0, none⟩ (.int .i64 dF)).setCell ⟨bK, 1, none⟩ (.string dG)).heap[dP]? = some (.cells #[.int .i64 iM, .string iN] 25 (0, 0))) := ⟨zk2 aT.out mD.out mD.out⟩
   have pG : Qa (((gH.setCell ⟨bK, 0, none⟩ (.int .i64 dF)).setCell ⟨bK, 1, none⟩ (.string dG)).heap[dV]? = some (.cells #[.int .i64 iR, .string iT] 25 (0, 0))) := ⟨zk2 aU.out mE.out mE.out⟩
   have pI : Qa (((gH.setCell ⟨bK, 0, none⟩ (.int .i64 dF)).setCell ⟨bK, 1, none⟩ (.string dG)).heap[bK]? = some (.cells #[.int .i64 dF, .string dG] 25 (0, 0))) := ⟨zk0 aW.out⟩
   have pJ : Qa (Below w.heap.size w ((gH.setCell ⟨bK, 0, none⟩ (.int .i64 dF)).setCell ⟨bK, 1, none⟩ (.string dG))) := ⟨(Vf HB.out aV.out aX.out aY.out aZ.out bA.out bB.out bD.out bF.out bG.out bH.out bI.out bM.out bN.out bO.out)⟩
   (try clear bC)
   (try clear bL)
   (try clear aA)
   (try clear aC)
   (try clear aD)
   (try clear aG)
   (try clear aH)
   (try clear aI)
   (try clear aJ)
   (try clear aK)
   (try clear aM)
   (try clear aN)
   (try clear aQ)
   (try clear aT)
   (try clear aU)
   (try clear aW)
   (try clear HB)
   generalize ((gH.setCell ⟨bK, 0, none⟩ (.int .i64 dF)).setCell ⟨bK, 1, none⟩ (.string dG)) = aHo at wG wH wI wJ wK wL wM wN wO wP oW oZ pE pF pG pI pJ ⊢
   have bC := wG
   have bL := wH
   have aA := wI
   have aC := wJ
   have aD := wK
   have aG := wL
   have aH := wM
   have aI := wN
   have aJ := wO
   have aK := wP
   have aM := oW
   have aN := oZ
   have aQ := pE
   have aT := pF
   have aU := pG
   have aW := pI
   have HB := pJ
   clear wG wH wI wJ wK wL wM wN wO wP oW oZ pE pF pG pI pJ
   replace bC := Qa.mk (Kd.R_drew bC.out)
   replace bL := Qa.mk (Kd.R_drew bL.out)
   replace aA := Qa.mk (Qk aA.out)
   replace aC := Qa.mk (Qk aC.out)
   replace aD := Qa.mk (Qk aD.out)
   replace aG := Qa.mk (Qk aG.out)
   replace aH := Qa.mk (Qk aH.out)
   replace aI := Qa.mk (Qk aI.out)
   replace aJ := Qa.mk (Qk aJ.out)
   replace aK := Qa.mk (Qk aK.out)
   replace aM := Qa.mk (Qk aM.out)
   replace aN := Qa.mk (Qk aN.out)
   replace aQ := Qa.mk (Qk aQ.out)
   replace aT := Qa.mk (Qk aT.out)
   replace aU := Qa.mk (Qk aU.out)
   replace aW := Qa.mk (Qk aW.out)
   replace HB := Qa.mk (Qo HB.out)
   refine Xe (n := 68) (S := fun w' => w'.cell? ⟨bW, 0, none⟩ = some (.int .i64 bQ) ∧ w'.cell? ⟨bW, 1, none⟩ = some (.string bR) ∧ w'.cell? ⟨bT, 0, none⟩ = some (.int .i64 dD) ∧ w'.cell? ⟨bT, 1, none⟩ = some (.string dE) ∧ w'.cell? ⟨cK, 0, none⟩ = some (.int .i64 eB) ∧ w'.cell? ⟨cK, 1, none⟩ = some (.string eD) ∧ w'.cell? ⟨cO, 0, none⟩ = some (.int .i64 dI) ∧ w'.cell? ⟨cO, 1, none⟩ = some (.string dJ) ∧ w'.cell? ⟨dH, 0, none⟩ = some (.int .i64 fT) ∧ w'.cell? ⟨dH, 1, none⟩ = some (.string fU) ∧ w'.cell? ⟨cB, 0, none⟩ = some (.int .i64 dQ) ∧ w'.cell? ⟨cB, 1, none⟩ = some (.string dR) ∧ w'.cell? ⟨dM, 0, none⟩ = some (.int .i64 gB) ∧ w'.cell? ⟨dM, 1, none⟩ = some (.string gD) ∧ w'.cell? ⟨dN, 0, none⟩ = some (.int .i64 gJ) ∧ w'.cell? ⟨dN, 1, none⟩ = some (.string gK) ∧ w'.cell? ⟨dP, 0, none⟩ = some (.int .i64 iM) ∧ w'.cell? ⟨dP, 1, none⟩ = some (.string iN) ∧ w'.cell? ⟨dV, 0, none⟩ = some (.int .i64 iR) ∧ w'.cell? ⟨dV, 1, none⟩ = some (.string iT) ∧ w'.cell? ⟨bK, 0, none⟩ = some (.int .i64 dF) ∧ w'.cell? ⟨bK, 1, none⟩ = some (.string dG)) (ds := []) #[false, false, false, false, false, false, false, false, false, false, false, false, false, false, false, false, false, false, false, false, false, false, false, false, false, false, false, false, false, false, false, false, false, false, false, false, false, false, false, false, false, false, false, false, false, false, false, false, false, false, false, false, false, false, false, false, false, false, false, false, false, false, false, false, false, false, false, false] (by kernel_rfl) rfl rfl ⟨(Qj aA.out 0).trans rfl, (Qj aA.out 1).trans rfl, (Qj aC.out 0).trans rfl, (Qj aC.out 1).trans rfl, (Qj aD.out 0).trans rfl, (Qj aD.out 1).trans rfl, (Qj aH.out 0).trans rfl, (Qj aH.out 1).trans rfl, (Qj aI.out 0).trans rfl, (Qj aI.out 1).trans rfl, (Qj aK.out 0).trans rfl, (Qj aK.out 1).trans rfl, (Qj aM.out 0).trans rfl, (Qj aM.out 1).trans rfl, (Qj aQ.out 0).trans rfl, (Qj aQ.out 1).trans rfl, (Qj aT.out 0).trans rfl, (Qj aT.out 1).trans rfl, (Qj aU.out 0).trans rfl, (Qj aU.out 1).trans rfl, (Qj aW.out 0).trans rfl, (Qj aW.out 1).trans rfl⟩ (fun hHeld => ?_); refine J6 Qe.tab19 Qe.bits19 (fun HT_ HW_ => ?_)
   generalize aHo.drew = aVz at bC bL aA aC aD aG aH aI aJ aK aM aN aQ aT aU aW HB hHeld ⊢
   refine zP 1 (some 119) rfl rfl ?_
   refine zP 2 (some 120) rfl rfl ?_
   refine zP 3 (some 121) rfl rfl ?_
   refine zP 6 (some 124) rfl rfl ?_
   refine zP 7 (some 125) rfl rfl ?_
   refine zP 8 (some 126) rfl rfl ?_
   refine jE2 0 (some 118) rfl rfl hHeld ?_
   refine jE2 5 (some 123) rfl rfl hHeld ?_
   refine zU 4 (some 122) rfl rfl (fun K hK => ?_)
   refine X0 Tryz.func22 (by kernel_rfl) rfl #[.agg #[.int .i64 bQ, .string bR], .int .i64 iO, .int .i64 iP, .int .i64 iQ] (by rfl) rfl rfl zM ?_
   with_reducible refine (J2.calls k bQ bR iO iP iQ aGn _ aGo.out).mono ?_
   rintro e aWa ⟨rfl, hb⟩
   refine ⟨_, rfl, ?_⟩
   replace bC := zW bC.out hb
   replace bL := zW bL.out hb
   replace aA := zV aA.out hb
   replace aC := zV aC.out hb
   replace aD := zV aD.out hb
   replace aG := zV aG.out hb
   replace aH := zV aH.out hb
   replace aI := zV aI.out hb
   replace aJ := zV aJ.out hb
   replace aK := zV aK.out hb
   replace aM := zV aM.out hb
   replace aN := zV aN.out hb
   replace aQ := zV aQ.out hb
   replace aT := zV aT.out hb
   replace aU := zV aU.out hb
   replace aW := zV aW.out hb
   replace HB := Qa.mk (Qg (Vf HB.out aV.out aX.out aY.out aZ.out bA.out bB.out bD.out bF.out bG.out bH.out bI.out bM.out bN.out bO.out) hb)
   (try clear hb)
   refine hK.out _ _ (zh aA.out (zh aC.out (zh aD.out (zh aH.out (zh aI.out (zh aK.out (zh aM.out (zh aQ.out (zh aT.out (zh aU.out (zh2 aW.out))))))))))) (fun hHeld => ?_)
   clear hK K
   refine zN ?_
   refine zU 9 (some 127) rfl rfl (fun K hK => ?_)
   refine X0 Tryz.func23 (by kernel_rfl) rfl #[.agg #[.int .i64 bQ, .string bR], .int .i64 iO, .int .i64 iP, .int .i64 iQ] (by rfl) rfl rfl zM ?_
   with_reducible refine (Yy.calls k bQ bR iO iP iQ aGp _ aGq.out).mono ?_
   rintro e aWb ⟨rfl, hb⟩
   refine ⟨_, rfl, ?_⟩
   replace bC := zW bC.out hb
   replace bL := zW bL.out hb
   replace aA := zV aA.out hb
   replace aC := zV aC.out hb
   replace aD := zV aD.out hb
   replace aG := zV aG.out hb
   replace aH := zV aH.out hb
   replace aI := zV aI.out hb
   replace aJ := zV aJ.out hb
   replace aK := zV aK.out hb
   replace aM := zV aM.out hb
   replace aN := zV aN.out hb
   replace aQ := zV aQ.out hb
   replace aT := zV aT.out hb
   replace aU := zV aU.out hb
   replace aW := zV aW.out hb
   replace HB := Qa.mk (Qg (Vf HB.out aV.out aX.out aY.out aZ.out bA.out bB.out bD.out bF.out bG.out bH.out bI.out bM.out bN.out bO.out) hb)
   (try clear hb)
   refine hK.out _ _ (zh aA.out (zh aC.out (zh aD.out (zh aH.out (zh aI.out (zh aK.out (zh aM.out (zh aQ.out (zh aT.out (zh aU.out (zh2 aW.out))))))))))) (fun hHeld => ?_)
   clear hK K
   refine zN ?_
   refine zP 10 (some 128) rfl rfl ?_
   refine zP 11 (some 129) rfl rfl ?_
   refine zP 12 (some 130) rfl rfl ?_
   refine zP 13 (some 131) rfl rfl ?_
   refine zP 14 (some 132) rfl rfl ?_
   refine zP 15 (some 133) rfl rfl ?_
   refine zP 16 (some 134) rfl rfl ?_
   refine jE2 17 (some 135) rfl rfl hHeld ?_
   refine jE2 18 (some 136) rfl rfl hHeld ?_
   refine zP 19 (some 137) rfl rfl ?_
   refine zP 20 (some 138) rfl rfl ?_
   refine zP 21 (some 139) rfl rfl ?_
   refine zP 22 (some 140) rfl rfl ?_
   refine zP 23 (some 141) rfl rfl ?_
   refine zP 24 (some 142) rfl rfl ?_
   refine zP 25 (some 143) rfl rfl ?_
   refine zP 26 (some 144) rfl rfl ?_
   refine jE2 27 (some 145) rfl rfl hHeld ?_
   refine jE2 28 (some 146) rfl rfl hHeld ?_
   refine zP 29 (some 147) rfl rfl ?_
   refine zP 30 (some 148) rfl rfl ?_
   refine zP 31 (some 149) rfl rfl ?_
   refine zP 32 (some 150) rfl rfl ?_
   refine zP 33 (some 151) rfl rfl ?_
   refine zP 34 (some 152) rfl rfl ?_
   refine zP 35 (some 153) rfl rfl ?_
   refine zP 36 (some 154) rfl rfl ?_
   refine jE2 37 (some 155) rfl rfl hHeld ?_
   refine jE2 38 (some 156) rfl rfl hHeld ?_
   refine zP 39 (some 157) rfl rfl ?_
   refine zP 40 (some 158) rfl rfl ?_
   refine zP 41 (some 159) rfl rfl ?_
   refine zP 42 (some 160) rfl rfl ?_
   refine zP 43 (some 161) rfl rfl ?_
   refine zP 44 (some 162) rfl rfl ?_
   refine zP 45 (some 163) rfl rfl ?_
   refine zP 46 (some 164) rfl rfl ?_
   refine jE2 47 (some 165) rfl rfl hHeld ?_
   refine jE2 48 (some 166) rfl rfl hHeld ?_
   refine zP 49 (some 167) rfl rfl ?_
   refine zP 50 (some 168) rfl rfl ?_
   refine zP 51 (some 169) rfl rfl ?_
   refine zP 52 (some 170) rfl rfl ?_
   refine zP 53 (some 171) rfl rfl ?_
   refine zP 54 (some 172) rfl rfl ?_
   refine zP 55 (some 173) rfl rfl ?_
   refine zP 56 (some 174) rfl rfl ?_
   refine jE2 57 (some 175) rfl rfl hHeld ?_
   refine jE2 58 (some 176) rfl rfl hHeld ?_
   refine zP 59 (some 177) rfl rfl ?_
   refine zP 60 (some 178) rfl rfl ?_
   refine zP 61 (some 179) rfl rfl ?_
   refine jE2 62 (some 180) rfl rfl hHeld ?_
   refine jE2 64 (some 182) rfl rfl hHeld ?_
   refine zU 63 (some 181) rfl rfl (fun K hK => ?_)
   refine X0 Tryz.func24 (by kernel_rfl) rfl #[.agg #[.int .i64 bQ, .string bR]] (by rfl) rfl rfl zM ?_
   with_reducible refine (Qw.calls k bQ bR yI _ aHm.out).mono ?_
   rintro e aWc ⟨rfl, hb⟩
   refine ⟨_, rfl, ?_⟩
   replace bC := zW bC.out hb
   replace bL := zW bL.out hb
   replace aA := zV aA.out hb
   replace aC := zV aC.out hb
   replace aD := zV aD.out hb
   replace aG := zV aG.out hb
   replace aH := zV aH.out hb
   replace aI := zV aI.out hb
   replace aJ := zV aJ.out hb
   replace aK := zV aK.out hb
   replace aM := zV aM.out hb
   replace aN := zV aN.out hb
   replace aQ := zV aQ.out hb
   replace aT := zV aT.out hb
   replace aU := zV aU.out hb
   replace aW := zV aW.out hb
   replace HB := Qa.mk (Qg (Vf HB.out aV.out aX.out aY.out aZ.out bA.out bB.out bD.out bF.out bG.out bH.out bI.out bM.out bN.out bO.out) hb)
   (try clear hb)
   refine hK.out _ _ (zh aA.out (zh aC.out (zh aD.out (zh aH.out (zh aI.out (zh aK.out (zh aM.out (zh aQ.out (zh aT.out (zh aU.out (zh2 aW.out))))))))))) (fun hHeld => ?_)
   clear hK K
   refine zN ?_
   refine zU 65 (some 183) rfl rfl (fun K hK => ?_)
   refine X0 Tryz.func25 (by kernel_rfl) rfl #[.agg #[.int .i64 bQ, .string bR]] (by rfl) rfl rfl zM ?_
   with_reducible refine (Qu.calls k bQ bR yJ _ aHn.out).mono ?_
   rintro e aWd ⟨rfl, hb⟩
   refine ⟨_, rfl, ?_⟩
   replace bC := zW bC.out hb
   replace bL := zW bL.out hb
   replace aA := zV aA.out hb
   replace aC := zV aC.out hb
   replace aD := zV aD.out hb
   replace aG := zV aG.out hb
   replace aH := zV aH.out hb
   replace aI := zV aI.out hb
   replace aJ := zV aJ.out hb
   replace aK := zV aK.out hb
   replace aM := zV aM.out hb
   replace aN := zV aN.out hb
   replace aQ := zV aQ.out hb
   replace aT := zV aT.out hb
   replace aU := zV aU.out hb
   replace aW := zV aW.out hb
   replace HB := Qa.mk (Qg (Vf HB.out aV.out aX.out aY.out aZ.out bA.out bB.out bD.out bF.out bG.out bH.out bI.out bM.out bN.out bO.out) hb)
   (try clear hb)
   refine hK.out _ _ (zh aA.out (zh aC.out (zh aD.out (zh aH.out (zh aI.out (zh aK.out (zh aM.out (zh aQ.out (zh aT.out (zh aU.out (zh2 aW.out))))))))))) (fun hHeld => ?_)
   clear hK K
   refine zN ?_
   refine zP 66 (some 184) rfl rfl ?_
   refine zP 67 (some 185) rfl rfl ?_
   refine Yp (Zu HT_.out (by kernel_rfl)) ?_
   try go_wp2
   go_meet
   case rel => exact ⟨_, ((yI != yJ)), zF, H', ⟨by first | omega | exact Nat.le_refl _⟩, ⟨zR bC.out⟩, ⟨zR bL.out⟩, ⟨zK aA.out⟩, ⟨zK aC.out⟩, ⟨zK aD.out⟩, ⟨zK aG.out⟩, ⟨zK aH.out⟩, ⟨zK aI.out⟩, ⟨zK aJ.out⟩, ⟨zK aK.out⟩, ⟨zK aM.out⟩, ⟨zK aN.out⟩, ⟨zK aQ.out⟩, ⟨zK aT.out⟩, ⟨zK aU.out⟩, ⟨zK aW.out⟩, ⟨(Vf HB.out aV.out aX.out aY.out aZ.out bA.out bB.out bD.out bF.out bG.out bH.out bI.out bM.out bN.out bO.out)⟩⟩
  exact absurd H (Qe.j0_no _ _ _ _ _ _ _ _ _ _ _ _ _ _ _ _ _ _ _ _ _ _ hr_)
 case rest => as_aux_lemma =>
 clear vZ
 obtain ⟨kq, nD, rfl, HA, pK, bU, bJ, aA, aC, aD, aG, aH, aI, aJ, aK, aM, aN, aQ, aT, aU, aW, HB⟩ := hcut
 cases kq with
 | zero => exact absurd HA.out (by simp [Qe.j0])
 | succ pM =>
 have H := HA.out
 clear HA
 simp only [Qe.j0] at H
 by_cases c226 : nD = true
 ·subst c226
  replace H := (if_pos rfl).symm.trans H
  obtain rfl := Option.some.inj H
  cases hr_
 replace c226 := Bool.eq_false_iff.mpr c226
 subst c226
 replace H := (if_neg zFf).symm.trans H
 obtain ⟨yK, aHp, H⟩ := zO H
 obtain ⟨⟨mF, mG, uJ⟩, aHq, H⟩ := zO H
 dsimp only at H
 have uK := Qa.mk H
 clear H
 have aHr := eF.out
 have aHs := gL.out
 have aHt := eG.out
 have aHu := gM.out
 have aHv := eH.out
 have aHw := gN.out
 have aHx := dW.out
 have aHy := fV.out
 have aHz := eO.out
 have aIa := gU.out
 have aIb := eP.out
 have aIc := gW.out
 have aId := eQ.out
 have aIe := gY.out
 have aIf := eU.out
 have aIg := iA.out
 have aIh := eX.out
 have aIi := iC.out
 have aIj := eY.out
 have aIk := iE.out
 have aIl := eZ.out
 have aIm := iG.out
 have aIn := fA.out
 have aIo := iI.out
 have aIp := fB.out
 have aIq := iK.out
 obtain ⟨uL, uM, uN, uO⟩ := zq2 aA.out
 go_upto_region 23 with (first | ((with_reducible refine Qd (f := 26) rfl ?_); refine zD (some 187) Tryz.func26 _ ((J9.calls pM bQ bR yK _ aHp.out (HT.out.to1.below ?sideT)).mono ?_); (case sideT => exact (Vf HB.out aV.out aX.out aY.out aZ.out bA.out bB.out bD.out bF.out bG.out bH.out bI.out bM.out bN.out bO.out)); rintro e aWe ⟨rfl, hb⟩; refine ⟨_, rfl, ?_⟩; replace bU := zW bU.out hb; replace bJ := zW bJ.out hb; replace aA := zV aA.out hb; replace aC := zV aC.out hb; replace aD := zV aD.out hb; replace aG := zV aG.out hb; replace aH := zV aH.out hb; replace aI := zV aI.out hb; replace aJ := zV aJ.out hb; replace aK := zV aK.out hb; replace aM := zV aM.out hb; replace aN := zV aN.out hb; replace aQ := zV aQ.out hb; replace aT := zV aT.out hb; replace aU := zV aU.out hb; replace aW := zV aW.out hb; replace HB := Qa.mk (Qg (Vf HB.out aV.out aX.out aY.out aZ.out bA.out bB.out bD.out bF.out bG.out bH.out bI.out bM.out bN.out bO.out) hb); (try clear hb)) | ((with_reducible refine Qd (f := 20) rfl ?_); refine zD (some 190) Tryz.func20 _ ((Jv.calls pM yK mF mG uJ _ aHq.out (HT.out.below ?sideT)).mono ?_); (case sideT => exact (Vf HB.out aV.out aX.out aY.out aZ.out bA.out bB.out bD.out bF.out bG.out bH.out bI.out bM.out bN.out bO.out)); rintro e aWf ⟨rfl, hb⟩; refine ⟨_, rfl, ?_⟩; replace bU := zW bU.out hb; replace bJ := zW bJ.out hb; replace aA := zV aA.out hb; replace aC := zV aC.out hb; replace aD := zV aD.out hb; replace aG := zV aG.out hb; replace aH := zV aH.out hb; replace aI := zV aI.out hb; replace aJ := zV aJ.out hb; replace aK := zV aK.out hb; replace aM := zV aM.out hb; replace aN := zV aN.out hb; replace aQ := zV aQ.out hb; replace aT := zV aT.out hb; replace aU := zV aU.out hb; replace aW := zV aW.out hb; replace HB := Qa.mk (Qg (Vf HB.out aV.out aX.out aY.out aZ.out bA.out bB.out bD.out bF.out bG.out bH.out bI.out bM.out bN.out bO.out) hb); (try clear hb)) | ((with_reducible refine Qm (N := 35) rfl ?_); refine zBx (N := 35) #[.int .i64 0, .string (⟨#[]⟩ : ByteArray)] 25 ?_; intro dZ hg aWg hbox hb; replace bU := zW bU.out hb; replace bJ := zW bJ.out hb; have bE := Qa.mk (hbox); have aUt := Qa.mk ((by rw [hg]; exact (Q6 (Vf HB.out aV.out aX.out aY.out aZ.out bA.out bB.out bD.out bF.out bG.out bH.out bI.out bM.out bN.out bO.out)) : w.heap.size ≤ dZ)); have bV := Qa.mk ((by rw [hg]; exact (Q6 (Vf HB.out aV.out aX.out aY.out aZ.out bA.out bB.out bD.out bF.out bG.out bH.out bI.out bM.out bN.out bO.out)) : w.heap.size ≤ dZ)); have dX := zL hg aA.out; have mH := zLg hg aA.out; replace aA := zV aA.out hb; have fC := zL hg aC.out; have nX := zLg hg aC.out; replace aC := zV aC.out hb; have fD := zL hg aD.out; have nY := zLg hg aD.out; replace aD := zV aD.out hb; have fE := zL hg aG.out; have nZ := zLg hg aG.out; replace aG := zV aG.out hb; have dY := zL hg aH.out; have mI := zLg hg aH.out; replace aH := zV aH.out hb; have fF := zL hg aI.out; have oC := zLg hg aI.out; replace aI := zV aI.out hb; have fG := zL hg aJ.out; have oD := zLg hg aJ.out; replace aJ := zV aJ.out hb; have fH := zL hg aK.out; have oF := zLg hg aK.out; replace aK := zV aK.out hb; have fI := zL hg aM.out; have oG := zLg hg aM.out; replace aM := zV aM.out hb; have fJ := zL hg aN.out; have oH := zLg hg aN.out; replace aN := zV aN.out hb; have fK := zL hg aQ.out; have oI := zLg hg aQ.out; replace aQ := zV aQ.out hb; have fM := zL hg aT.out; have oJ := zLg hg aT.out; replace aT := zV aT.out hb; have fO := zL hg aU.out; have oK := zLg hg aU.out; replace aU := zV aU.out hb; have fP := zL hg aW.out; have oL := zLg hg aW.out; replace aW := zV aW.out hb; replace HB := Qa.mk (Qg (Vf HB.out aV.out aX.out aY.out aZ.out bA.out bB.out bD.out bF.out bG.out bH.out bI.out bM.out bN.out bO.out) hb); clear hb hbox hg; have aIr := mH.out; have aIs := dX.out; have aIt := nX.out; have aIu := fC.out; have aIv := nY.out; have aIw := fD.out; have aIx := nZ.out; have aIy := fE.out; have aIz := mI.out; have aJa := dY.out; have aJb := oC.out; have aJc := fF.out; have aJd := oD.out; have aJe := fG.out; have aJf := oF.out; have aJg := fH.out; have aJh := oG.out; have aJi := fI.out; have aJj := oH.out; have aJk := fJ.out; have aJl := oI.out; have aJm := fK.out; have aJn := oJ.out; have aJo := fM.out; have aJp := oK.out; have aJq := fO.out; have aJr := oL.out; have aJs := fP.out; obtain ⟨uP, uQ, uR, uS⟩ := zq2 bE.out))
 (try simp only [Act.put, List.setIfInBounds_toArray, List.set_cons_zero, List.set_cons_succ])
 go_cut [210] (fun v210 wc => ∃ (kq : Nat) (iU : Bool), v210 = .bool iU ∧ Qa (Qe.j1 kq iO iP iQ bS oO nJ bX oM iU bQ bR dD dE bY bZ dI dJ dK dL dQ dR = some r) ∧ Qa (kq ≤ pM) ∧ Qa (Kd.R k48 48 wc w.heap.size (fun _ => True) (.slice pW bS.length oU) bS) ∧ Qa (Kd.R (Kd.int .i64) 3 wc w.heap.size (fun _ => True) (.slice oV bX.length oN) bX) ∧ Qa (wc.heap[bW]? = some (.cells #[.int .i64 bQ, .string bR] 25 (0, 0))) ∧ Qa (wc.heap[bT]? = some (.cells #[.int .i64 dD, .string dE] 25 (0, 0))) ∧ Qa (wc.heap[cK]? = some (.cells #[.int .i64 eB, .string eD] 25 (0, 0))) ∧ Qa (wc.heap[dC]? = some (.cells #[.int .i64 bY, .string bZ] 25 (0, 0))) ∧ Qa (wc.heap[cO]? = some (.cells #[.int .i64 dI, .string dJ] 25 (0, 0))) ∧ Qa (wc.heap[dH]? = some (.cells #[.int .i64 fT, .string fU] 25 (0, 0))) ∧ Qa (wc.heap[cZ]? = some (.cells #[.int .i64 dK, .string dL] 25 (0, 0))) ∧ Qa (wc.heap[cB]? = some (.cells #[.int .i64 dQ, .string dR] 25 (0, 0))) ∧ Qa (wc.heap[dM]? = some (.cells #[.int .i64 gB, .string gD] 25 (0, 0))) ∧ Qa (wc.heap[dO]? = some (.cells #[.int .i64 gF, .string gG] 25 (0, 0))) ∧ Qa (wc.heap[dN]? = some (.cells #[.int .i64 gJ, .string gK] 25 (0, 0))) ∧ Qa (wc.heap[dP]? = some (.cells #[.int .i64 iM, .string iN] 25 (0, 0))) ∧ Qa (wc.heap[dV]? = some (.cells #[.int .i64 iR, .string iT] 25 (0, 0))) ∧ Qa (wc.heap[bK]? = some (.cells #[.int .i64 dF, .string dG] 25 (0, 0))) ∧ Qa (wc.heap[dZ]? = some (.cells #[.int .i64 mF, .string mG] 25 (0, 0))) ∧ Qa (Below w.heap.size w wc))
 case first => as_aux_lemma =>
  have H := uK.out
  clear uK
  obtain ⟨yL, yM, H⟩ := zO H
  replace H := jGj H
  rcases H with ⟨uT, aJt, H⟩ | ⟨aWh, H⟩
  ·(first | rw [uT] | (simp only [Zj, Zl]; rw [uT]) | skip)
   obtain ⟨uU, yN, H⟩ := zO H
   replace H := X8 H
   rcases H with ⟨uV, H⟩ | ⟨uV, H⟩
   ·exact absurd H (Qe.j1_no _ _ _ _ _ _ _ _ _ _ _ _ _ _ _ _ _ _ _ _ _ _ hr_)
   have aJu : (uJ != uU) = false := by simpa using uV
   (try (have aJv : decide (uJ = uU) = true := by simpa using uV))
   (try (have aJw : (uJ == uU) = true := by simpa using uV))
   clear uV
   by_cases vN : uJ = true
   ·subst vN
    replace H := (if_pos rfl).symm.trans H
    have H' := Qa.mk H; clear H
    have aJx := eF.out
    have aJy := gL.out
    have aJz := eG.out
    have aKa := gM.out
    have aKb := eH.out
    have aKc := gN.out
    have aKd := dW.out
    have aKe := fV.out
    have aKf := eO.out
    have aKg := gU.out
    have aKh := eP.out
    have aKi := gW.out
    have aKj := eQ.out
    have aKk := gY.out
    have aKl := eU.out
    have aKm := iA.out
    have aKn := eX.out
    have aKo := iC.out
    have aKp := eY.out
    have aKq := iE.out
    have aKr := eZ.out
    have aKs := iG.out
    have aKt := fA.out
    have aKu := iI.out
    have aKv := fB.out
    have aKw := iK.out
    have aKx := dX.out
    have aKy := mH.out
    obtain ⟨yO, yP, yQ, yR⟩ := zq2 aA.out
    go_wp2_with (first | ((with_reducible refine Qd (f := 27) rfl ?_); refine zD (some 195) Tryz.func27 _ ((Jy.calls pM bQ bR yL _ yM.out).mono ?_); rintro e aWi ⟨rfl, hb⟩; refine ⟨_, rfl, ?_⟩; replace bU := Qa.mk (Kd.R_below (by (with_reducible repeat (first | apply Kd.R_alloc | apply Kd.R_drewN | apply Kd.R_drew)); exact (Kd.R_mono (Kd.R_far (p := ⟨dZ, 1, none⟩) (Kd.R_far (p := ⟨dZ, 0, none⟩) (Kd.R_types bU.out bE.out (by decide)) (fun _ hk => hk.2) (.int .i64 mF)) (fun _ hk => hk.2) (.string mG)) (fun _ h_ => h_.1))) hb); replace bJ := Qa.mk (Kd.R_below (by (with_reducible repeat (first | apply Kd.R_alloc | apply Kd.R_drewN | apply Kd.R_drew)); exact (Kd.R_mono (Kd.R_far (p := ⟨dZ, 1, none⟩) (Kd.R_far (p := ⟨dZ, 0, none⟩) (Kd.R_types bJ.out bE.out (by decide)) (fun _ hk => hk.2) (.int .i64 mF)) (fun _ hk => hk.2) (.string mG)) (fun _ h_ => h_.1))) hb); replace aA := Qa.mk (Qh (g := bW) (o := .cells #[.int .i64 bQ, .string bR] 25 (0, 0)) (zk2 aA.out dX.out dX.out) hb); replace aC := Qa.mk (Qh (g := bT) (o := .cells #[.int .i64 dD, .string dE] 25 (0, 0)) (zk2 aC.out fC.out fC.out) hb); replace aD := Qa.mk (Qh (g := cK) (o := .cells #[.int .i64 eB, .string eD] 25 (0, 0)) (zk2 aD.out fD.out fD.out) hb); replace aG := Qa.mk (Qh (g := dC) (o := .cells #[.int .i64 bY, .string bZ] 25 (0, 0)) (zk2 aG.out fE.out fE.out) hb); replace aH := Qa.mk (Qh (g := cO) (o := .cells #[.int .i64 dI, .string dJ] 25 (0, 0)) (zk2 aH.out dY.out dY.out) hb); replace aI := Qa.mk (Qh (g := dH) (o := .cells #[.int .i64 fT, .string fU] 25 (0, 0)) (zk2 aI.out fF.out fF.out) hb); replace aJ := Qa.mk (Qh (g := cZ) (o := .cells #[.int .i64 dK, .string dL] 25 (0, 0)) (zk2 aJ.out fG.out fG.out) hb); replace aK := Qa.mk (Qh (g := cB) (o := .cells #[.int .i64 dQ, .string dR] 25 (0, 0)) (zk2 aK.out fH.out fH.out) hb); replace aM := Qa.mk (Qh (g := dM) (o := .cells #[.int .i64 gB, .string gD] 25 (0, 0)) (zk2 aM.out fI.out fI.out) hb); replace aN := Qa.mk (Qh (g := dO) (o := .cells #[.int .i64 gF, .string gG] 25 (0, 0)) (zk2 aN.out fJ.out fJ.out) hb); replace aQ := Qa.mk (Qh (g := dN) (o := .cells #[.int .i64 gJ, .string gK] 25 (0, 0)) (zk2 aQ.out fK.out fK.out) hb); replace aT := Qa.mk (Qh (g := dP) (o := .cells #[.int .i64 iM, .string iN] 25 (0, 0)) (zk2 aT.out fM.out fM.out) hb); replace aU := Qa.mk (Qh (g := dV) (o := .cells #[.int .i64 iR, .string iT] 25 (0, 0)) (zk2 aU.out fO.out fO.out) hb); replace aW := Qa.mk (Qh (g := bK) (o := .cells #[.int .i64 dF, .string dG] 25 (0, 0)) (zk2 aW.out fP.out fP.out) hb); replace bE := Qa.mk (Qh (g := dZ) (o := .cells #[.int .i64 mF, .string mG] 25 (0, 0)) (zk0 bE.out) hb); replace HB := Qa.mk (Qg (Xh HB.out aV.out aX.out aY.out aZ.out bA.out bB.out bD.out bF.out bG.out bH.out bI.out bM.out bN.out bO.out bV.out) hb); (try clear hb); obtain ⟨yS, yT, yU, yV⟩ := zq2 aA.out) | (go_at_call 25; (with_reducible refine (Qu.calls pM bQ bR uU _ yN.out).mono ?_); rintro e aWj ⟨rfl, hb⟩; replace bU := zW bU.out hb; replace bJ := zW bJ.out hb; replace aA := zV aA.out hb; replace aC := zV aC.out hb; replace aD := zV aD.out hb; replace aG := zV aG.out hb; replace aH := zV aH.out hb; replace aI := zV aI.out hb; replace aJ := zV aJ.out hb; replace aK := zV aK.out hb; replace aM := zV aM.out hb; replace aN := zV aN.out hb; replace aQ := zV aQ.out hb; replace aT := zV aT.out hb; replace aU := zV aU.out hb; replace aW := zV aW.out hb; replace bE := zV bE.out hb; replace HB := Qa.mk (Qg (Xh HB.out aV.out aX.out aY.out aZ.out bA.out bB.out bD.out bF.out bG.out bH.out bI.out bM.out bN.out bO.out bV.out) hb); (try clear hb); (try clear hb2); (try clear hk); (try clear hi); have aKz := nX.out; have aLa := fC.out; have aLb := nY.out; have aLc := fD.out; have aLd := nZ.out; have aLe := fE.out; have aLf := mI.out; have aLg := dY.out; have aLh := oC.out; have aLi := fF.out; have aLj := oD.out; have aLk := fG.out; have aLl := oF.out; have aLm := fH.out; have aLn := oG.out; have aLo := fI.out; have aLp := oH.out; have aLq := fJ.out; have aLr := oI.out; have aLs := fK.out; have aLt := oJ.out; have aLu := fM.out; have aLv := oK.out; have aLw := fO.out; have aLx := oL.out; have aLy := fP.out; obtain ⟨yX, yY, yZ, zC⟩ := zq2 bE.out; obtain ⟨zH, zI, zJ, zQ⟩ := zq2 aA.out))
    go_meet
    case rel => exact ⟨_, ((!(mF == bQ) || (!(mG.toList == bR.toList)))), zF, H', ⟨by have := pK.out; first | omega | exact Nat.le_refl _⟩, ⟨zR bU.out⟩, ⟨zR bJ.out⟩, ⟨zK aA.out⟩, ⟨zK aC.out⟩, ⟨zK aD.out⟩, ⟨zK aG.out⟩, ⟨zK aH.out⟩, ⟨zK aI.out⟩, ⟨zK aJ.out⟩, ⟨zK aK.out⟩, ⟨zK aM.out⟩, ⟨zK aN.out⟩, ⟨zK aQ.out⟩, ⟨zK aT.out⟩, ⟨zK aU.out⟩, ⟨zK aW.out⟩, ⟨zK bE.out⟩, ⟨(Xh HB.out aV.out aX.out aY.out aZ.out bA.out bB.out bD.out bF.out bG.out bH.out bI.out bM.out bN.out bO.out bV.out)⟩⟩
   replace vN := Bool.eq_false_iff.mpr vN
   subst vN
   replace H := (if_neg zFf).symm.trans H
   have H' := Qa.mk H; clear H
   have aLz := eF.out
   have aMa := gL.out
   have aMb := eG.out
   have aMc := gM.out
   have aMd := eH.out
   have aMe := gN.out
   have aMf := dW.out
   have aMg := fV.out
   have aMh := eO.out
   have aMi := gU.out
   have aMj := eP.out
   have aMk := gW.out
   have aMl := eQ.out
   have aMm := gY.out
   have aMn := eU.out
   have aMo := iA.out
   have aMp := eX.out
   have aMq := iC.out
   have aMr := eY.out
   have aMs := iE.out
   have aMt := eZ.out
   have aMu := iG.out
   have aMv := fA.out
   have aMw := iI.out
   have aMx := fB.out
   have aMy := iK.out
   have aMz := dX.out
   have aNa := mH.out
   obtain ⟨zT, zY, zZ, aAa⟩ := zq2 aA.out
   go_wp2_with (first | ((with_reducible refine Qd (f := 27) rfl ?_); refine zD (some 195) Tryz.func27 _ ((Jy.calls pM bQ bR yL _ yM.out).mono ?_); rintro e aWk ⟨rfl, hb⟩; refine ⟨_, rfl, ?_⟩; replace bU := Qa.mk (Kd.R_below (by (with_reducible repeat (first | apply Kd.R_alloc | apply Kd.R_drewN | apply Kd.R_drew)); exact (Kd.R_mono (Kd.R_far (p := ⟨dZ, 1, none⟩) (Kd.R_far (p := ⟨dZ, 0, none⟩) (Kd.R_types bU.out bE.out (by decide)) (fun _ hk => hk.2) (.int .i64 mF)) (fun _ hk => hk.2) (.string mG)) (fun _ h_ => h_.1))) hb); replace bJ := Qa.mk (Kd.R_below (by (with_reducible repeat (first | apply Kd.R_alloc | apply Kd.R_drewN | apply Kd.R_drew)); exact (Kd.R_mono (Kd.R_far (p := ⟨dZ, 1, none⟩) (Kd.R_far (p := ⟨dZ, 0, none⟩) (Kd.R_types bJ.out bE.out (by decide)) (fun _ hk => hk.2) (.int .i64 mF)) (fun _ hk => hk.2) (.string mG)) (fun _ h_ => h_.1))) hb); replace aA := Qa.mk (Qh (g := bW) (o := .cells #[.int .i64 bQ, .string bR] 25 (0, 0)) (zk2 aA.out dX.out dX.out) hb); replace aC := Qa.mk (Qh (g := bT) (o := .cells #[.int .i64 dD, .string dE] 25 (0, 0)) (zk2 aC.out fC.out fC.out) hb); replace aD := Qa.mk (Qh (g := cK) (o := .cells #[.int .i64 eB, .string eD] 25 (0, 0)) (zk2 aD.out fD.out fD.out) hb); replace aG := Qa.mk (Qh (g := dC) (o := .cells #[.int .i64 bY, .string bZ] 25 (0, 0)) (zk2 aG.out fE.out fE.out) hb); replace aH := Qa.mk (Qh (g := cO) (o := .cells #[.int .i64 dI, .string dJ] 25 (0, 0)) (zk2 aH.out dY.out dY.out) hb); replace aI := Qa.mk (Qh (g := dH) (o := .cells #[.int .i64 fT, .string fU] 25 (0, 0)) (zk2 aI.out fF.out fF.out) hb); replace aJ := Qa.mk (Qh (g := cZ) (o := .cells #[.int .i64 dK, .string dL] 25 (0, 0)) (zk2 aJ.out fG.out fG.out) hb); replace aK := Qa.mk (Qh (g := cB) (o := .cells #[.int .i64 dQ, .string dR] 25 (0, 0)) (zk2 aK.out fH.out fH.out) hb); replace aM := Qa.mk (Qh (g := dM) (o := .cells #[.int .i64 gB, .string gD] 25 (0, 0)) (zk2 aM.out fI.out fI.out) hb); replace aN := Qa.mk (Qh (g := dO) (o := .cells #[.int .i64 gF, .string gG] 25 (0, 0)) (zk2 aN.out fJ.out fJ.out) hb); replace aQ := Qa.mk (Qh (g := dN) (o := .cells #[.int .i64 gJ, .string gK] 25 (0, 0)) (zk2 aQ.out fK.out fK.out) hb); replace aT := Qa.mk (Qh (g := dP) (o := .cells #[.int .i64 iM, .string iN] 25 (0, 0)) (zk2 aT.out fM.out fM.out) hb); replace aU := Qa.mk (Qh (g := dV) (o := .cells #[.int .i64 iR, .string iT] 25 (0, 0)) (zk2 aU.out fO.out fO.out) hb); replace aW := Qa.mk (Qh (g := bK) (o := .cells #[.int .i64 dF, .string dG] 25 (0, 0)) (zk2 aW.out fP.out fP.out) hb); replace bE := Qa.mk (Qh (g := dZ) (o := .cells #[.int .i64 mF, .string mG] 25 (0, 0)) (zk0 bE.out) hb); replace HB := Qa.mk (Qg (Xh HB.out aV.out aX.out aY.out aZ.out bA.out bB.out bD.out bF.out bG.out bH.out bI.out bM.out bN.out bO.out bV.out) hb); (try clear hb); obtain ⟨aAb, aAc, aAd, aAe⟩ := zq2 aA.out) | (go_at_call 25; (with_reducible refine (Qu.calls pM bQ bR uU _ yN.out).mono ?_); rintro e aWl ⟨rfl, hb⟩; replace bU := zW bU.out hb; replace bJ := zW bJ.out hb; replace aA := zV aA.out hb; replace aC := zV aC.out hb; replace aD := zV aD.out hb; replace aG := zV aG.out hb; replace aH := zV aH.out hb; replace aI := zV aI.out hb; replace aJ := zV aJ.out hb; replace aK := zV aK.out hb; replace aM := zV aM.out hb; replace aN := zV aN.out hb; replace aQ := zV aQ.out hb; replace aT := zV aT.out hb; replace aU := zV aU.out hb; replace aW := zV aW.out hb; replace bE := zV bE.out hb; replace HB := Qa.mk (Qg (Xh HB.out aV.out aX.out aY.out aZ.out bA.out bB.out bD.out bF.out bG.out bH.out bI.out bM.out bN.out bO.out bV.out) hb); (try clear hb); (try clear hb2); (try clear hk); (try clear hi)))
   go_meet
   case rel => exact ⟨_, (false), zF, H', ⟨by have := pK.out; first | omega | exact Nat.le_refl _⟩, ⟨zR bU.out⟩, ⟨zR bJ.out⟩, ⟨zK aA.out⟩, ⟨zK aC.out⟩, ⟨zK aD.out⟩, ⟨zK aG.out⟩, ⟨zK aH.out⟩, ⟨zK aI.out⟩, ⟨zK aJ.out⟩, ⟨zK aK.out⟩, ⟨zK aM.out⟩, ⟨zK aN.out⟩, ⟨zK aQ.out⟩, ⟨zK aT.out⟩, ⟨zK aU.out⟩, ⟨zK aW.out⟩, ⟨zK bE.out⟩, ⟨(Xh HB.out aV.out aX.out aY.out aZ.out bA.out bB.out bD.out bF.out bG.out bH.out bI.out bM.out bN.out bO.out bV.out)⟩⟩
  exact absurd H (Qe.j1_no _ _ _ _ _ _ _ _ _ _ _ _ _ _ _ _ _ _ _ _ _ _ hr_)
 case rest => as_aux_lemma =>
 clear uK
 try clear c3
 try clear c226
 try clear uL
 try clear uM
 try clear uP
 try clear uQ
 try clear uN
 try clear uO
 try clear uR
 try clear uS
 obtain ⟨kq, iU, rfl, HA, oP, bU, bJ, aA, aC, aD, aG, aH, aI, aJ, aK, aM, aN, aQ, aT, aU, aW, bE, HB⟩ := hcut
 cases kq with
 | zero => exact absurd HA.out (by simp [Qe.j1])
 | succ oQ =>
 have H := HA.out
 clear HA
 simp only [Qe.j1] at H
 by_cases vO : iU = true
 ·subst vO
  replace H := (if_pos rfl).symm.trans H
  obtain rfl := Option.some.inj H
  cases hr_
 replace vO := Bool.eq_false_iff.mpr vO
 subst vO
 replace H := (if_neg zFf).symm.trans H
 have uW := Qa.mk H
 clear H
 go_upto_region 25 with (fail)
 go_cut [235] (fun aNb wc => ∃ (kq : Nat) (iV : Bool), aNb = .bool iV ∧ Qa (Qe.j2 kq bS oO nJ bX oM iV dD dE bY bZ dI dJ dK dL dQ dR = some r) ∧ Qa (kq ≤ oQ) ∧ Qa (Kd.R k48 48 wc w.heap.size (fun _ => True) (.slice pW bS.length oU) bS) ∧ Qa (Kd.R (Kd.int .i64) 3 wc w.heap.size (fun _ => True) (.slice oV bX.length oN) bX) ∧ Qa (wc.heap[bW]? = some (.cells #[.int .i64 bQ, .string bR] 25 (0, 0))) ∧ Qa (wc.heap[bT]? = some (.cells #[.int .i64 dD, .string dE] 25 (0, 0))) ∧ Qa (wc.heap[cK]? = some (.cells #[.int .i64 eB, .string eD] 25 (0, 0))) ∧ Qa (wc.heap[dC]? = some (.cells #[.int .i64 bY, .string bZ] 25 (0, 0))) ∧ Qa (wc.heap[cO]? = some (.cells #[.int .i64 dI, .string dJ] 25 (0, 0))) ∧ Qa (wc.heap[dH]? = some (.cells #[.int .i64 fT, .string fU] 25 (0, 0))) ∧ Qa (wc.heap[cZ]? = some (.cells #[.int .i64 dK, .string dL] 25 (0, 0))) ∧ Qa (wc.heap[cB]? = some (.cells #[.int .i64 dQ, .string dR] 25 (0, 0))) ∧ Qa (wc.heap[dM]? = some (.cells #[.int .i64 gB, .string gD] 25 (0, 0))) ∧ Qa (wc.heap[dO]? = some (.cells #[.int .i64 gF, .string gG] 25 (0, 0))) ∧ Qa (wc.heap[dN]? = some (.cells #[.int .i64 gJ, .string gK] 25 (0, 0))) ∧ Qa (wc.heap[dP]? = some (.cells #[.int .i64 iM, .string iN] 25 (0, 0))) ∧ Qa (wc.heap[dV]? = some (.cells #[.int .i64 iR, .string iT] 25 (0, 0))) ∧ Qa (wc.heap[bK]? = some (.cells #[.int .i64 dF, .string dG] 25 (0, 0))) ∧ Qa (wc.heap[dZ]? = some (.cells #[.int .i64 mF, .string mG] 25 (0, 0))) ∧ Qa (Below w.heap.size w wc))
 case first => as_aux_lemma =>
  have H := uW.out
  clear uW
  obtain ⟨aNc, aNd, H⟩ := zO H
  obtain ⟨aNe, aNf, H⟩ := zO H
  replace H := jGj H
  rcases H with ⟨uX, aNg, H⟩ | ⟨aWm, H⟩
  ·(first | rw [uX] | (simp only [Zj, Zl]; rw [uX]) | skip)
   obtain ⟨aAf, aNh, H⟩ := zO H
   obtain ⟨aAg, aNi, H⟩ := zO H
   have H' := Qa.mk H; clear H
   try go_wp2
   replace bU := Qa.mk (Kd.R_drew bU.out)
   replace bJ := Qa.mk (Kd.R_drew bJ.out)
   replace aA := Qa.mk (Qk aA.out)
   replace aC := Qa.mk (Qk aC.out)
   replace aD := Qa.mk (Qk aD.out)
   replace aG := Qa.mk (Qk aG.out)
   replace aH := Qa.mk (Qk aH.out)
   replace aI := Qa.mk (Qk aI.out)
   replace aJ := Qa.mk (Qk aJ.out)
   replace aK := Qa.mk (Qk aK.out)
   replace aM := Qa.mk (Qk aM.out)
   replace aN := Qa.mk (Qk aN.out)
   replace aQ := Qa.mk (Qk aQ.out)
   replace aT := Qa.mk (Qk aT.out)
   replace aU := Qa.mk (Qk aU.out)
   replace aW := Qa.mk (Qk aW.out)
   replace bE := Qa.mk (Qk bE.out)
   replace HB := Qa.mk (Qo HB.out)
   refine Xe (n := 25) (S := fun w' => w'.cell? ⟨bW, 0, none⟩ = some (.int .i64 bQ) ∧ w'.cell? ⟨bW, 1, none⟩ = some (.string bR)) (ds := []) #[false, false, false, false, false, false, false, false, false, false, false, false, false, false, false, false, false, false, false, false, false, false, false, false, false] (by kernel_rfl) rfl rfl ⟨(Qj aA.out 0).trans rfl, (Qj aA.out 1).trans rfl⟩ (fun hHeld => ?_); refine J6 Qe.tab25 Qe.bits25 (fun HT_ HW_ => ?_)
   generalize wc.drew = aWn at bU bJ aA aC aD aG aH aI aJ aK aM aN aQ aT aU aW bE HB hHeld ⊢
   refine zP 1 (some 212) rfl rfl ?_
   refine zP 2 (some 213) rfl rfl ?_
   refine zP 3 (some 214) rfl rfl ?_
   refine zP 6 (some 217) rfl rfl ?_
   refine zP 7 (some 218) rfl rfl ?_
   refine zP 8 (some 219) rfl rfl ?_
   refine zY2 0 (some 211) rfl rfl hHeld ?_
   refine zY2 5 (some 216) rfl rfl hHeld ?_
   refine zU 4 (some 215) rfl rfl (fun K hK => ?_)
   refine X0 Tryz.func22 (by kernel_rfl) rfl #[.agg #[.int .i64 bQ, .string bR], .int .i64 iO, .int .i64 iP, .int .i64 iQ] (by rfl) rfl rfl zM ?_
   with_reducible refine (J2.calls oQ bQ bR iO iP iQ aNc _ aNd.out).mono ?_
   rintro e aWo ⟨rfl, hb⟩
   refine ⟨_, rfl, ?_⟩
   replace bU := zW bU.out hb
   replace bJ := zW bJ.out hb
   replace aA := zV aA.out hb
   replace aC := zV aC.out hb
   replace aD := zV aD.out hb
   replace aG := zV aG.out hb
   replace aH := zV aH.out hb
   replace aI := zV aI.out hb
   replace aJ := zV aJ.out hb
   replace aK := zV aK.out hb
   replace aM := zV aM.out hb
   replace aN := zV aN.out hb
   replace aQ := zV aQ.out hb
   replace aT := zV aT.out hb
   replace aU := zV aU.out hb
   replace aW := zV aW.out hb
   replace bE := zV bE.out hb
   replace HB := Qa.mk (Qg (Xh HB.out aV.out aX.out aY.out aZ.out bA.out bB.out bD.out bF.out bG.out bH.out bI.out bM.out bN.out bO.out bV.out) hb)
   (try clear hb)
   refine hK.out _ _ (zh2 aA.out) (fun hHeld => ?_)
   clear hK K
   refine zN ?_
   refine zU 9 (some 220) rfl rfl (fun K hK => ?_)
   refine X0 Tryz.func22 (by kernel_rfl) rfl #[.agg #[.int .i64 bQ, .string bR], .int .i64 iP, .int .i64 iQ, .int .i64 iO] (by rfl) rfl rfl zM ?_
   with_reducible refine (J2.calls oQ bQ bR iP iQ iO aNe _ aNf.out).mono ?_
   rintro e aWp ⟨rfl, hb⟩
   refine ⟨_, rfl, ?_⟩
   replace bU := zW bU.out hb
   replace bJ := zW bJ.out hb
   replace aA := zV aA.out hb
   replace aC := zV aC.out hb
   replace aD := zV aD.out hb
   replace aG := zV aG.out hb
   replace aH := zV aH.out hb
   replace aI := zV aI.out hb
   replace aJ := zV aJ.out hb
   replace aK := zV aK.out hb
   replace aM := zV aM.out hb
   replace aN := zV aN.out hb
   replace aQ := zV aQ.out hb
   replace aT := zV aT.out hb
   replace aU := zV aU.out hb
   replace aW := zV aW.out hb
   replace bE := zV bE.out hb
   replace HB := Qa.mk (Qg (Xh HB.out aV.out aX.out aY.out aZ.out bA.out bB.out bD.out bF.out bG.out bH.out bI.out bM.out bN.out bO.out bV.out) hb)
   (try clear hb)
   refine hK.out _ _ (zh2 aA.out) (fun hHeld => ?_)
   clear hK K
   refine zN ?_
   refine zP 10 (some 221) rfl rfl ?_
   refine zP 11 (some 222) rfl rfl ?_
   refine zP 13 (some 224) rfl rfl ?_
   refine zP 14 (some 225) rfl rfl ?_
   refine zP 15 (some 226) rfl rfl ?_
   refine zP 18 (some 229) rfl rfl ?_
   refine zP 19 (some 230) rfl rfl ?_
   refine zP 20 (some 231) rfl rfl ?_
   refine zY2 12 (some 223) rfl rfl hHeld ?_
   refine zY2 17 (some 228) rfl rfl hHeld ?_
   refine zU 16 (some 227) rfl rfl (fun K hK => ?_)
   refine X0 Tryz.func22 (by kernel_rfl) rfl #[.agg #[.int .i64 bQ, .string bR], .int .i64 iO, .int .i64 iP, .int .i64 iQ] (by rfl) rfl rfl zM ?_
   with_reducible refine (J2.calls oQ bQ bR iO iP iQ aAf _ aNh.out).mono ?_
   rintro e aWq ⟨rfl, hb⟩
   refine ⟨_, rfl, ?_⟩
   replace bU := zW bU.out hb
   replace bJ := zW bJ.out hb
   replace aA := zV aA.out hb
   replace aC := zV aC.out hb
   replace aD := zV aD.out hb
   replace aG := zV aG.out hb
   replace aH := zV aH.out hb
   replace aI := zV aI.out hb
   replace aJ := zV aJ.out hb
   replace aK := zV aK.out hb
   replace aM := zV aM.out hb
   replace aN := zV aN.out hb
   replace aQ := zV aQ.out hb
   replace aT := zV aT.out hb
   replace aU := zV aU.out hb
   replace aW := zV aW.out hb
   replace bE := zV bE.out hb
   replace HB := Qa.mk (Qg (Xh HB.out aV.out aX.out aY.out aZ.out bA.out bB.out bD.out bF.out bG.out bH.out bI.out bM.out bN.out bO.out bV.out) hb)
   (try clear hb)
   refine hK.out _ _ (zh2 aA.out) (fun hHeld => ?_)
   clear hK K
   refine zN ?_
   refine zU 21 (some 232) rfl rfl (fun K hK => ?_)
   refine X0 Tryz.func22 (by kernel_rfl) rfl #[.agg #[.int .i64 bQ, .string bR], .int .i64 iP, .int .i64 iO, .int .i64 iQ] (by rfl) rfl rfl zM ?_
   with_reducible refine (J2.calls oQ bQ bR iP iO iQ aAg _ aNi.out).mono ?_
   rintro e aWr ⟨rfl, hb⟩
   refine ⟨_, rfl, ?_⟩
   replace bU := zW bU.out hb
   replace bJ := zW bJ.out hb
   replace aA := zV aA.out hb
   replace aC := zV aC.out hb
   replace aD := zV aD.out hb
   replace aG := zV aG.out hb
   replace aH := zV aH.out hb
   replace aI := zV aI.out hb
   replace aJ := zV aJ.out hb
   replace aK := zV aK.out hb
   replace aM := zV aM.out hb
   replace aN := zV aN.out hb
   replace aQ := zV aQ.out hb
   replace aT := zV aT.out hb
   replace aU := zV aU.out hb
   replace aW := zV aW.out hb
   replace bE := zV bE.out hb
   replace HB := Qa.mk (Qg (Xh HB.out aV.out aX.out aY.out aZ.out bA.out bB.out bD.out bF.out bG.out bH.out bI.out bM.out bN.out bO.out bV.out) hb)
   (try clear hb)
   refine hK.out _ _ (zh2 aA.out) (fun hHeld => ?_)
   clear hK K
   refine zN ?_
   refine zP 22 (some 233) rfl rfl ?_
   refine zP 23 (some 234) rfl rfl ?_
   refine zP 24 (some 235) rfl rfl ?_
   refine Yp (Zu HT_.out (by kernel_rfl)) ?_
   try go_wp2
   go_meet
   case rel => exact ⟨_, ((aAf != (wrap64 (-aAg)))), zF, H', ⟨by have := pK.out; have := oP.out; first | omega | exact Nat.le_refl _⟩, ⟨zR bU.out⟩, ⟨zR bJ.out⟩, ⟨zK aA.out⟩, ⟨zK aC.out⟩, ⟨zK aD.out⟩, ⟨zK aG.out⟩, ⟨zK aH.out⟩, ⟨zK aI.out⟩, ⟨zK aJ.out⟩, ⟨zK aK.out⟩, ⟨zK aM.out⟩, ⟨zK aN.out⟩, ⟨zK aQ.out⟩, ⟨zK aT.out⟩, ⟨zK aU.out⟩, ⟨zK aW.out⟩, ⟨zK bE.out⟩, ⟨(Xh HB.out aV.out aX.out aY.out aZ.out bA.out bB.out bD.out bF.out bG.out bH.out bI.out bM.out bN.out bO.out bV.out)⟩⟩
  exact absurd H (Qe.j2_no _ _ _ _ _ _ _ _ _ _ _ _ _ _ _ _ _ hr_)
 case rest => as_aux_lemma =>
 clear uW
 try clear c3
 obtain ⟨kq, iV, rfl, HA, pU, bU, bJ, aA, aC, aD, aG, aH, aI, aJ, aK, aM, aN, aQ, aT, aU, aW, bE, HB⟩ := hcut
 cases kq with
 | zero => exact absurd HA.out (by simp [Qe.j2])
 | succ vV =>
 have H := HA.out
 clear HA
 simp only [Qe.j2] at H
 by_cases tJ : iV = true
 ·subst tJ
  replace H := (if_pos rfl).symm.trans H
  obtain rfl := Option.some.inj H
  cases hr_
 replace tJ := Bool.eq_false_iff.mpr tJ
 subst tJ
 replace H := (if_neg zFf).symm.trans H
 have uY := Qa.mk H
 clear H
 go_upto_region 27 with (fail)
 go_cut [251] (fun aNj wc => ∃ (kq : Nat) (iW : Bool), aNj = .bool iW ∧ Qa (Qe.j3 kq nJ bX oM iW bY bZ dI dJ dK dL dQ dR = some r) ∧ Qa (kq ≤ vV) ∧ Qa (Kd.R (Kd.int .i64) 3 wc w.heap.size (fun _ => True) (.slice oV bX.length oN) bX) ∧ Qa (wc.heap[bW]? = some (.cells #[.int .i64 bQ, .string bR] 25 (0, 0))) ∧ Qa (wc.heap[bT]? = some (.cells #[.int .i64 dD, .string dE] 25 (0, 0))) ∧ Qa (wc.heap[cK]? = some (.cells #[.int .i64 eB, .string eD] 25 (0, 0))) ∧ Qa (wc.heap[dC]? = some (.cells #[.int .i64 bY, .string bZ] 25 (0, 0))) ∧ Qa (wc.heap[cO]? = some (.cells #[.int .i64 dI, .string dJ] 25 (0, 0))) ∧ Qa (wc.heap[dH]? = some (.cells #[.int .i64 fT, .string fU] 25 (0, 0))) ∧ Qa (wc.heap[cZ]? = some (.cells #[.int .i64 dK, .string dL] 25 (0, 0))) ∧ Qa (wc.heap[cB]? = some (.cells #[.int .i64 dQ, .string dR] 25 (0, 0))) ∧ Qa (wc.heap[dM]? = some (.cells #[.int .i64 gB, .string gD] 25 (0, 0))) ∧ Qa (wc.heap[dO]? = some (.cells #[.int .i64 gF, .string gG] 25 (0, 0))) ∧ Qa (wc.heap[dN]? = some (.cells #[.int .i64 gJ, .string gK] 25 (0, 0))) ∧ Qa (wc.heap[dP]? = some (.cells #[.int .i64 iM, .string iN] 25 (0, 0))) ∧ Qa (wc.heap[dV]? = some (.cells #[.int .i64 iR, .string iT] 25 (0, 0))) ∧ Qa (wc.heap[bK]? = some (.cells #[.int .i64 dF, .string dG] 25 (0, 0))) ∧ Qa (wc.heap[dZ]? = some (.cells #[.int .i64 mF, .string mG] 25 (0, 0))) ∧ Qa (Below w.heap.size w wc))
 case first => as_aux_lemma =>
  have H := uY.out
  clear uY
  by_cases vP : oO = true
  ·subst vP
   replace H := (if_pos rfl).symm.trans H
   obtain ⟨aAh, aNk, H⟩ := zO H
   replace H := V3 H
   rcases H with ⟨aAi, uZ, H⟩ | ⟨aAi, H⟩
   ·have aNl : decide (0 < bS.length) = true := decide_eq_true (by omega)
    clear aAi
    (first | rw [uZ] | (simp only [Zj, Zl]; rw [uZ]) | skip)
    replace H := V3 H
    rcases H with ⟨aAj, aNm, H⟩ | ⟨aAj, H⟩
    ·have aNn : decide (1 < bS.length) = true := decide_eq_true (by omega)
     clear aAj
     replace H := V3 H
     rcases H with ⟨aAk, aNo, H⟩ | ⟨aAk, H⟩
     ·have aNp : decide (2 < bS.length) = true := decide_eq_true (by omega)
      clear aAk
      obtain ⟨aAl, aNq, H⟩ := zO H
      have H' := Qa.mk H; clear H
      try go_wp2
      replace bU := Qa.mk (Kd.R_drew bU.out)
      replace bJ := Qa.mk (Kd.R_drew bJ.out)
      replace aA := Qa.mk (Qk aA.out)
      replace aC := Qa.mk (Qk aC.out)
      replace aD := Qa.mk (Qk aD.out)
      replace aG := Qa.mk (Qk aG.out)
      replace aH := Qa.mk (Qk aH.out)
      replace aI := Qa.mk (Qk aI.out)
      replace aJ := Qa.mk (Qk aJ.out)
      replace aK := Qa.mk (Qk aK.out)
      replace aM := Qa.mk (Qk aM.out)
      replace aN := Qa.mk (Qk aN.out)
      replace aQ := Qa.mk (Qk aQ.out)
      replace aT := Qa.mk (Qk aT.out)
      replace aU := Qa.mk (Qk aU.out)
      replace aW := Qa.mk (Qk aW.out)
      replace bE := Qa.mk (Qk bE.out)
      replace HB := Qa.mk (Qo HB.out)
      have wQ : 0 ≤ (0 : Int) := (by omega)
      have wR : 0 < (bS.length : Int) := zA
      obtain ⟨fZ, aNr, iX, iY⟩ := Xz (Kd.R_reads' bU.out).2.2 0 wQ wR
      cases aNr
      have aUu : (0 < bS.length) = True := eq_true (by omega)
      (try rw [show ((0 : Int)).toNat = 0 from rfl] at iX)
      (try rw [show 0 * 2 = 0 from rfl] at iX)
      (try rw [Addr.add_zero'] at iX)
      (try rw [show ((0 : Int)).toNat = 0 from rfl] at iY)
      (try rw [show 0 * 2 = 0 from rfl] at iY)
      (try rw [Addr.add_zero'] at iY)
      replace wQ := eq_true wQ
      replace wR := eq_true wR
      have wS : 0 ≤ (1 : Int) := (by omega)
      have wT : 1 < (bS.length : Int) := zA
      obtain ⟨aAm, aNs, iZ, jA⟩ := Xz (Kd.R_reads' bU.out).2.2 1 wS wT
      obtain rfl : fZ = aAm := (by injection aNs)
      (try simp only [show (1 : Int).toNat = 1 from rfl, Nat.reduceMul, Nat.reduceEqDiff, Go.Addr.add, ↓reduceIte] at iZ)
      (try simp only [show (1 : Int).toNat = 1 from rfl, Nat.reduceMul, Nat.reduceEqDiff, Go.Addr.add, ↓reduceIte] at jA)
      have aUv : (1 < bS.length) = True := eq_true (by omega)
      (try rw [show ((1 : Int)).toNat = 1 from rfl] at iZ)
      (try rw [show 1 * 2 = 2 from rfl] at iZ)
      (try rw [show ((1 : Int)).toNat = 1 from rfl] at jA)
      (try rw [show 1 * 2 = 2 from rfl] at jA)
      replace wS := eq_true wS
      replace wT := eq_true wT
      have wU : 0 ≤ (2 : Int) := (by omega)
      have wV : 2 < (bS.length : Int) := zA
      obtain ⟨aAn, aNt, jB, jC⟩ := Xz (Kd.R_reads' bU.out).2.2 2 wU wV
      obtain rfl : fZ = aAn := (by injection aNt)
      (try simp only [show (2 : Int).toNat = 2 from rfl, Nat.reduceMul, Nat.reduceEqDiff, Go.Addr.add, ↓reduceIte] at jB)
      (try simp only [show (2 : Int).toNat = 2 from rfl, Nat.reduceMul, Nat.reduceEqDiff, Go.Addr.add, ↓reduceIte] at jC)
      have aUw : (2 < bS.length) = True := eq_true (by omega)
      (try rw [show ((2 : Int)).toNat = 2 from rfl] at jB)
      (try rw [show 2 * 2 = 4 from rfl] at jB)
      (try rw [show ((2 : Int)).toNat = 2 from rfl] at jC)
      (try rw [show 2 * 2 = 4 from rfl] at jC)
      replace wU := eq_true wU
      replace wV := eq_true wV
      refine Xe (n := 16) (S := fun w' => w'.cell? ⟨bT, 0, none⟩ = some (.int .i64 dD) ∧ w'.cell? ⟨bT, 1, none⟩ = some (.string dE) ∧ w'.cell? fZ = some (.int .i64 ((Qp bS 0).f0)) ∧ w'.cell? ⟨fZ.block, fZ.off + 1, none⟩ = some (.int .i64 ((Qp bS 0).f1)) ∧ w'.cell? ⟨fZ.block, fZ.off + 2, none⟩ = some (.int .i64 ((Qp bS 1).f0)) ∧ w'.cell? ⟨fZ.block, fZ.off + 2 + 1, none⟩ = some (.int .i64 ((Qp bS 1).f1)) ∧ w'.cell? ⟨fZ.block, fZ.off + 4, none⟩ = some (.int .i64 ((Qp bS 2).f0)) ∧ w'.cell? ⟨fZ.block, fZ.off + 4 + 1, none⟩ = some (.int .i64 ((Qp bS 2).f1))) (ds := []) #[false, false, false, false, false, false, false, false, false, false, false, false, false, false, false, false] (by kernel_rfl) rfl rfl ⟨(Qj aC.out 0).trans rfl, (Qj aC.out 1).trans rfl, iX, iY, iZ, jA, jB, jC⟩ (fun hHeld => ?_); refine J6 Qe.tab27 Qe.bits27 (fun HT_ HW_ => ?_)
      generalize wc.drew = aWs at bU bJ aA aC aD aG aH aI aJ aK aM aN aQ aT aU aW bE HB iX iY iZ jA jB jC hHeld ⊢
      refine zP 0 (some 236) rfl rfl ?_
      refine zP 1 (some 237) rfl rfl ?_
      refine zP 4 (some 240) rfl rfl ?_
      refine zP 5 (some 241) rfl rfl ?_
      refine zP 7 (some 243) rfl rfl ?_
      refine zP 8 (some 244) rfl rfl ?_
      refine zP 10 (some 246) rfl rfl ?_
      refine zP 11 (some 247) rfl rfl ?_
      refine zY8 2 (some 238) rfl rfl hHeld ?_
      refine zY8 6 (some 242) rfl rfl hHeld ?_
      refine zY8 9 (some 245) rfl rfl hHeld ?_
      refine zY8 12 (some 248) rfl rfl hHeld ?_
      refine zU 3 (some 239) rfl rfl (fun K hK => ?_)
      refine X0 Tryz.func22 (by kernel_rfl) rfl #[.agg #[.int .i64 dD, .string dE], .int .i64 0, .int .i64 1, .int .i64 2] (by rfl) rfl rfl zM ?_
      with_reducible refine (J2.calls vV dD dE 0 1 2 aAh _ aNk.out).mono ?_
      rintro e aWt ⟨rfl, hb⟩
      have wW := (hb.cell (World.block_lt_of_cell? _ _ (hHeld.2.2.1))).trans (hHeld.2.2.1)
      have wX := (hb.cell (World.block_lt_of_cell? _ _ (hHeld.2.2.2.1))).trans (hHeld.2.2.2.1)
      have pO := (hb.cell (World.block_lt_of_cell? _ _ (hHeld.2.2.2.2.1))).trans (hHeld.2.2.2.2.1)
      have pQ := (hb.cell (World.block_lt_of_cell? _ _ (hHeld.2.2.2.2.2.1))).trans (hHeld.2.2.2.2.2.1)
      have pR := (hb.cell (World.block_lt_of_cell? _ _ (hHeld.2.2.2.2.2.2.1))).trans (hHeld.2.2.2.2.2.2.1)
      have wY := (hb.cell (World.block_lt_of_cell? _ _ (hHeld.2.2.2.2.2.2.2))).trans (hHeld.2.2.2.2.2.2.2)
      refine ⟨_, rfl, ?_⟩
      replace bU := zW bU.out hb
      replace bJ := zW bJ.out hb
      replace aA := zV aA.out hb
      replace aC := zV aC.out hb
      replace aD := zV aD.out hb
      replace aG := zV aG.out hb
      replace aH := zV aH.out hb
      replace aI := zV aI.out hb
      replace aJ := zV aJ.out hb
      replace aK := zV aK.out hb
      replace aM := zV aM.out hb
      replace aN := zV aN.out hb
      replace aQ := zV aQ.out hb
      replace aT := zV aT.out hb
      replace aU := zV aU.out hb
      replace aW := zV aW.out hb
      replace bE := zV bE.out hb
      replace HB := Qa.mk (Qg (Xh HB.out aV.out aX.out aY.out aZ.out bA.out bB.out bD.out bF.out bG.out bH.out bI.out bM.out bN.out bO.out bV.out) hb)
      (try clear hb)
      refine hK.out _ _ ⟨(Qj aC.out 0).trans rfl, (Qj aC.out 1).trans rfl, wW, wX, pO, pQ, pR, wY⟩ (fun hHeld => ?_)
      clear hK K
      refine zN ?_
      refine zU 13 (some 249) rfl rfl (fun K hK => ?_)
      refine X0 Tryz.func28 (by kernel_rfl) rfl #[.agg #[.int .i64 ((Qp bS 0).f0), .int .i64 ((Qp bS 0).f1)], .agg #[.int .i64 ((Qp bS 1).f0), .int .i64 ((Qp bS 1).f1)], .agg #[.int .i64 ((Qp bS 2).f0), .int .i64 ((Qp bS 2).f1)]] (by rfl) rfl rfl zM ?_
      with_reducible refine (Xa.calls ((Qp bS 0).f0) ((Qp bS 0).f1) ((Qp bS 1).f0) ((Qp bS 1).f1) ((Qp bS 2).f0) ((Qp bS 2).f1) aAl _ aNq.out).mono ?_
      rintro e aWu ⟨rfl, hb⟩
      have wW := (hb.cell (World.block_lt_of_cell? _ _ (hHeld.2.2.1))).trans (hHeld.2.2.1)
      have wX := (hb.cell (World.block_lt_of_cell? _ _ (hHeld.2.2.2.1))).trans (hHeld.2.2.2.1)
      have pO := (hb.cell (World.block_lt_of_cell? _ _ (hHeld.2.2.2.2.1))).trans (hHeld.2.2.2.2.1)
      have pQ := (hb.cell (World.block_lt_of_cell? _ _ (hHeld.2.2.2.2.2.1))).trans (hHeld.2.2.2.2.2.1)
      have pR := (hb.cell (World.block_lt_of_cell? _ _ (hHeld.2.2.2.2.2.2.1))).trans (hHeld.2.2.2.2.2.2.1)
      have wY := (hb.cell (World.block_lt_of_cell? _ _ (hHeld.2.2.2.2.2.2.2))).trans (hHeld.2.2.2.2.2.2.2)
      refine ⟨_, rfl, ?_⟩
      replace bU := zW bU.out hb
      replace bJ := zW bJ.out hb
      replace aA := zV aA.out hb
      replace aC := zV aC.out hb
      replace aD := zV aD.out hb
      replace aG := zV aG.out hb
      replace aH := zV aH.out hb
      replace aI := zV aI.out hb
      replace aJ := zV aJ.out hb
      replace aK := zV aK.out hb
      replace aM := zV aM.out hb
      replace aN := zV aN.out hb
      replace aQ := zV aQ.out hb
      replace aT := zV aT.out hb
      replace aU := zV aU.out hb
      replace aW := zV aW.out hb
      replace bE := zV bE.out hb
      replace HB := Qa.mk (Qg (Xh HB.out aV.out aX.out aY.out aZ.out bA.out bB.out bD.out bF.out bG.out bH.out bI.out bM.out bN.out bO.out bV.out) hb)
      (try clear hb)
      refine hK.out _ _ ⟨(Qj aC.out 0).trans rfl, (Qj aC.out 1).trans rfl, wW, wX, pO, pQ, pR, wY⟩ (fun hHeld => ?_)
      clear hK K
      refine zN ?_
      refine zP 14 (some 250) rfl rfl ?_
      refine zP 15 (some 251) rfl rfl ?_
      refine Yp (Zu HT_.out (by kernel_rfl)) ?_
      try go_wp2
      go_meet
      case rel => exact ⟨_, ((aAh != aAl)), zF, H', ⟨by have := pK.out; have := oP.out; have := pU.out; first | omega | exact Nat.le_refl _⟩, ⟨zR bJ.out⟩, ⟨zK aA.out⟩, ⟨zK aC.out⟩, ⟨zK aD.out⟩, ⟨zK aG.out⟩, ⟨zK aH.out⟩, ⟨zK aI.out⟩, ⟨zK aJ.out⟩, ⟨zK aK.out⟩, ⟨zK aM.out⟩, ⟨zK aN.out⟩, ⟨zK aQ.out⟩, ⟨zK aT.out⟩, ⟨zK aU.out⟩, ⟨zK aW.out⟩, ⟨zK bE.out⟩, ⟨(Xh HB.out aV.out aX.out aY.out aZ.out bA.out bB.out bD.out bF.out bG.out bH.out bI.out bM.out bN.out bO.out bV.out)⟩⟩
     exact absurd H (by simp)
    exact absurd H (by simp)
   exact absurd H (by simp)
  replace vP := Bool.eq_false_iff.mpr vP
  subst vP
  replace H := (if_neg zFf).symm.trans H
  have H' := Qa.mk H; clear H
  try go_wp2
  replace bU := Qa.mk (Kd.R_drew bU.out)
  replace bJ := Qa.mk (Kd.R_drew bJ.out)
  replace aA := Qa.mk (Qk aA.out)
  replace aC := Qa.mk (Qk aC.out)
  replace aD := Qa.mk (Qk aD.out)
  replace aG := Qa.mk (Qk aG.out)
  replace aH := Qa.mk (Qk aH.out)
  replace aI := Qa.mk (Qk aI.out)
  replace aJ := Qa.mk (Qk aJ.out)
  replace aK := Qa.mk (Qk aK.out)
  replace aM := Qa.mk (Qk aM.out)
  replace aN := Qa.mk (Qk aN.out)
  replace aQ := Qa.mk (Qk aQ.out)
  replace aT := Qa.mk (Qk aT.out)
  replace aU := Qa.mk (Qk aU.out)
  replace aW := Qa.mk (Qk aW.out)
  replace bE := Qa.mk (Qk bE.out)
  replace HB := Qa.mk (Qo HB.out)
  refine Xe (n := 16) (S := fun w' => True) (ds := []) #[false, false, false, false, false, false, false, false, false, false, false, false, false, false, false, false] (by kernel_rfl) rfl rfl trivial (fun hHeld => ?_); refine J6 Qe.tab27 Qe.bits27 (fun HT_ HW_ => ?_)
  generalize wc.drew = aWv at bU bJ aA aC aD aG aH aI aJ aK aM aN aQ aT aU aW bE HB hHeld ⊢
  refine zP 0 (some 236) rfl rfl ?_
  refine zP 1 (some 237) rfl rfl ?_
  refine Yk (i := 2) (N := some 238) (v := undef) (a' := ?_) #[true, true, true, false, false, false, false, false, false, false, false, false, false, false, false, false] rfl rfl (Xy HT_.out (by kernel_rfl)) (fun _ _ _ h => h) (Or.inr ⟨by rfl, rfl⟩) ?_ ?_
  rotate_left
  ·simp only [Act.put, List.setIfInBounds_toArray, List.set_cons_zero, List.set_cons_succ, Zj, Zl]
   rfl
  refine Yk (i := 3) (N := some 239) (v := undef) (a' := ?_) #[true, true, true, true, false, false, false, false, false, false, false, false, false, false, false, false] rfl rfl (Xy HT_.out (by kernel_rfl)) (fun _ _ _ h => h) (Or.inr ⟨by rfl, rfl⟩) ?_ ?_
  rotate_left
  ·simp only [Act.put, List.setIfInBounds_toArray, List.set_cons_zero, List.set_cons_succ, Zj, Zl]
   rfl
  refine Yk (i := 4) (N := some 240) (v := undef) (a' := ?_) #[true, true, true, true, true, false, false, false, false, false, false, false, false, false, false, false] rfl rfl (Xy HT_.out (by kernel_rfl)) (fun _ _ _ h => h) (Or.inr ⟨by rfl, rfl⟩) ?_ ?_
  rotate_left
  ·simp only [Act.put, List.setIfInBounds_toArray, List.set_cons_zero, List.set_cons_succ, Zj, Zl]
   rfl
  refine Yk (i := 5) (N := some 241) (v := undef) (a' := ?_) #[true, true, true, true, true, true, false, false, false, false, false, false, false, false, false, false] rfl rfl (Xy HT_.out (by kernel_rfl)) (fun _ _ _ h => h) (Or.inr ⟨by rfl, rfl⟩) ?_ ?_
  rotate_left
  ·simp only [Act.put, List.setIfInBounds_toArray, List.set_cons_zero, List.set_cons_succ, Zj, Zl]
   rfl
  refine Yk (i := 6) (N := some 242) (v := undef) (a' := ?_) #[true, true, true, true, true, true, true, false, false, false, false, false, false, false, false, false] rfl rfl (Xy HT_.out (by kernel_rfl)) (fun _ _ _ h => h) (Or.inr ⟨by rfl, rfl⟩) ?_ ?_
  rotate_left
  ·simp only [Act.put, List.setIfInBounds_toArray, List.set_cons_zero, List.set_cons_succ, Zj, Zl]
   rfl
  refine Yk (i := 7) (N := some 243) (v := undef) (a' := ?_) #[true, true, true, true, true, true, true, true, false, false, false, false, false, false, false, false] rfl rfl (Xy HT_.out (by kernel_rfl)) (fun _ _ _ h => h) (Or.inr ⟨by rfl, rfl⟩) ?_ ?_
  rotate_left
  ·simp only [Act.put, List.setIfInBounds_toArray, List.set_cons_zero, List.set_cons_succ, Zj, Zl]
   rfl
  refine Yk (i := 8) (N := some 244) (v := undef) (a' := ?_) #[true, true, true, true, true, true, true, true, true, false, false, false, false, false, false, false] rfl rfl (Xy HT_.out (by kernel_rfl)) (fun _ _ _ h => h) (Or.inr ⟨by rfl, rfl⟩) ?_ ?_
  rotate_left
  ·simp only [Act.put, List.setIfInBounds_toArray, List.set_cons_zero, List.set_cons_succ, Zj, Zl]
   rfl
  refine Yk (i := 9) (N := some 245) (v := undef) (a' := ?_) #[true, true, true, true, true, true, true, true, true, true, false, false, false, false, false, false] rfl rfl (Xy HT_.out (by kernel_rfl)) (fun _ _ _ h => h) (Or.inr ⟨by rfl, rfl⟩) ?_ ?_
  rotate_left
  ·simp only [Act.put, List.setIfInBounds_toArray, List.set_cons_zero, List.set_cons_succ, Zj, Zl]
   rfl
  refine Yk (i := 10) (N := some 246) (v := undef) (a' := ?_) #[true, true, true, true, true, true, true, true, true, true, true, false, false, false, false, false] rfl rfl (Xy HT_.out (by kernel_rfl)) (fun _ _ _ h => h) (Or.inr ⟨by rfl, rfl⟩) ?_ ?_
  rotate_left
  ·simp only [Act.put, List.setIfInBounds_toArray, List.set_cons_zero, List.set_cons_succ, Zj, Zl]
   rfl
  refine Yk (i := 11) (N := some 247) (v := undef) (a' := ?_) #[true, true, true, true, true, true, true, true, true, true, true, true, false, false, false, false] rfl rfl (Xy HT_.out (by kernel_rfl)) (fun _ _ _ h => h) (Or.inr ⟨by rfl, rfl⟩) ?_ ?_
  rotate_left
  ·simp only [Act.put, List.setIfInBounds_toArray, List.set_cons_zero, List.set_cons_succ, Zj, Zl]
   rfl
  refine Yk (i := 12) (N := some 248) (v := undef) (a' := ?_) #[true, true, true, true, true, true, true, true, true, true, true, true, true, false, false, false] rfl rfl (Xy HT_.out (by kernel_rfl)) (fun _ _ _ h => h) (Or.inr ⟨by rfl, rfl⟩) ?_ ?_
  rotate_left
  ·simp only [Act.put, List.setIfInBounds_toArray, List.set_cons_zero, List.set_cons_succ, Zj, Zl]
   rfl
  refine Yk (i := 13) (N := some 249) (v := undef) (a' := ?_) #[true, true, true, true, true, true, true, true, true, true, true, true, true, true, false, false] rfl rfl (Xy HT_.out (by kernel_rfl)) (fun _ _ _ h => h) (Or.inr ⟨by rfl, rfl⟩) ?_ ?_
  rotate_left
  ·simp only [Act.put, List.setIfInBounds_toArray, List.set_cons_zero, List.set_cons_succ, Zj, Zl]
   rfl
  refine Yk (i := 14) (N := some 250) (v := undef) (a' := ?_) #[true, true, true, true, true, true, true, true, true, true, true, true, true, true, true, false] rfl rfl (Xy HT_.out (by kernel_rfl)) (fun _ _ _ h => h) (Or.inr ⟨by rfl, rfl⟩) ?_ ?_
  rotate_left
  ·simp only [Act.put, List.setIfInBounds_toArray, List.set_cons_zero, List.set_cons_succ, Zj, Zl]
   rfl
  refine zP 15 (some 251) rfl rfl ?_
  refine Yp (Zu HT_.out (by kernel_rfl)) ?_
  try go_wp2
  go_meet
  case rel => exact ⟨_, (false), zF, H', ⟨by have := pK.out; have := oP.out; have := pU.out; first | omega | exact Nat.le_refl _⟩, ⟨zR bJ.out⟩, ⟨zK aA.out⟩, ⟨zK aC.out⟩, ⟨zK aD.out⟩, ⟨zK aG.out⟩, ⟨zK aH.out⟩, ⟨zK aI.out⟩, ⟨zK aJ.out⟩, ⟨zK aK.out⟩, ⟨zK aM.out⟩, ⟨zK aN.out⟩, ⟨zK aQ.out⟩, ⟨zK aT.out⟩, ⟨zK aU.out⟩, ⟨zK aW.out⟩, ⟨zK bE.out⟩, ⟨(Xh HB.out aV.out aX.out aY.out aZ.out bA.out bB.out bD.out bF.out bG.out bH.out bI.out bM.out bN.out bO.out bV.out)⟩⟩
 case rest => as_aux_lemma =>
 clear uY
 try clear c3
 try clear tJ
 obtain ⟨kq, iW, rfl, HA, vW, bJ, aA, aC, aD, aG, aH, aI, aJ, aK, aM, aN, aQ, aT, aU, aW, bE, HB⟩ := hcut
 cases kq with
 | zero => exact absurd HA.out (by simp [Qe.j3])
 | succ vB =>
 have H := HA.out
 clear HA
 simp only [Qe.j3] at H
 by_cases vC : iW = true
 ·subst vC
  replace H := (if_pos rfl).symm.trans H
  obtain rfl := Option.some.inj H
  cases hr_
 replace vC := Bool.eq_false_iff.mpr vC
 subst vC
 replace H := (if_neg zFf).symm.trans H
 have vD := Qa.mk H
 clear H
 go_upto_region 29 with (fail)
 go_cut [268] (fun aNu wc => ∃ (kq : Nat) (jD : Bool), aNu = .bool jD ∧ Qa (Qe.j4 kq nJ jD bY bZ dI dJ = some r) ∧ Qa (kq ≤ vB) ∧ Qa (wc.heap[bW]? = some (.cells #[.int .i64 bQ, .string bR] 25 (0, 0))) ∧ Qa (wc.heap[bT]? = some (.cells #[.int .i64 dD, .string dE] 25 (0, 0))) ∧ Qa (wc.heap[cK]? = some (.cells #[.int .i64 eB, .string eD] 25 (0, 0))) ∧ Qa (wc.heap[dC]? = some (.cells #[.int .i64 bY, .string bZ] 25 (0, 0))) ∧ Qa (wc.heap[cO]? = some (.cells #[.int .i64 dI, .string dJ] 25 (0, 0))) ∧ Qa (wc.heap[dH]? = some (.cells #[.int .i64 fT, .string fU] 25 (0, 0))) ∧ Qa (wc.heap[cZ]? = some (.cells #[.int .i64 dK, .string dL] 25 (0, 0))) ∧ Qa (wc.heap[cB]? = some (.cells #[.int .i64 dQ, .string dR] 25 (0, 0))) ∧ Qa (wc.heap[dM]? = some (.cells #[.int .i64 gB, .string gD] 25 (0, 0))) ∧ Qa (wc.heap[dO]? = some (.cells #[.int .i64 gF, .string gG] 25 (0, 0))) ∧ Qa (wc.heap[dN]? = some (.cells #[.int .i64 gJ, .string gK] 25 (0, 0))) ∧ Qa (wc.heap[dP]? = some (.cells #[.int .i64 iM, .string iN] 25 (0, 0))) ∧ Qa (wc.heap[dV]? = some (.cells #[.int .i64 iR, .string iT] 25 (0, 0))) ∧ Qa (wc.heap[bK]? = some (.cells #[.int .i64 dF, .string dG] 25 (0, 0))) ∧ Qa (wc.heap[dZ]? = some (.cells #[.int .i64 mF, .string mG] 25 (0, 0))) ∧ Qa (Below w.heap.size w wc))
 case first => as_aux_lemma =>
  have H := vD.out
  clear vD
  by_cases vQ : oM = true
  ·subst vQ
   replace H := (if_pos rfl).symm.trans H
   replace H := V3 H
   rcases H with ⟨aAo, vE, H⟩ | ⟨aAo, H⟩
   ·have aNv : decide (0 < bX.length) = true := decide_eq_true (by omega)
    clear aAo
    (first | rw [vE] | (simp only [Zj, Zl]; rw [vE]) | skip)
    replace H := V3 H
    rcases H with ⟨aAp, aNw, H⟩ | ⟨aAp, H⟩
    ·have aNx : decide (1 < bX.length) = true := decide_eq_true (by omega)
     clear aAp
     replace H := V3 H
     rcases H with ⟨aAq, aNy, H⟩ | ⟨aAq, H⟩
     ·have aNz : decide (2 < bX.length) = true := decide_eq_true (by omega)
      clear aAq
      obtain ⟨aAr, aOa, H⟩ := zO H
      obtain ⟨aAs, aOb, H⟩ := zO H
      have H' := Qa.mk H; clear H
      try go_wp2
      replace bJ := Qa.mk (Kd.R_drew bJ.out)
      replace aA := Qa.mk (Qk aA.out)
      replace aC := Qa.mk (Qk aC.out)
      replace aD := Qa.mk (Qk aD.out)
      replace aG := Qa.mk (Qk aG.out)
      replace aH := Qa.mk (Qk aH.out)
      replace aI := Qa.mk (Qk aI.out)
      replace aJ := Qa.mk (Qk aJ.out)
      replace aK := Qa.mk (Qk aK.out)
      replace aM := Qa.mk (Qk aM.out)
      replace aN := Qa.mk (Qk aN.out)
      replace aQ := Qa.mk (Qk aQ.out)
      replace aT := Qa.mk (Qk aT.out)
      replace aU := Qa.mk (Qk aU.out)
      replace aW := Qa.mk (Qk aW.out)
      replace bE := Qa.mk (Qk bE.out)
      replace HB := Qa.mk (Qo HB.out)
      have wZ : 0 ≤ (0 : Int) := (by omega)
      have xA : 0 < (bX.length : Int) := zA
      obtain ⟨nI, aOc, nE⟩ := Kd.at_int (Kd.R_reads' bJ.out).2.2 0 wZ xA
      cases aOc
      have aUx : (0 < bX.length) = True := eq_true (by omega)
      (try rw [show ((0 : Int)).toNat = 0 from rfl] at nE)
      (try rw [Addr.add_zero'] at nE)
      replace wZ := eq_true wZ
      replace xA := eq_true xA
      have xB : 0 ≤ (1 : Int) := (by omega)
      have xC : 1 < (bX.length : Int) := zA
      obtain ⟨aAt, aOd, nG⟩ := Kd.at_int (Kd.R_reads' bJ.out).2.2 1 xB xC
      obtain rfl : nI = aAt := (by injection aOd)
      (try simp only [show (1 : Int).toNat = 1 from rfl, Nat.reduceMul, Nat.reduceEqDiff, Go.Addr.add, ↓reduceIte] at nG)
      have aUy : (1 < bX.length) = True := eq_true (by omega)
      (try rw [show ((1 : Int)).toNat = 1 from rfl] at nG)
      replace xB := eq_true xB
      replace xC := eq_true xC
      have xD : 0 ≤ (2 : Int) := (by omega)
      have xE : 2 < (bX.length : Int) := zA
      obtain ⟨aAu, aOe, nH⟩ := Kd.at_int (Kd.R_reads' bJ.out).2.2 2 xD xE
      obtain rfl : nI = aAu := (by injection aOe)
      (try simp only [show (2 : Int).toNat = 2 from rfl, Nat.reduceMul, Nat.reduceEqDiff, Go.Addr.add, ↓reduceIte] at nH)
      have aUz : (2 < bX.length) = True := eq_true (by omega)
      (try rw [show ((2 : Int)).toNat = 2 from rfl] at nH)
      replace xD := eq_true xD
      replace xE := eq_true xE
      refine Xe (n := 17) (S := fun w' => w'.cell? ⟨cB, 0, none⟩ = some (.int .i64 dQ) ∧ w'.cell? ⟨cB, 1, none⟩ = some (.string dR) ∧ w'.cell? ⟨cZ, 0, none⟩ = some (.int .i64 dK) ∧ w'.cell? ⟨cZ, 1, none⟩ = some (.string dL) ∧ w'.cell? nI = some (.int .i64 (rd bX 0)) ∧ w'.cell? ⟨nI.block, nI.off + 1, none⟩ = some (.int .i64 (rd bX 1)) ∧ w'.cell? ⟨nI.block, nI.off + 2, none⟩ = some (.int .i64 (rd bX 2))) (ds := []) #[false, false, false, false, false, false, false, false, false, false, false, false, false, false, false, false, false] (by kernel_rfl) rfl rfl ⟨(Qj aK.out 0).trans rfl, (Qj aK.out 1).trans rfl, (Qj aJ.out 0).trans rfl, (Qj aJ.out 1).trans rfl, nE, nG, nH⟩ (fun hHeld => ?_); refine J6 Qe.tab29 Qe.bits29 (fun HT_ HW_ => ?_)
      generalize wc.drew = aWw at bJ aA aC aD aG aH aI aJ aK aM aN aQ aT aU aW bE HB nE nG nH hHeld ⊢
      refine zP 0 (some 252) rfl rfl ?_
      refine zP 1 (some 253) rfl rfl ?_
      refine zP 3 (some 255) rfl rfl ?_
      refine zP 4 (some 256) rfl rfl ?_
      refine zP 6 (some 258) rfl rfl ?_
      refine zP 7 (some 259) rfl rfl ?_
      refine zP 9 (some 261) rfl rfl ?_
      refine zP 10 (some 262) rfl rfl ?_
      refine zY7 2 (some 254) rfl rfl hHeld ?_
      refine zY7 5 (some 257) rfl rfl hHeld ?_
      refine zY7 8 (some 260) rfl rfl hHeld ?_
      refine zY7 11 (some 263) rfl rfl hHeld ?_
      refine zY7 13 (some 265) rfl rfl hHeld ?_
      refine zU 12 (some 264) rfl rfl (fun K hK => ?_)
      refine X0 Tryz.func22 (by kernel_rfl) rfl #[.agg #[.int .i64 dQ, .string dR], .int .i64 (rd bX 0), .int .i64 (rd bX 1), .int .i64 (rd bX 2)] (by rfl) rfl rfl zM ?_
      with_reducible refine (J2.calls vB dQ dR (rd bX 0) (rd bX 1) (rd bX 2) aAr _ aOa.out).mono ?_
      rintro e aWx ⟨rfl, hb⟩
      have pO := (hb.cell (World.block_lt_of_cell? _ _ (hHeld.2.2.2.2.1))).trans (hHeld.2.2.2.2.1)
      have pQ := (hb.cell (World.block_lt_of_cell? _ _ (hHeld.2.2.2.2.2.1))).trans (hHeld.2.2.2.2.2.1)
      have pR := (hb.cell (World.block_lt_of_cell? _ _ (hHeld.2.2.2.2.2.2))).trans (hHeld.2.2.2.2.2.2)
      refine ⟨_, rfl, ?_⟩
      replace bJ := zW bJ.out hb
      replace aA := zV aA.out hb
      replace aC := zV aC.out hb
      replace aD := zV aD.out hb
      replace aG := zV aG.out hb
      replace aH := zV aH.out hb
      replace aI := zV aI.out hb
      replace aJ := zV aJ.out hb
      replace aK := zV aK.out hb
      replace aM := zV aM.out hb
      replace aN := zV aN.out hb
      replace aQ := zV aQ.out hb
      replace aT := zV aT.out hb
      replace aU := zV aU.out hb
      replace aW := zV aW.out hb
      replace bE := zV bE.out hb
      replace HB := Qa.mk (Qg (Xh HB.out aV.out aX.out aY.out aZ.out bA.out bB.out bD.out bF.out bG.out bH.out bI.out bM.out bN.out bO.out bV.out) hb)
      (try clear hb)
      refine hK.out _ _ ⟨(Qj aK.out 0).trans rfl, (Qj aK.out 1).trans rfl, (Qj aJ.out 0).trans rfl, (Qj aJ.out 1).trans rfl, pO, pQ, pR⟩ (fun hHeld => ?_)
      clear hK K
      refine zN ?_
      refine zU 14 (some 266) rfl rfl (fun K hK => ?_)
      refine X0 Tryz.func22 (by kernel_rfl) rfl #[.agg #[.int .i64 dK, .string dL], .int .i64 0, .int .i64 1, .int .i64 2] (by rfl) rfl rfl zM ?_
      with_reducible refine (J2.calls vB dK dL 0 1 2 aAs _ aOb.out).mono ?_
      rintro e aWy ⟨rfl, hb⟩
      have pO := (hb.cell (World.block_lt_of_cell? _ _ (hHeld.2.2.2.2.1))).trans (hHeld.2.2.2.2.1)
      have pQ := (hb.cell (World.block_lt_of_cell? _ _ (hHeld.2.2.2.2.2.1))).trans (hHeld.2.2.2.2.2.1)
      have pR := (hb.cell (World.block_lt_of_cell? _ _ (hHeld.2.2.2.2.2.2))).trans (hHeld.2.2.2.2.2.2)
      refine ⟨_, rfl, ?_⟩
      replace bJ := zW bJ.out hb
      replace aA := zV aA.out hb
      replace aC := zV aC.out hb
      replace aD := zV aD.out hb
      replace aG := zV aG.out hb
      replace aH := zV aH.out hb
      replace aI := zV aI.out hb
      replace aJ := zV aJ.out hb
      replace aK := zV aK.out hb
      replace aM := zV aM.out hb
      replace aN := zV aN.out hb
      replace aQ := zV aQ.out hb
      replace aT := zV aT.out hb
      replace aU := zV aU.out hb
      replace aW := zV aW.out hb
      replace bE := zV bE.out hb
      replace HB := Qa.mk (Qg (Xh HB.out aV.out aX.out aY.out aZ.out bA.out bB.out bD.out bF.out bG.out bH.out bI.out bM.out bN.out bO.out bV.out) hb)
      (try clear hb)
      refine hK.out _ _ ⟨(Qj aK.out 0).trans rfl, (Qj aK.out 1).trans rfl, (Qj aJ.out 0).trans rfl, (Qj aJ.out 1).trans rfl, pO, pQ, pR⟩ (fun hHeld => ?_)
      clear hK K
      refine zN ?_
      refine zP 15 (some 267) rfl rfl ?_
      refine zP 16 (some 268) rfl rfl ?_
      refine Yp (Zu HT_.out (by kernel_rfl)) ?_
      try go_wp2
      go_meet
      case rel => exact ⟨_, ((aAr != aAs)), zF, H', ⟨by have := pK.out; have := oP.out; have := pU.out; have := vW.out; first | omega | exact Nat.le_refl _⟩, ⟨zK aA.out⟩, ⟨zK aC.out⟩, ⟨zK aD.out⟩, ⟨zK aG.out⟩, ⟨zK aH.out⟩, ⟨zK aI.out⟩, ⟨zK aJ.out⟩, ⟨zK aK.out⟩, ⟨zK aM.out⟩, ⟨zK aN.out⟩, ⟨zK aQ.out⟩, ⟨zK aT.out⟩, ⟨zK aU.out⟩, ⟨zK aW.out⟩, ⟨zK bE.out⟩, ⟨(Xh HB.out aV.out aX.out aY.out aZ.out bA.out bB.out bD.out bF.out bG.out bH.out bI.out bM.out bN.out bO.out bV.out)⟩⟩
     exact absurd H (by simp)
    exact absurd H (by simp)
   exact absurd H (by simp)
  replace vQ := Bool.eq_false_iff.mpr vQ
  subst vQ
  replace H := (if_neg zFf).symm.trans H
  have H' := Qa.mk H; clear H
  try go_wp2
  replace bJ := Qa.mk (Kd.R_drew bJ.out)
  replace aA := Qa.mk (Qk aA.out)
  replace aC := Qa.mk (Qk aC.out)
  replace aD := Qa.mk (Qk aD.out)
  replace aG := Qa.mk (Qk aG.out)
  replace aH := Qa.mk (Qk aH.out)
  replace aI := Qa.mk (Qk aI.out)
  replace aJ := Qa.mk (Qk aJ.out)
  replace aK := Qa.mk (Qk aK.out)
  replace aM := Qa.mk (Qk aM.out)
  replace aN := Qa.mk (Qk aN.out)
  replace aQ := Qa.mk (Qk aQ.out)
  replace aT := Qa.mk (Qk aT.out)
  replace aU := Qa.mk (Qk aU.out)
  replace aW := Qa.mk (Qk aW.out)
  replace bE := Qa.mk (Qk bE.out)
  replace HB := Qa.mk (Qo HB.out)
  refine Xe (n := 17) (S := fun w' => True) (ds := []) #[false, false, false, false, false, false, false, false, false, false, false, false, false, false, false, false, false] (by kernel_rfl) rfl rfl trivial (fun hHeld => ?_); refine J6 Qe.tab29 Qe.bits29 (fun HT_ HW_ => ?_)
  generalize wc.drew = aWz at bJ aA aC aD aG aH aI aJ aK aM aN aQ aT aU aW bE HB hHeld ⊢
  refine zP 0 (some 252) rfl rfl ?_
  refine zP 1 (some 253) rfl rfl ?_
  refine Yk (i := 2) (N := some 254) (v := undef) (a' := ?_) #[true, true, true, false, false, false, false, false, false, false, false, false, false, false, false, false, false] rfl rfl (Xy HT_.out (by kernel_rfl)) (fun _ _ _ h => h) (Or.inr ⟨by rfl, rfl⟩) ?_ ?_
  rotate_left
  ·simp only [Act.put, List.setIfInBounds_toArray, List.set_cons_zero, List.set_cons_succ, Zj, Zl]
   rfl
  refine Yk (i := 3) (N := some 255) (v := undef) (a' := ?_) #[true, true, true, true, false, false, false, false, false, false, false, false, false, false, false, false, false] rfl rfl (Xy HT_.out (by kernel_rfl)) (fun _ _ _ h => h) (Or.inr ⟨by rfl, rfl⟩) ?_ ?_
  rotate_left
  ·simp only [Act.put, List.setIfInBounds_toArray, List.set_cons_zero, List.set_cons_succ, Zj, Zl]
   rfl
  refine Yk (i := 4) (N := some 256) (v := undef) (a' := ?_) #[true, true, true, true, true, false, false, false, false, false, false, false, false, false, false, false, false] rfl rfl (Xy HT_.out (by kernel_rfl)) (fun _ _ _ h => h) (Or.inr ⟨by rfl, rfl⟩) ?_ ?_
  rotate_left
  ·simp only [Act.put, List.setIfInBounds_toArray, List.set_cons_zero, List.set_cons_succ, Zj, Zl]
   rfl
  refine Yk (i := 5) (N := some 257) (v := undef) (a' := ?_) #[true, true, true, true, true, true, false, false, false, false, false, false, false, false, false, false, false] rfl rfl (Xy HT_.out (by kernel_rfl)) (fun _ _ _ h => h) (Or.inr ⟨by rfl, rfl⟩) ?_ ?_
  rotate_left
  ·simp only [Act.put, List.setIfInBounds_toArray, List.set_cons_zero, List.set_cons_succ, Zj, Zl]
   rfl
  refine Yk (i := 6) (N := some 258) (v := undef) (a' := ?_) #[true, true, true, true, true, true, true, false, false, false, false, false, false, false, false, false, false] rfl rfl (Xy HT_.out (by kernel_rfl)) (fun _ _ _ h => h) (Or.inr ⟨by rfl, rfl⟩) ?_ ?_
  rotate_left
  ·simp only [Act.put, List.setIfInBounds_toArray, List.set_cons_zero, List.set_cons_succ, Zj, Zl]
   rfl
  refine Yk (i := 7) (N := some 259) (v := undef) (a' := ?_) #[true, true, true, true, true, true, true, true, false, false, false, false, false, false, false, false, false] rfl rfl (Xy HT_.out (by kernel_rfl)) (fun _ _ _ h => h) (Or.inr ⟨by rfl, rfl⟩) ?_ ?_
  rotate_left
  ·simp only [Act.put, List.setIfInBounds_toArray, List.set_cons_zero, List.set_cons_succ, Zj, Zl]
   rfl
  refine Yk (i := 8) (N := some 260) (v := undef) (a' := ?_) #[true, true, true, true, true, true, true, true, true, false, false, false, false, false, false, false, false] rfl rfl (Xy HT_.out (by kernel_rfl)) (fun _ _ _ h => h) (Or.inr ⟨by rfl, rfl⟩) ?_ ?_
  rotate_left
  ·simp only [Act.put, List.setIfInBounds_toArray, List.set_cons_zero, List.set_cons_succ, Zj, Zl]
   rfl
  refine Yk (i := 9) (N := some 261) (v := undef) (a' := ?_) #[true, true, true, true, true, true, true, true, true, true, false, false, false, false, false, false, false] rfl rfl (Xy HT_.out (by kernel_rfl)) (fun _ _ _ h => h) (Or.inr ⟨by rfl, rfl⟩) ?_ ?_
  rotate_left
  ·simp only [Act.put, List.setIfInBounds_toArray, List.set_cons_zero, List.set_cons_succ, Zj, Zl]
   rfl
  refine Yk (i := 10) (N := some 262) (v := undef) (a' := ?_) #[true, true, true, true, true, true, true, true, true, true, true, false, false, false, false, false, false] rfl rfl (Xy HT_.out (by kernel_rfl)) (fun _ _ _ h => h) (Or.inr ⟨by rfl, rfl⟩) ?_ ?_
  rotate_left
  ·simp only [Act.put, List.setIfInBounds_toArray, List.set_cons_zero, List.set_cons_succ, Zj, Zl]
   rfl
  refine Yk (i := 11) (N := some 263) (v := undef) (a' := ?_) #[true, true, true, true, true, true, true, true, true, true, true, true, false, false, false, false, false] rfl rfl (Xy HT_.out (by kernel_rfl)) (fun _ _ _ h => h) (Or.inr ⟨by rfl, rfl⟩) ?_ ?_
  rotate_left
  ·simp only [Act.put, List.setIfInBounds_toArray, List.set_cons_zero, List.set_cons_succ, Zj, Zl]
   rfl
  refine Yk (i := 12) (N := some 264) (v := undef) (a' := ?_) #[true, true, true, true, true, true, true, true, true, true, true, true, true, false, false, false, false] rfl rfl (Xy HT_.out (by kernel_rfl)) (fun _ _ _ h => h) (Or.inr ⟨by rfl, rfl⟩) ?_ ?_
  rotate_left
  ·simp only [Act.put, List.setIfInBounds_toArray, List.set_cons_zero, List.set_cons_succ, Zj, Zl]
   rfl
  refine Yk (i := 13) (N := some 265) (v := undef) (a' := ?_) #[true, true, true, true, true, true, true, true, true, true, true, true, true, true, false, false, false] rfl rfl (Xy HT_.out (by kernel_rfl)) (fun _ _ _ h => h) (Or.inr ⟨by rfl, rfl⟩) ?_ ?_
  rotate_left
  ·simp only [Act.put, List.setIfInBounds_toArray, List.set_cons_zero, List.set_cons_succ, Zj, Zl]
   rfl
  refine Yk (i := 14) (N := some 266) (v := undef) (a' := ?_) #[true, true, true, true, true, true, true, true, true, true, true, true, true, true, true, false, false] rfl rfl (Xy HT_.out (by kernel_rfl)) (fun _ _ _ h => h) (Or.inr ⟨by rfl, rfl⟩) ?_ ?_
  rotate_left
  ·simp only [Act.put, List.setIfInBounds_toArray, List.set_cons_zero, List.set_cons_succ, Zj, Zl]
   rfl
  refine Yk (i := 15) (N := some 267) (v := undef) (a' := ?_) #[true, true, true, true, true, true, true, true, true, true, true, true, true, true, true, true, false] rfl rfl (Xy HT_.out (by kernel_rfl)) (fun _ _ _ h => h) (Or.inr ⟨by rfl, rfl⟩) ?_ ?_
  rotate_left
  ·simp only [Act.put, List.setIfInBounds_toArray, List.set_cons_zero, List.set_cons_succ, Zj, Zl]
   rfl
  refine zP 16 (some 268) rfl rfl ?_
  refine Yp (Zu HT_.out (by kernel_rfl)) ?_
  try go_wp2
  go_meet
  case rel => exact ⟨_, (false), zF, H', ⟨by have := pK.out; have := oP.out; have := pU.out; have := vW.out; first | omega | exact Nat.le_refl _⟩, ⟨zK aA.out⟩, ⟨zK aC.out⟩, ⟨zK aD.out⟩, ⟨zK aG.out⟩, ⟨zK aH.out⟩, ⟨zK aI.out⟩, ⟨zK aJ.out⟩, ⟨zK aK.out⟩, ⟨zK aM.out⟩, ⟨zK aN.out⟩, ⟨zK aQ.out⟩, ⟨zK aT.out⟩, ⟨zK aU.out⟩, ⟨zK aW.out⟩, ⟨zK bE.out⟩, ⟨(Xh HB.out aV.out aX.out aY.out aZ.out bA.out bB.out bD.out bF.out bG.out bH.out bI.out bM.out bN.out bO.out bV.out)⟩⟩
 case rest => as_aux_lemma =>
 clear vD
 try clear c3
 try clear tJ
 try clear vC
 obtain ⟨kq, jD, rfl, HA, aVa, aA, aC, aD, aG, aH, aI, aJ, aK, aM, aN, aQ, aT, aU, aW, bE, HB⟩ := hcut
 cases kq with
 | zero => exact absurd HA.out (by simp [Qe.j4])
 | succ vF =>
 have H := HA.out
 clear HA
 simp only [Qe.j4] at H
 by_cases vR : jD = true
 ·subst vR
  replace H := (if_pos rfl).symm.trans H
  obtain rfl := Option.some.inj H
  cases hr_
 replace vR := Bool.eq_false_iff.mpr vR
 subst vR
 replace H := (if_neg zFf).symm.trans H
 by_cases vS : nJ = true
 ·subst vS
  replace H := (if_pos rfl).symm.trans H
  obtain ⟨⟨dS, dU, aOf⟩, aOg, H⟩ := zO H
  dsimp only at H
  replace H := X8 H
  rcases H with ⟨nK, H⟩ | ⟨nK, H⟩
  ·have xG : (dS == bY && (dU.toList == bZ.toList)) = true := nK
   (try (have xH : decide (dS = bY && (dU.toList == bZ.toList)) = true := by simpa using nK))
   (try (have xI : (dS == bY && (dU.toList == bZ.toList)) = true := by simpa using nK))
   clear nK
   obtain ⟨aOh, aOi, H⟩ := zO H
   obtain ⟨aOj, aOk, H⟩ := zO H
   obtain rfl := Option.some.inj H
   have aOl := fV.out
   have aOm := dW.out
   have aOn := nL.out
   have aOo := gP.out
   have aOp := nM.out
   have aOq := gQ.out
   have aOr := nN.out
   have aOs := gT.out
   have aOt := gV.out
   have aOu := nO.out
   have aOv := gX.out
   have aOw := nP.out
   have aOx := gZ.out
   have aOy := nQ.out
   have aOz := iB.out
   have aPa := nR.out
   have aPb := iD.out
   have aPc := nS.out
   have aPd := iF.out
   have aPe := nT.out
   have aPf := iH.out
   have aPg := nU.out
   have aPh := iJ.out
   have aPi := nV.out
   have aPj := iL.out
   have aPk := nW.out
   have aPl := dY.out
   have aPm := mI.out
   obtain ⟨aAv, aAw, aAx, aAy⟩ := zq2 aH.out
   try go_wp2_with (first | ((with_reducible refine Qd (f := 11) rfl ?_); refine zD (some 273) Tryz.func11 _ ((Jk.calls vF dI dJ dS dU aOf _ aOg.out).mono ?_); rintro e aXa ⟨rfl, hb⟩; refine ⟨_, rfl, ?_⟩; replace aA := zV aA.out hb; replace aC := zV aC.out hb; replace aD := zV aD.out hb; replace aG := zV aG.out hb; replace aH := zV aH.out hb; replace aI := zV aI.out hb; replace aJ := zV aJ.out hb; replace aK := zV aK.out hb; replace aM := zV aM.out hb; replace aN := zV aN.out hb; replace aQ := zV aQ.out hb; replace aT := zV aT.out hb; replace aU := zV aU.out hb; replace aW := zV aW.out hb; replace bE := zV bE.out hb; replace HB := Qa.mk (Qg (Xh HB.out aV.out aX.out aY.out aZ.out bA.out bB.out bD.out bF.out bG.out bH.out bI.out bM.out bN.out bO.out bV.out) hb); (try clear hb)) | ((with_reducible refine Qm (N := 37) rfl ?_); refine zBx (N := 37) #[.int .i64 0, .string (⟨#[]⟩ : ByteArray)] 25 ?_; intro bP hg gI hbox hb; have fQ := Qa.mk (hbox); have aVb := Qa.mk ((by rw [hg]; exact (Q6 (Xh HB.out aV.out aX.out aY.out aZ.out bA.out bB.out bD.out bF.out bG.out bH.out bI.out bM.out bN.out bO.out bV.out)) : w.heap.size ≤ bP)); have pV := Qa.mk ((by rw [hg]; exact (Q6 (Xh HB.out aV.out aX.out aY.out aZ.out bA.out bB.out bD.out bF.out bG.out bH.out bI.out bM.out bN.out bO.out bV.out)) : w.heap.size ≤ bP)); have mJ := zL hg aA.out; have tK := zLg hg aA.out; replace aA := zV aA.out hb; have mK := zL hg aC.out; have tL := zLg hg aC.out; replace aC := zV aC.out hb; have mM := zL hg aD.out; have tN := zLg hg aD.out; replace aD := zV aD.out hb; have mO := zL hg aG.out; have tO := zLg hg aG.out; replace aG := zV aG.out hb; have mP := zL hg aH.out; have tQ := zLg hg aH.out; replace aH := zV aH.out hb; have mQ := zL hg aI.out; have tT := zLg hg aI.out; replace aI := zV aI.out hb; have mR := zL hg aJ.out; have tV := zLg hg aJ.out; replace aJ := zV aJ.out hb; have mU := zL hg aK.out; have tX := zLg hg aK.out; replace aK := zV aK.out hb; have mV := zL hg aM.out; have tY := zLg hg aM.out; replace aM := zV aM.out hb; have mW := zL hg aN.out; have tZ := zLg hg aN.out; replace aN := zV aN.out hb; have mX := zL hg aQ.out; have uA := zLg hg aQ.out; replace aQ := zV aQ.out hb; have mY := zL hg aT.out; have uB := zLg hg aT.out; replace aT := zV aT.out hb; have mZ := zL hg aU.out; have uC := zLg hg aU.out; replace aU := zV aU.out hb; have nA := zL hg aW.out; have uD := zLg hg aW.out; replace aW := zV aW.out hb; have nC := zL hg bE.out; have uE := zLg hg bE.out; replace bE := zV bE.out hb; replace HB := Qa.mk (Qg (Xh HB.out aV.out aX.out aY.out aZ.out bA.out bB.out bD.out bF.out bG.out bH.out bI.out bM.out bN.out bO.out bV.out) hb); clear hb hbox hg; have aPn := tK.out; have aPo := mJ.out; have aPp := tL.out; have aPq := mK.out; have aPr := tN.out; have aPs := mM.out; have aPt := tO.out; have aPu := mO.out; have aPv := tQ.out; have aPw := mP.out; have aPx := tT.out; have aPy := mQ.out; have aPz := tV.out; have aQa := mR.out; have aQb := tX.out; have aQc := mU.out; have aQd := tY.out; have aQe := mV.out; have aQf := tZ.out; have aQg := mW.out; have aQh := uA.out; have aQi := mX.out; have aQj := uB.out; have aQk := mY.out; have aQl := uC.out; have aQm := mZ.out; have aQn := uD.out; have aQo := nA.out; have aQp := uE.out; have aQq := nC.out; obtain ⟨aAz, aBa, aBb, aBc⟩ := zq2 fQ.out))
   have wG : Qa (((gI.setCell ⟨bP, 0, none⟩ (.int .i64 dS)).setCell ⟨bP, 1, none⟩ (.string dU)).heap[bW]? = some (.cells #[.int .i64 bQ, .string bR] 25 (0, 0))) := ⟨zk2 aA.out mJ.out mJ.out⟩
   have wH : Qa (((gI.setCell ⟨bP, 0, none⟩ (.int .i64 dS)).setCell ⟨bP, 1, none⟩ (.string dU)).heap[bT]? = some (.cells #[.int .i64 dD, .string dE] 25 (0, 0))) := ⟨zk2 aC.out mK.out mK.out⟩
   have wI : Qa (((gI.setCell ⟨bP, 0, none⟩ (.int .i64 dS)).setCell ⟨bP, 1, none⟩ (.string dU)).heap[cK]? = some (.cells #[.int .i64 eB, .string eD] 25 (0, 0))) := ⟨zk2 aD.out mM.out mM.out⟩
   have wJ : Qa (((gI.setCell ⟨bP, 0, none⟩ (.int .i64 dS)).setCell ⟨bP, 1, none⟩ (.string dU)).heap[dC]? = some (.cells #[.int .i64 bY, .string bZ] 25 (0, 0))) := ⟨zk2 aG.out mO.out mO.out⟩
   have wK : Qa (((gI.setCell ⟨bP, 0, none⟩ (.int .i64 dS)).setCell ⟨bP, 1, none⟩ (.string dU)).heap[cO]? = some (.cells #[.int .i64 dI, .string dJ] 25 (0, 0))) := ⟨zk2 aH.out mP.out mP.out⟩
   have wL : Qa (((gI.setCell ⟨bP, 0, none⟩ (.int .i64 dS)).setCell ⟨bP, 1, none⟩ (.string dU)).heap[dH]? = some (.cells #[.int .i64 fT, .string fU] 25 (0, 0))) := ⟨zk2 aI.out mQ.out mQ.out⟩
   have wM : Qa (((gI.setCell ⟨bP, 0, none⟩ (.int .i64 dS)).setCell ⟨bP, 1, none⟩ (.string dU)).heap[cZ]? = some (.cells #[.int .i64 dK, .string dL] 25 (0, 0))) := ⟨zk2 aJ.out mR.out mR.out⟩
   have wN : Qa (((gI.setCell ⟨bP, 0, none⟩ (.int .i64 dS)).setCell ⟨bP, 1, none⟩ (.string dU)).heap[cB]? = some (.cells #[.int .i64 dQ, .string dR] 25 (0, 0))) := ⟨zk2 aK.out mU.out mU.out⟩
   have wO : Qa (((gI.setCell ⟨bP, 0, none⟩ (.int .i64 dS)).setCell ⟨bP, 1, none⟩ (.string dU)).heap[dM]? = some (.cells #[.int .i64 gB, .string gD] 25 (0, 0))) := ⟨zk2 aM.out mV.out mV.out⟩
   have wP : Qa (((gI.setCell ⟨bP, 0, none⟩ (.int .i64 dS)).setCell ⟨bP, 1, none⟩ (.string dU)).heap[dO]? = some (.cells #[.int .i64 gF, .string gG] 25 (0, 0))) := ⟨zk2 aN.out mW.out mW.out⟩
   have oW : Qa (((gI.setCell ⟨bP, 0, none⟩ (.int .i64 dS)).setCell ⟨bP, 1, none⟩ (.string dU)).heap[dN]? = some (.cells #[.int .i64 gJ, .string gK] 25 (0, 0))) := ⟨zk2 aQ.out mX.out mX.out⟩
   have oZ : Qa (((gI.setCell ⟨bP, 0, none⟩ (.int .i64 dS)).setCell ⟨bP, 1, none⟩ (.string dU)).heap[dP]? = some (.cells #[.int .i64 iM, .string iN] 25 (0, 0))) := ⟨zk2 aT.out mY.out mY.out⟩
   have pE : Qa (((gI.setCell ⟨bP, 0, none⟩ (.int .i64 dS)).setCell ⟨bP, 1, none⟩ (.string dU)).heap[dV]? = some (.cells #[.int .i64 iR, .string iT] 25 (0, 0))) := ⟨zk2 aU.out mZ.out mZ.out⟩
   have pF : Qa (((gI.setCell ⟨bP, 0, none⟩ (.int .i64 dS)).setCell ⟨bP, 1, none⟩ (.string dU)).heap[bK]? = some (.cells #[.int .i64 dF, .string dG] 25 (0, 0))) := ⟨zk2 aW.out nA.out nA.out⟩
   have pG : Qa (((gI.setCell ⟨bP, 0, none⟩ (.int .i64 dS)).setCell ⟨bP, 1, none⟩ (.string dU)).heap[dZ]? = some (.cells #[.int .i64 mF, .string mG] 25 (0, 0))) := ⟨zk2 bE.out nC.out nC.out⟩
   have pI : Qa (((gI.setCell ⟨bP, 0, none⟩ (.int .i64 dS)).setCell ⟨bP, 1, none⟩ (.string dU)).heap[bP]? = some (.cells #[.int .i64 dS, .string dU] 25 (0, 0))) := ⟨zk0 fQ.out⟩
   have pJ : Qa (Below w.heap.size w ((gI.setCell ⟨bP, 0, none⟩ (.int .i64 dS)).setCell ⟨bP, 1, none⟩ (.string dU))) := ⟨(jCk HB.out aV.out aX.out aY.out aZ.out bA.out bB.out bD.out bF.out bG.out bH.out bI.out bM.out bN.out bO.out bV.out pV.out)⟩
   (try clear aA)
   (try clear aC)
   (try clear aD)
   (try clear aG)
   (try clear aH)
   (try clear aI)
   (try clear aJ)
   (try clear aK)
   (try clear aM)
   (try clear aN)
   (try clear aQ)
   (try clear aT)
   (try clear aU)
   (try clear aW)
   (try clear bE)
   (try clear fQ)
   (try clear HB)
   generalize ((gI.setCell ⟨bP, 0, none⟩ (.int .i64 dS)).setCell ⟨bP, 1, none⟩ (.string dU)) = aQr at wG wH wI wJ wK wL wM wN wO wP oW oZ pE pF pG pI pJ ⊢
   have aA := wG
   have aC := wH
   have aD := wI
   have aG := wJ
   have aH := wK
   have aI := wL
   have aJ := wM
   have aK := wN
   have aM := wO
   have aN := wP
   have aQ := oW
   have aT := oZ
   have aU := pE
   have aW := pF
   have bE := pG
   have fQ := pI
   have HB := pJ
   clear wG wH wI wJ wK wL wM wN wO wP oW oZ pE pF pG pI pJ
   replace aA := Qa.mk (Qk aA.out)
   replace aC := Qa.mk (Qk aC.out)
   replace aD := Qa.mk (Qk aD.out)
   replace aG := Qa.mk (Qk aG.out)
   replace aH := Qa.mk (Qk aH.out)
   replace aI := Qa.mk (Qk aI.out)
   replace aJ := Qa.mk (Qk aJ.out)
   replace aK := Qa.mk (Qk aK.out)
   replace aM := Qa.mk (Qk aM.out)
   replace aN := Qa.mk (Qk aN.out)
   replace aQ := Qa.mk (Qk aQ.out)
   replace aT := Qa.mk (Qk aT.out)
   replace aU := Qa.mk (Qk aU.out)
   replace aW := Qa.mk (Qk aW.out)
   replace bE := Qa.mk (Qk bE.out)
   replace fQ := Qa.mk (Qk fQ.out)
   replace HB := Qa.mk (Qo HB.out)
   refine Xe (n := 12) (S := fun w' => w'.cell? ⟨bP, 0, none⟩ = some (.int .i64 dS) ∧ w'.cell? ⟨bP, 1, none⟩ = some (.string dU) ∧ w'.cell? ⟨dC, 0, none⟩ = some (.int .i64 bY) ∧ w'.cell? ⟨dC, 1, none⟩ = some (.string bZ) ∧ w'.cell? ⟨cO, 0, none⟩ = some (.int .i64 dI) ∧ w'.cell? ⟨cO, 1, none⟩ = some (.string dJ)) (ds := []) #[false, false, false, false, false, false, false, false, false, false, false, false] (by kernel_rfl) rfl rfl ⟨(Qj fQ.out 0).trans rfl, (Qj fQ.out 1).trans rfl, (Qj aG.out 0).trans rfl, (Qj aG.out 1).trans rfl, (Qj aH.out 0).trans rfl, (Qj aH.out 1).trans rfl⟩ (fun hHeld => ?_); refine J6 Qe.tab34 Qe.bits34 (fun HT_ HW_ => ?_)
   generalize aQr.drew = aXb at aA aC aD aG aH aI aJ aK aM aN aQ aT aU aW bE fQ HB hHeld ⊢
   refine zY6 0 (some 276) rfl rfl hHeld ?_
   refine zY6 1 (some 277) rfl rfl hHeld ?_
   refine zP 2 (some 278) rfl rfl ?_
   refine zP 3 (some 279) rfl rfl ?_
   refine zY6 4 (some 280) rfl rfl hHeld ?_
   refine zY6 6 (some 282) rfl rfl hHeld ?_
   refine zU 5 (some 281) rfl rfl (fun K hK => ?_)
   refine X0 Tryz.func22 (by kernel_rfl) rfl #[.agg #[.int .i64 dI, .string dJ], .int .i64 0, .int .i64 1, .int .i64 2] (by rfl) rfl rfl zM ?_
   with_reducible refine (J2.calls vF dI dJ 0 1 2 aOh _ aOi.out).mono ?_
   rintro e aXc ⟨rfl, hb⟩
   refine ⟨_, rfl, ?_⟩
   replace aA := zV aA.out hb
   replace aC := zV aC.out hb
   replace aD := zV aD.out hb
   replace aG := zV aG.out hb
   replace aH := zV aH.out hb
   replace aI := zV aI.out hb
   replace aJ := zV aJ.out hb
   replace aK := zV aK.out hb
   replace aM := zV aM.out hb
   replace aN := zV aN.out hb
   replace aQ := zV aQ.out hb
   replace aT := zV aT.out hb
   replace aU := zV aU.out hb
   replace aW := zV aW.out hb
   replace bE := zV bE.out hb
   replace fQ := zV fQ.out hb
   replace HB := Qa.mk (Qg (jCk HB.out aV.out aX.out aY.out aZ.out bA.out bB.out bD.out bF.out bG.out bH.out bI.out bM.out bN.out bO.out bV.out pV.out) hb)
   (try clear hb)
   refine hK.out _ _ (zh fQ.out (zh aG.out (zh2 aH.out))) (fun hHeld => ?_)
   clear hK K
   refine zN ?_
   refine zU 7 (some 283) rfl rfl (fun K hK => ?_)
   refine X0 Tryz.func22 (by kernel_rfl) rfl #[.agg #[.int .i64 bY, .string bZ], .int .i64 0, .int .i64 1, .int .i64 2] (by rfl) rfl rfl zM ?_
   with_reducible refine (J2.calls vF bY bZ 0 1 2 aOj _ aOk.out).mono ?_
   rintro e aXd ⟨rfl, hb⟩
   refine ⟨_, rfl, ?_⟩
   replace aA := zV aA.out hb
   replace aC := zV aC.out hb
   replace aD := zV aD.out hb
   replace aG := zV aG.out hb
   replace aH := zV aH.out hb
   replace aI := zV aI.out hb
   replace aJ := zV aJ.out hb
   replace aK := zV aK.out hb
   replace aM := zV aM.out hb
   replace aN := zV aN.out hb
   replace aQ := zV aQ.out hb
   replace aT := zV aT.out hb
   replace aU := zV aU.out hb
   replace aW := zV aW.out hb
   replace bE := zV bE.out hb
   replace fQ := zV fQ.out hb
   replace HB := Qa.mk (Qg (jCk HB.out aV.out aX.out aY.out aZ.out bA.out bB.out bD.out bF.out bG.out bH.out bI.out bM.out bN.out bO.out bV.out pV.out) hb)
   (try clear hb)
   refine hK.out _ _ (zh fQ.out (zh aG.out (zh2 aH.out))) (fun hHeld => ?_)
   clear hK K
   refine zN ?_
   refine zP 8 (some 284) rfl rfl ?_
   refine zP 9 (some 285) rfl rfl ?_
   refine zP 10 (some 286) rfl rfl ?_
   refine zP 11 (some 2) rfl rfl ?_
   refine Yp (Zu HT_.out (by kernel_rfl)) ?_
   try go_wp2
   go_ret
   exact ⟨zE, (jCk HB.out aV.out aX.out aY.out aZ.out bA.out bB.out bD.out bF.out bG.out bH.out bI.out bM.out bN.out bO.out bV.out pV.out)⟩
  have xG : (dS == bY && (dU.toList == bZ.toList)) = false := by simpa using nK
  (try (have xH : decide (dS = bY && (dU.toList == bZ.toList)) = false := by simpa using nK))
  (try (have xI : (dS == bY && (dU.toList == bZ.toList)) = false := by simpa using nK))
  (try (have aQs : ¬ (dS = bY && (dU.toList == bZ.toList)) := by simpa using nK))
  clear nK
  obtain rfl := Option.some.inj H
  cases hr_
 replace vS := Bool.eq_false_iff.mpr vS
 subst vS
 replace H := (if_neg zFf).symm.trans H
 obtain rfl := Option.some.inj H
 go_wp2
 go_ret
 exact ⟨zE, (Xh HB.out aV.out aX.out aY.out aZ.out bA.out bB.out bD.out bF.out bG.out bH.out bI.out bM.out bN.out bO.out bV.out)⟩
end Go.Proofs.YtckkfjdkaimmhaaGreatDoor.PX
namespace Go.Proofs.YtckkfjdkaimmhaaGreatDoor.M
open Go.RowKit Go.Proofs.YtckkfjdkaimmhaaGreatDoorW.PrintWords
section
variable {α β : Type} {r : α} {r' : β}
theorem Qq {c : Prop} [Decidable c] {a b : Nat → Option α} (h : c) (k : Ev a r) : Ev (fun n => if c then a n else b n) r := Ev.congr (fun _ => if_pos h) k
theorem Q7 {c : Prop} [Decidable c] {a b : Nat → Option α} (h : ¬ c) (k : Ev b r) : Ev (fun n => if c then a n else b n) r := Ev.congr (fun _ => if_neg h) k
theorem Jn {x : Option α} {a : α} {f : Nat → α → Option β} (h : x = some a) (k : Ev (fun n => f n a) r') : Ev (fun n => x.bind (f n)) r' := Ev.congr (fun n => by rw [h]; rfl) k
theorem Zn {g : Nat → Option α} {a b : α} (h : Ev g a) (e : a = b) : Ev g b := e ▸ h
theorem Q9 {g : Nat → Option α} (k : Ev (fun n => g (n + 1)) r) : Ev g r := Ev.step (fun _ => rfl) k
end
theorem Jb {x : Int} (h0 : -9223372036854775808 ≤ x) (h1 : x ≤ 9223372036854775807) : wrap64 x = x := by unfold wrap64; omega
theorem Zm (t : ByteArray) : t.size = t.data.toList.length := rfl
theorem K6 {t : ByteArray} {i : Nat} (h : i < t.data.toList.length) : bt t (i : Int) = ((t.data.toList[i]).toNat : Int) := by
 have h' : i < t.size := h
 unfold bt
 simp only [Int.toNat_natCast, h', dite_true]
 rfl
def jDw (c : UInt8) : Bool := c = 43 || c = 45
def jF6 (n : Int) : Int := wrap64 (Int.tdiv (wrap64 ((wrap64 (n * (wrap64 (n - 1)))) * (wrap64 (n - 2)))) 6)
theorem jK0 : jF6 3 = 1 := by decide +kernel
theorem jL8 : jF6 4 = 4 := by decide +kernel
theorem jMh : jF6 5 = 10 := by decide +kernel
theorem jMc : jF6 6 = 20 := by decide +kernel
theorem jLn : jF6 7 = 35 := by decide +kernel
def Xf (n : Int) (t : ByteArray) : Bool := decide (3 ≤ n) && decide (n ≤ 7) && decide ((t.size : Int) = jF6 n) && t.data.toList.all jDw
theorem jIw (c : UInt8) : ((c.toNat : Int) = 43) ↔ c = 43 := by
 constructor
 ·intro h; apply UInt8.toNat_inj.1; show c.toNat = 43; omega
 ·rintro rfl; rfl
theorem jIf (c : UInt8) : ((c.toNat : Int) = 45) ↔ c = 45 := by
 constructor
 ·intro h; apply UInt8.toNat_inj.1; show c.toNat = 45; omega
 ·rintro rfl; rfl
theorem Za (n : Int) (t : ByteArray) : Xf n t = true ↔ (3 ≤ n ∧ n ≤ 7) ∧ (t.size : Int) = jF6 n ∧ ∀ c ∈ t.data.toList, c = 43 ∨ c = 45 := by
 simp only [Xf, Bool.and_eq_true, decide_eq_true_eq, List.all_eq_true, jDw, Bool.or_eq_true, and_assoc]
theorem X3 {n : Int} {t : ByteArray} (h : Xf n t = true) : t.size ≤ 35 := by
 obtain ⟨⟨h0, h1⟩, h2, _⟩ := (Za n t).1 h
 have h3 : jF6 n ≤ 35 := by
  have : n = 3 ∨ n = 4 ∨ n = 5 ∨ n = 6 ∨ n = 7 := by omega
  rcases this with rfl | rfl | rfl | rfl | rfl
  ·rw [jK0]; decide
  ·rw [jL8]; decide
  ·rw [jMh]; decide
  ·rw [jMc]; decide
  ·rw [jLn]; decide
 omega
end Go.Proofs.YtckkfjdkaimmhaaGreatDoor.M
namespace Go.Proofs.YtckkfjdkaimmhaaGreatDoor.M
open Go.RowKit Go.Proofs.YtckkfjdkaimmhaaGreatDoorW.PrintWords Go.Proofs.YtckkfjdkaimmhaaGreatDoor.PX
theorem jB7 (n : Int) (t : ByteArray) (hs : t.data.toList.length ≤ 9223372036854775807) (d : Nat) : ∀ i : Nat, i + d = t.data.toList.length → Ev (fun k => Qw.l0 k (i : Int) n t) ((t.data.toList.drop i).all jDw) := by
 induction d with
 | zero =>
  intro i hi
  rw [List.drop_of_length_le (by omega)]
  refine Q9 ?_
  simp only [Qw.l0]
  exact Q7 (by rw [Zm]; omega) (Ev.now _)
 | succ d ih =>
  intro i hi
  have hlt : i < t.data.toList.length := by omega
  rw [List.drop_eq_getElem_cons hlt, List.all_cons]
  refine Q9 ?_
  simp only [Qw.l0]
  refine Qq (by rw [Zm]; omega) (Qq (by omega) ?_)
  rw [K6 hlt, Jb (by omega) (by omega)]
  have hn := ih (i + 1) (by omega)
  by_cases h1 : t.data.toList[i] = 43
  ·refine Qq ((jIw _).2 h1) ?_
   rw [show jDw t.data.toList[i] = true by simp [jDw, h1], Bool.true_and]
   exact hn
  ·refine Q7 (fun h => h1 ((jIw _).1 h)) ?_
   by_cases h2 : t.data.toList[i] = 45
   ·refine Qq ((jIf _).2 h2) ?_
    rw [show jDw t.data.toList[i] = true by simp [jDw, h2], Bool.true_and]
    exact hn
   ·refine Q7 (fun h => h2 ((jIf _).1 h)) ?_
    rw [show jDw t.data.toList[i] = false by unfold jDw; rw [decide_eq_false h1, decide_eq_false h2]; rfl, Bool.false_and]
    exact Ev.now _
theorem Kh (n : Int) (t : ByteArray) (hs : t.size ≤ 9223372036854775807) : Ev (fun k => Qw.f k n t) (Xf n t) := by
 rw [Zm] at hs
 unfold Qw.f Xf
 have hj : ∀ r, Ev (fun k => Qw.j0 k true n t) r ↔ r = false := fun r => by
  constructor
  ·rintro ⟨K, hK⟩
   have := hK (K + 1) (by omega)
   simp only [Qw.j0, if_true] at this
   exact (Option.some.inj this).symm
  ·rintro rfl
   refine Q9 ?_
   simp only [Qw.j0]
   exact Qq (by trivial) (Ev.now _)
 by_cases h0 : n < 3
 ·refine Qq h0 ((hj _).2 ?_)
  simp; omega
 ·refine Q7 h0 ?_
  by_cases h1 : n > 7
  ·refine Qq h1 ((hj _).2 ?_)
   simp; omega
  ·refine Q7 h1 ?_
   refine Q9 ?_
   simp only [Qw.j0]
   rw [show decide (3 ≤ n) = true from decide_eq_true (by omega), show decide (n ≤ 7) = true from decide_eq_true (by omega), Bool.true_and, Bool.true_and]
   by_cases h2 : (t.size : Int) = jF6 n
   ·refine Q7 (by simp only [bne_iff_ne, ne_eq, Decidable.not_not]; exact h2) ?_
    rw [decide_eq_true h2, Bool.true_and]
    exact jB7 n t hs t.data.toList.length 0 (by omega)
   ·refine Qq (by simp only [bne_iff_ne, ne_eq]; exact h2) ?_
    rw [decide_eq_false h2, Bool.false_and]
    exact Ev.now _
theorem jCo (n : Int) (t : ByteArray) (hs : t.data.toList.length ≤ 9223372036854775807) (d : Nat) : ∀ i : Nat, i + d = t.data.toList.length → Ev (fun k => Qu.l0 k (i : Int) n t) ((t.data.toList.drop i).all jDw) := by
 induction d with
 | zero =>
  intro i hi
  rw [List.drop_of_length_le (by omega)]
  refine Q9 ?_
  simp only [Qu.l0]
  exact Q7 (by rw [Zm]; omega) (Ev.now _)
 | succ d ih =>
  intro i hi
  have hlt : i < t.data.toList.length := by omega
  rw [List.drop_eq_getElem_cons hlt, List.all_cons]
  refine Q9 ?_
  simp only [Qu.l0]
  refine Qq (by rw [Zm]; omega) (Qq (by omega) ?_)
  rw [K6 hlt, Jb (by omega) (by omega)]
  have hn := ih (i + 1) (by omega)
  by_cases h1 : t.data.toList[i] = 43
  ·refine Qq ((jIw _).2 h1) ?_
   rw [show jDw t.data.toList[i] = true by simp [jDw, h1], Bool.true_and]
   exact hn
  ·refine Q7 (fun h => h1 ((jIw _).1 h)) ?_
   by_cases h2 : t.data.toList[i] = 45
   ·refine Qq ((jIf _).2 h2) ?_
    rw [show jDw t.data.toList[i] = true by simp [jDw, h2], Bool.true_and]
    exact hn
   ·refine Q7 (fun h => h2 ((jIf _).1 h)) ?_
    rw [show jDw t.data.toList[i] = false by unfold jDw; rw [decide_eq_false h1, decide_eq_false h2]; rfl, Bool.false_and]
    exact Ev.now _
theorem Kl (x lo hi : Int) : Jh.f x lo hi = some (decide (lo ≤ x) && decide (x ≤ hi)) := by
 unfold Jh.f
 by_cases h : x ≥ lo
 ·rw [if_pos h, show decide (lo ≤ x) = true from decide_eq_true h, Bool.true_and]
 ·rw [if_neg h, show decide (lo ≤ x) = false from decide_eq_false h, Bool.false_and]
theorem Vx (n : Int) (t : ByteArray) (hs : t.size ≤ 9223372036854775807) : Ev (fun k => Qu.f k n t) (Xf n t) := by
 rw [Zm] at hs
 unfold Qu.f Xf
 refine Jn (Kl n 3 7) ?_
 by_cases h0 : (decide (3 ≤ n) && decide (n ≤ 7)) = true
 ·refine Qq h0 ?_
  rw [h0, Bool.true_and]
  refine Q9 ?_
  simp only [Qu.j0]
  by_cases h2 : (t.size : Int) = jF6 n
  ·refine Q7 (by simp only [bne_iff_ne, ne_eq, Decidable.not_not]; exact h2) ?_
   rw [decide_eq_true h2, Bool.true_and]
   exact jCo n t hs t.data.toList.length 0 (by omega)
  ·refine Qq (by simp only [bne_iff_ne, ne_eq]; exact h2) ?_
   rw [decide_eq_false h2, Bool.false_and]
   exact Ev.now _
 ·refine Q7 h0 ?_
  rw [Bool.eq_false_iff.mpr h0, Bool.false_and, Bool.false_and]
  refine Q9 ?_
  simp only [Qu.j0]
  exact Qq (by trivial) (Ev.now _)
end Go.Proofs.YtckkfjdkaimmhaaGreatDoor.M
namespace Go.Proofs.YtckkfjdkaimmhaaGreatDoor.M
open Go.RowKit Go.Proofs.YtckkfjdkaimmhaaGreatDoorW.PrintWords
section
variable {σ τ ρ α β : Type}
def Goes (z : Except ρ σ) (K : σ → Nat → Option ρ) (g : Nat → Option ρ) : Prop :=
 match z with
 | .error v => Ev g v
 | .ok s => ∀ r, Ev (K s) r → Ev g r
variable {z : Except ρ σ} {K : σ → Nat → Option ρ}
theorem Goes.ok (s : σ) : Goes (.ok s) K (K s) := fun _ h => h
theorem Goes.error {g : Nat → Option ρ} {v : ρ} (h : Ev g v) : Goes (.error v) K g := h
theorem Goes.ret (v : ρ) : Goes (.error v) K (fun _ => some v) := Ev.now v
theorem Goes.map {g g' : Nat → Option ρ} (hg : ∀ r, Ev g' r → Ev g r) (h : Goes z K g') : Goes z K g := by
 cases z with
 | error v => exact hg _ h
 | ok s => exact fun r hr => hg _ (h r hr)
theorem Goes.step {g : Nat → Option ρ} (h : Goes z K (fun k => g (k + 1))) : Goes z K g := Goes.map (fun _ => Q9) h
theorem Goes.pos {c : Prop} [Decidable c] {a b : Nat → Option ρ} (hc : c) (h : Goes z K a) : Goes z K (fun k => if c then a k else b k) := Goes.map (fun _ => Qq hc) h
theorem Goes.neg {c : Prop} [Decidable c] {a b : Nat → Option ρ} (hc : ¬ c) (h : Goes z K b) : Goes z K (fun k => if c then a k else b k) := Goes.map (fun _ => Q7 hc) h
theorem Goes.call {x : Option α} {a : α} {f : Nat → α → Option ρ} (hx : x = some a) (h : Goes z K (fun k => f k a)) : Goes z K (fun k => x.bind (f k)) := Goes.map (fun _ => Jn hx) h
theorem Goes.ev {x : Nat → Option α} {a : α} {f : Nat → α → Option ρ} (hx : Ev x a) (h : Goes z K (fun k => f k a)) : Goes z K (fun k => (x k).bind (f k)) := Goes.map (fun _ => Ev.bind hx) h
theorem Goes.bind {y : Except ρ τ} {f : τ → Except ρ σ} {K' : τ → Nat → Option ρ} {g : Nat → Option ρ} (h : Goes y K' g) (h' : ∀ s, Goes (f s) K (K' s)) : Goes (y >>= f) K g := by
 cases y with
 | error v => exact h
 | ok s => exact Goes.map (h ·) (h' s)
theorem Goes.cast {z' : Except ρ σ} {g : Nat → Option ρ} (h : Goes z K g) (e : z = z') : Goes z' K g := e ▸ h
theorem Goes.out {g : Nat → Option ρ} {r : ρ} (h : Goes z K g) (he : ∀ v, z = .error v → v = r) (ho : ∀ s, z = .ok s → Ev (K s) r) : Ev g r := by
 cases z with
 | error v => exact he v rfl ▸ h
 | ok s => exact h r (ho s rfl)
theorem jEr {lo n : Nat} {L : Int → σ → Nat → Option ρ} (dec : σ → Nat → Except ρ σ) (hf : ∀ s, Goes (.ok s) K (L (n : Int) s))
  (hb : ∀ i, lo ≤ i → i < n → ∀ s, Goes (dec s i) (fun s => L ((i + 1 : Nat) : Int) s) (L (i : Int) s)) (hlo : lo ≤ n) (s : σ) : Goes ((List.range' lo (n - lo)).foldlM dec s) K (L (lo : Int) s) := by
 have key : ∀ d i, lo ≤ i → i + d = n → ∀ s, Goes ((List.range' i d).foldlM dec s) K (L (i : Int) s) := by
  intro d
  induction d with
  | zero =>
   intro i _ hi s
   obtain rfl : i = n := by omega
   exact hf s
  | succ d ih =>
   intro i hl hi s
   rw [List.range'_succ, List.foldlM_cons]
   exact Goes.bind (hb i hl (by omega) s) (fun s => ih (i + 1) (by omega) (by omega) s)
 exact key (n - lo) lo (Nat.le_refl _) (by omega) s
theorem Y6 {lo n : Nat} {L : Int → σ → Nat → Option ρ} (I : Nat → σ → Prop) (dec : σ → Nat → Except ρ σ) (hf : ∀ s, I n s → Goes (.ok s) K (L (n : Int) s))
  (hb : ∀ i, lo ≤ i → i < n → ∀ s, I i s → Goes (dec s i) (fun s => L ((i + 1 : Nat) : Int) s) (L (i : Int) s)) (hi : ∀ i, lo ≤ i → i < n → ∀ s, I i s → ∀ s', dec s i = .ok s' → I (i + 1) s') (hlo : lo ≤ n) (s : σ) (hs : I lo s) :
  Goes ((List.range' lo (n - lo)).foldlM dec s) K (L (lo : Int) s) := by
 have key : ∀ d i, lo ≤ i → i + d = n → ∀ s, I i s → Goes ((List.range' i d).foldlM dec s) K (L (i : Int) s) := by
  intro d
  induction d with
  | zero =>
   intro i _ hid s hs
   obtain rfl : i = n := by omega
   exact hf s hs
  | succ d ih =>
   intro i hl hid s hs
   rw [List.range'_succ, List.foldlM_cons]
   have h := hb i hl (by omega) s hs
   have h' := hi i hl (by omega) s hs
   cases hd : dec s i with
   | error v => rw [hd] at h; exact h
   | ok s' =>
    rw [hd] at h
    exact Goes.map (h ·) (ih (i + 1) (by omega) (by omega) s' (h' s' hd))
 exact key (n - lo) lo (Nat.le_refl _) (by omega) s hs
theorem Us (f : α → List β) (g : σ → β → Except ρ σ) (l : List α) : ∀ s, (l.flatMap f).foldlM g s = l.foldlM (fun s a => (f a).foldlM g s) s := by
 induction l with
 | nil => intro s; rfl
 | cons x l ih =>
  intro s
  rw [List.flatMap_cons, List.foldlM_append, List.foldlM_cons]
  congr 1
  funext s
  exact ih s
theorem jD8 (f : α → β) (g : σ → β → Except ρ σ) (l : List α) : ∀ s, (l.map f).foldlM g s = l.foldlM (fun s a => g s (f a)) s := by
 induction l with
 | nil => intro s; rfl
 | cons x l ih =>
  intro s
  rw [List.map_cons, List.foldlM_cons, List.foldlM_cons]
  congr 1
  funext s
  exact ih s
theorem V8 (g : σ → α → σ) (l : List α) : ∀ s, (l.foldlM (fun s a => (.ok (g s a) : Except ρ σ)) s) = .ok (l.foldl g s) := by
 induction l with
 | nil => intro s; rfl
 | cons x l ih => intro s; exact ih (g s x)
theorem jD9 (c : α → Bool) (v : α → ρ) (l : List α) : l.foldlM (fun (_ : Unit) a => if c a then (.error (v a) : Except ρ Unit) else .ok ()) () = match l.find? c with | some a => .error (v a) | none => .ok () := by
 induction l with
 | nil => rfl
 | cons x l ih =>
  rw [List.foldlM_cons, List.find?_cons]
  cases hx : c x with
  | true => rfl
  | false => exact ih
theorem Uh (c : α → Bool) (v : ρ) (l : List α) : l.foldlM (fun (_ : Unit) a => if c a then (.error v : Except ρ Unit) else .ok ()) () = if l.any c then .error v else .ok () := by
 rw [jD9 c (fun _ => v) l]
 cases h : l.find? c with
 | none =>
  have : l.any c = false := by simpa using h
  rw [this]; rfl
 | some a =>
  have : l.any c = true := List.any_eq_true.2 ⟨a, List.mem_of_find?_eq_some h, List.find?_some h⟩
  rw [this]; rfl
end
theorem jC2 {σ ρ α : Type} (d : α) (f : σ → α → Except ρ σ) (l : List α) (s : σ) : (List.range' 0 (l.length - 0)).foldlM (fun s i => f s (l.getD i d)) s = l.foldlM f s := by
 have key : ∀ (l' pre : List α) (s : σ), pre ++ l' = l → (List.range' pre.length l'.length).foldlM (fun s i => f s (l.getD i d)) s = l'.foldlM f s := by
  intro l'
  induction l' with
  | nil => intro pre s _; rfl
  | cons x l' ih =>
   intro pre s h
   have hx : l.getD pre.length d = x := by
    rw [← h, List.getD_eq_getElem?_getD, List.getElem?_append_right (Nat.le_refl _), Nat.sub_self]
    rfl
   rw [List.length_cons, List.range'_succ, List.foldlM_cons, List.foldlM_cons, hx]
   congr 1
   funext s
   have := ih (pre ++ [x]) s (by rw [← h, List.append_assoc]; rfl)
   rw [List.length_append] at this
   exact this
 rw [Nat.sub_zero]
 exact key l [] s rfl
def Kz (n a : Nat) : List Nat := List.range' (a + 1) (n - (a + 1))
def Xx (n : Nat) : List (Nat × Nat × Nat) := (List.range' 0 n).flatMap fun a => (Kz n a).flatMap fun b => (Kz n b).map fun c => (a, b, c)
theorem jBo {n a b : Nat} (h : b ∈ Kz n a) : a < b ∧ b < n := by
 simp only [Kz, List.mem_range'_1] at h
 omega
theorem K9 {n a b c : Nat} (h : (a, b, c) ∈ Xx n) : a < b ∧ b < c ∧ c < n := by
 simp only [Xx, List.mem_flatMap, List.mem_map, Prod.mk.injEq] at h
 obtain ⟨x, _, y, hy, z, hz, rfl, rfl, rfl⟩ := h
 have := jBo hy
 have := jBo hz
 omega
theorem jAk {n a b c : Nat} (h1 : a < b) (h2 : b < c) (h3 : c < n) : (a, b, c) ∈ Xx n := by
 simp only [Xx, List.mem_flatMap, List.mem_map, Prod.mk.injEq, Kz, List.mem_range'_1]
 exact ⟨a, by omega, b, by omega, c, by omega, rfl, rfl, rfl⟩
section
variable {σ ρ : Type} {n : Nat} {K : σ → Nat → Option ρ}
theorem jE8 {α : Type} (len : σ → Nat) {dec : σ → α → Except ρ σ} (hl : ∀ s x s', dec s x = .ok s' → len s' ≤ len s + 1) (l : List α) : ∀ s s', l.foldlM dec s = .ok s' → len s' ≤ len s + l.length := by
 induction l with
 | nil => intro s s' h; cases h; exact Nat.le_refl _
 | cons x l ih =>
  intro s s' h
  rw [List.foldlM_cons] at h
  cases hd : dec s x with
  | error v => rw [hd] at h; cases h
  | ok s1 =>
   rw [hd] at h
   have h1 := hl _ _ _ hd
   have h2 := ih s1 s' h
   rw [List.length_cons]
   omega
theorem Ko (n a : Nat) : (Kz n a).length = n - (a + 1) := List.length_range' ..
theorem jJ3 {L0 : Int → σ → Nat → Option ρ} {L1 : Int → Int → σ → Nat → Option ρ} {L2 : Int → Int → Int → σ → Nat → Option ρ} (hn : n ≤ 7) (len : σ → Nat) (B : Nat) (dec : σ → Nat × Nat × Nat → Except ρ σ) (hl : ∀ s x s', dec s x = .ok s' → len s' ≤ len s + 1)
  (e0 : ∀ s, Goes (.ok s) K (L0 (n : Int) s)) (s0 : ∀ a, a < n → ∀ s, Goes (.ok s) (fun s => L1 (a : Int) ((a + 1 : Nat) : Int) s) (L0 (a : Int) s))
  (e1 : ∀ a, a < n → ∀ s, Goes (.ok s) (fun s => L0 ((a + 1 : Nat) : Int) s) (L1 (a : Int) (n : Int) s)) (s1 : ∀ a b, a < b → b < n → ∀ s, Goes (.ok s) (fun s => L2 (a : Int) (b : Int) ((b + 1 : Nat) : Int) s) (L1 (a : Int) (b : Int) s))
  (e2 : ∀ a b, a < b → b < n → ∀ s, Goes (.ok s) (fun s => L1 (a : Int) ((b + 1 : Nat) : Int) s) (L2 (a : Int) (b : Int) (n : Int) s))
  (hb : ∀ a b c, a < b → b < c → c < n → ∀ s, len s ≤ B + 343 → Goes (dec s (a, b, c)) (fun s => L2 (a : Int) (b : Int) ((c + 1 : Nat) : Int) s) (L2 (a : Int) (b : Int) (c : Int) s)) (s : σ) (hs : len s ≤ B) : Goes ((Xx n).foldlM dec s) K (L0 0 s) := by
 have h := Y6 (K := K) (L := L0) (lo := 0) (n := n) (fun a s => len s ≤ B + 49 * a) (fun s a => (Kz n a).foldlM (fun s b => (Kz n b).foldlM (fun s c => dec s (a, b, c)) s) s) (fun s _ => e0 s) (fun a _ ha s hs => ?_) (fun a _ ha s hs s' e => ?_) (by omega) s (by omega)
 ·refine Goes.cast h ?_
  rw [Xx, Us]
  simp only [jD8, Us, Nat.sub_zero]
 ·refine Goes.map (fun _ => s0 a ha s _) (Y6 (lo := a + 1) (n := n) (K := fun s => L0 ((a + 1 : Nat) : Int) s) (L := L1 (a : Int)) (fun b s => len s ≤ B + 49 * a + 7 * b) (fun s b => (Kz n b).foldlM (fun s c => dec s (a, b, c)) s) (fun s _ => e1 a ha s)
   (fun b hlo hb' s hs => ?_) (fun b hlo hb' s hs s' e => ?_) (by omega) s (by omega))
  ·exact Goes.map (fun _ => s1 a b (by omega) hb' s _) (Y6 (lo := b + 1) (n := n) (K := fun s => L1 (a : Int) ((b + 1 : Nat) : Int) s) (L := L2 (a : Int) (b : Int)) (fun c s => len s ≤ B + 49 * a + 7 * b + c) (fun s c => dec s (a, b, c)) (fun s _ => e2 a b (by omega) hb' s)
    (fun c hl' hc s hs => hb a b c (by omega) (by omega) hc s (by omega)) (fun c hl' hc s hs s' e => by have := hl _ _ _ e; omega) (by omega) s (by omega))
  ·have := jE8 len (fun s x s' => hl s (a, b, x) s') _ _ _ e
   rw [Ko] at this
   omega
 ·have key : ∀ (l : List Nat), ∀ s s', l.foldlM (fun s b => (Kz n b).foldlM (fun s c => dec s (a, b, c)) s) s = .ok s' → len s' ≤ len s + 7 * l.length := by
   intro l
   induction l with
   | nil => intro s s' h; cases h; exact Nat.le_refl _
   | cons x l ih =>
    intro s s' h
    rw [List.foldlM_cons] at h
    cases hd : (Kz n x).foldlM (fun s c => dec s (a, x, c)) s with
    | error v => rw [hd] at h; cases h
    | ok s1 =>
     rw [hd] at h
     have h1 := jE8 len (fun s y s' => hl s (a, x, y) s') _ _ _ hd
     have h2 := ih s1 s' h
     rw [Ko] at h1
     rw [List.length_cons]
     omega
  have := key _ _ _ e
  rw [Ko] at this
  omega
end
end Go.Proofs.YtckkfjdkaimmhaaGreatDoor.M
namespace Go.Proofs.YtckkfjdkaimmhaaGreatDoor.M
open Go.RowKit Go.Proofs.YtckkfjdkaimmhaaGreatDoorW.PrintWords Go.Proofs.YtckkfjdkaimmhaaGreatDoor.PX
abbrev IP := S48
theorem jNq {l : List IP} {i : Nat} (h : i < l.length) : Qp l (i : Int) = l[i] := by
 unfold Qp
 rw [Int.toNat_natCast, List.getD_eq_getElem?_getD, List.getElem?_eq_getElem h]
 rfl
def Jg (n : Nat) : List S77 := (List.range n).flatMap fun (i : Nat) => (List.range n).flatMap fun (j : Nat) => (List.range n).flatMap fun (k : Nat) => if i < j ∧ j < k then [(⟨(i : Int), (j : Int), (k : Int)⟩ : S77)] else []
theorem jBg : (Qn.f 200 3 = some (Jg 3) ∧ Qn.f 200 4 = some (Jg 4) ∧ Qn.f 200 5 = some (Jg 5)) ∧ Qn.f 200 6 = some (Jg 6) ∧ Qn.f 200 7 = some (Jg 7) := by
 refine ⟨⟨?_, ?_, ?_⟩, ?_, ?_⟩ <;> kernel_rfl
theorem five {n : Nat} (h0 : 3 ≤ n) (h1 : n ≤ 7) {p : Nat → Prop} (a : p 3) (b : p 4) (c : p 5) (d : p 6) (e : p 7) : p n := by
 have : n = 3 ∨ n = 4 ∨ n = 5 ∨ n = 6 ∨ n = 7 := by omega
 rcases this with rfl | rfl | rfl | rfl | rfl <;> assumption
theorem Vr {n : Nat} (h0 : 3 ≤ n) (h1 : n ≤ 7) : Ev (fun k => Qn.f k (n : Int)) (Jg n) := by
 obtain ⟨⟨h3, h4, h5⟩, h6, h7⟩ := jBg
 refine five (p := fun n => Ev (fun k => Qn.f k (n : Int)) (Jg n)) h0 h1 ?_ ?_ ?_ ?_ ?_
 ·exact Ev.of (Qn.mono 3) h3
 ·exact Ev.of (Qn.mono 4) h4
 ·exact Ev.of (Qn.mono 5) h5
 ·exact Ev.of (Qn.mono 6) h6
 ·exact Ev.of (Qn.mono 7) h7
theorem jBc {n : Nat} (h0 : 3 ≤ n) (h1 : n ≤ 7) : Jg n = (Xx n).map fun q => ⟨(q.1 : Int), (q.2.1 : Int), (q.2.2 : Int)⟩ := by
 refine five (p := fun n => Jg n = (Xx n).map fun q => ⟨(q.1 : Int), (q.2.1 : Int), (q.2.2 : Int)⟩) h0 h1 ?_ ?_ ?_ ?_ ?_ <;> kernel_rfl
theorem jDy : ∀ n, n ≤ 7 → (Xx n).length ≤ 35 := by decide +kernel
theorem jAc {n : Nat} (h0 : 3 ≤ n) (h1 : n ≤ 7) : (Jg n).length ≤ 35 := by
 rw [jBc h0 h1, List.length_map]
 exact jDy n h1
theorem jCp {ts : List S77} {i : Nat} (h : i < ts.length) : Qb ts (i : Int) = ts[i] := by
 unfold Qb
 rw [Int.toNat_natCast, List.getD_eq_getElem?_getD, List.getElem?_eq_getElem h]
 rfl
theorem jI9 {n p : Nat} (h0 : 3 ≤ n) (h1 : n ≤ 7) (hp : p < (Jg n).length) : ∃ a b c : Nat, (Jg n)[p] = ⟨(a : Int), (b : Int), (c : Int)⟩ ∧ a < b ∧ b < c ∧ c < n := by
 have e := jBc h0 h1
 have hm : (Jg n)[p] ∈ (Xx n).map fun q => (⟨(q.1 : Int), (q.2.1 : Int), (q.2.2 : Int)⟩ : S77) := by rw [← e]; exact List.getElem_mem _
 obtain ⟨⟨a, b, c⟩, hq, he⟩ := List.mem_map.1 hm
 obtain ⟨h2, h3, h4⟩ := K9 hq
 exact ⟨a, b, c, he.symm, h2, h3, h4⟩
end Go.Proofs.YtckkfjdkaimmhaaGreatDoor.M
namespace Go.Proofs.YtckkfjdkaimmhaaGreatDoor.PX
open Go.RowKit Go.Proofs.YtckkfjdkaimmhaaGreatDoor.G Go.Proofs.YtckkfjdkaimmhaaGreatDoorW.PrintWords Go.Proofs.YtckkfjdkaimmhaaGreatDoorW.PrintLast Go.Proofs.YtckkfjdkaimmhaaGreatDoorW.PrintMore
attribute [local go_sem] max2_int min2_int Yv Yx Xm Xl X9 Yb   -- for this text's walks alone
set_option linter.unusedVariables false
set_option linter.unusedSimpArgs false
end Go.Proofs.YtckkfjdkaimmhaaGreatDoor.PX
namespace Go.Proofs.YtckkfjdkaimmhaaGreatDoor.M
open Go.RowKit Go.Proofs.YtckkfjdkaimmhaaGreatDoorW.PrintWords Go.Proofs.YtckkfjdkaimmhaaGreatDoor.PX Go.Proofs.YtckkfjdkaimmhaaGreatDoor.G
def Ye (most : Int) (p : IP) : Bool := (decide (-most ≤ p.f0) && decide (p.f0 ≤ most)) && (decide (-most ≤ p.f1) && decide (p.f1 ≤ most))
def Vw (a b c : IP) : Int := (b.f0 - a.f0) * (c.f1 - a.f1) - (b.f1 - a.f1) * (c.f0 - a.f0)
def jF3 (x : Int) : Int := if x < 0 then -1 else if x > 0 then 1 else 0
theorem Ue {most : Int} {p : IP} : Ye most p = true ↔ (-most ≤ p.f0 ∧ p.f0 ≤ most) ∧ (-most ≤ p.f1 ∧ p.f1 ≤ most) := by
 unfold Ye
 simp only [Bool.and_eq_true, decide_eq_true_eq]
theorem jDz (most : Int) (l : List IP) : ∀ (d i : Nat), i + d = l.length → decide (0 ≤ Vn most l d (i : Int)) = (l.drop i).any fun p => jEx p.f0 most || jEx p.f1 most := by
 intro d
 induction d with
 | zero =>
  intro i hi
  rw [List.drop_of_length_le (by omega)]
  rfl
 | succ d ih =>
  intro i hi
  rw [Vn, List.drop_eq_getElem_cons (by omega), List.any_cons, jNq (by omega)]
  cases g : (jEx (l[i]'(by omega)).f0 most || jEx (l[i]'(by omega)).f1 most) with
  | true =>
   rw [if_pos rfl, Bool.true_or]
   exact decide_eq_true (by omega)
  | false =>
   rw [if_neg (by decide), Bool.false_or]
   exact ih (i + 1) (by omega)
theorem jC0 (most : Int) (h0 : 0 ≤ most) (h1 : most ≤ 1000000) (l : List IP) : Xi.f most l = some (l.all (Ye most)) := by
 unfold Xi.f
 have h := jDz most l l.length 0 (by omega)
 rw [List.drop_zero] at h
 have h' : decide (0 ≤ Vn most l l.length 0) = l.any fun p => jEx p.f0 most || jEx p.f1 most := h
 rw [h', List.not_any_eq_all_not]
 congr 2
 funext p
 unfold jEx Ye
 rw [Jb (by omega) (by omega), Bool.eq_iff_iff]
 simp
theorem jGu (p : IP) (most : Int) (h0 : 0 ≤ most) (h1 : most ≤ 1000000) : Ym.f p.f0 p.f1 most = some (Ye most p) := by
 have one : ∀ x : Int, Jh.f x (-most) most = some (decide (-most ≤ x) && decide (x ≤ most)) := by
  intro x
  unfold Jh.f
  by_cases h : x ≥ -most
  ·rw [if_pos h, decide_eq_true (show -most ≤ x from h), Bool.true_and]
  ·rw [if_neg h, decide_eq_false (show ¬ -most ≤ x from h), Bool.false_and]
 unfold Ym.f Ye
 rw [Jb (by omega) (by omega), one, one]
 cases decide (-most ≤ p.f0) && decide (p.f0 ≤ most) <;> rfl
theorem jJl {x y : Int} (h1 : -2000 ≤ x) (h2 : x ≤ 2000) (h3 : -2000 ≤ y) (h4 : y ≤ 2000) : -4000000 ≤ x * y ∧ x * y ≤ 4000000 := by
 have h := Int.natAbs_mul x y
 have h' : x.natAbs * y.natAbs ≤ 2000 * 2000 := Nat.mul_le_mul (by omega) (by omega)
 omega
theorem jGs {a b c : IP} (ha : Ye 1000 a = true) (hb : Ye 1000 b = true) (hc : Ye 1000 c = true) :
  wrap64 ((wrap64 ((wrap64 (b.f0 - a.f0)) * (wrap64 (c.f1 - a.f1)))) - (wrap64 ((wrap64 (b.f1 - a.f1)) * (wrap64 (c.f0 - a.f0))))) = Vw a b c ∧ -8000000 ≤ Vw a b c ∧ Vw a b c ≤ 8000000 := by
 obtain ⟨⟨a1, a2⟩, a3, a4⟩ := Ue.1 ha
 obtain ⟨⟨b1, b2⟩, b3, b4⟩ := Ue.1 hb
 obtain ⟨⟨c1, c2⟩, c3, c4⟩ := Ue.1 hc
 have m1 := jJl (x := b.f0 - a.f0) (y := c.f1 - a.f1) (by omega) (by omega) (by omega) (by omega)
 have m2 := jJl (x := b.f1 - a.f1) (y := c.f0 - a.f0) (by omega) (by omega) (by omega) (by omega)
 rw [Jb (x := b.f0 - a.f0) (by omega) (by omega), Jb (x := c.f1 - a.f1) (by omega) (by omega), Jb (x := b.f1 - a.f1) (by omega) (by omega), Jb (x := c.f0 - a.f0) (by omega) (by omega)]
 rw [Jb (x := (b.f0 - a.f0) * (c.f1 - a.f1)) (by omega) (by omega), Jb (x := (b.f1 - a.f1) * (c.f0 - a.f0)) (by omega) (by omega)]
 unfold Vw
 exact ⟨Jb (by omega) (by omega), by omega, by omega⟩
def jCq (a b c : IP) : Bool := Ye 1000 a && (Ye 1000 b && Ye 1000 c)
theorem Ka {a b c : IP} : jCq a b c = true ↔ Ye 1000 a = true ∧ Ye 1000 b = true ∧ Ye 1000 c = true := by
 unfold jCq
 simp only [Bool.and_eq_true]
theorem jA1 {a b c : IP} (h : jCq a b c = true) : Z7.f a.f0 a.f1 b.f0 b.f1 c.f0 c.f1 = some (Vw a b c) := by
 obtain ⟨ha, hb, hc⟩ := Ka.1 h
 unfold Z7.f
 rw [(jGs ha hb hc).1]
theorem Y7 {a b c : IP} (h : jCq a b c = true) : Y7.f a.f0 a.f1 b.f0 b.f1 c.f0 c.f1 = some (Vw a b c) := by
 obtain ⟨ha, hb, hc⟩ := Ka.1 h
 unfold Y7.f
 rw [(jGs ha hb hc).1]
theorem jKe (x : Int) : Yw.f x = some (jF3 x) := by
 unfold Yw.f cmp_Compare_int.f cmp_isNaN_int.f jF3
 by_cases h : x < 0
 ·simp [h]
 ·by_cases h' : x > 0 <;> simp [h, h']
def jFk (a b c : IP) : Int := if jCq a b c = true then jF3 (Vw a b c) else 0
theorem jLh (a b c : IP) : Xi.f 1000 [a, b, c] = some (jCq a b c) := by
 rw [jC0 1000 (by decide) (by decide)]
 simp [jCq]
theorem jAg (a b c : IP) : Xa.f a.f0 a.f1 b.f0 b.f1 c.f0 c.f1 = some (jFk a b c) := by
 unfold Xa.f jFk
 have e : ([(⟨a.f0, a.f1⟩ : IP), (⟨b.f0, b.f1⟩ : IP), (⟨c.f0, c.f1⟩ : IP)] : List IP) = [a, b, c] := rfl
 rw [e, jLh]
 by_cases h : jCq a b c = true
 ·simp only [Option.bind_some, h, if_true]
  rw [Y7 h]
  simp only [Option.bind_some]
  rw [jKe]
  rfl
 ·simp [h]
def pt (l : List IP) (i : Nat) : IP := Qp l (i : Int)
theorem jC7 {l : List IP} {i : Nat} (h : i < l.length) : pt l i = l[i] := jNq h
def Uo (l : List IP) (q : Nat × Nat × Nat) : Bool := decide (Vw (pt l q.1) (pt l q.2.1) (pt l q.2.2) = 0)
def Y3 (l : List IP) : Bool := (decide (3 ≤ l.length) && decide (l.length ≤ 7)) && (l.all (Ye 50) && !((Xx l.length).any (Uo l)))
theorem V9 {p : IP} (h : Ye 50 p = true) : Ye 1000 p = true := by
 rw [Ue] at h ⊢
 omega
theorem Vg {l : List IP} : Y3 l = true ↔ (3 ≤ l.length ∧ l.length ≤ 7) ∧ (∀ p ∈ l, Ye 50 p = true) ∧ ∀ a b c, a < b → b < c → c < l.length → Vw (pt l a) (pt l b) (pt l c) ≠ 0 := by
 unfold Y3
 simp only [Bool.and_eq_true, decide_eq_true_eq, List.all_eq_true, Bool.not_eq_true', List.any_eq_false, Uo]
 constructor
 ·rintro ⟨h1, h2, h3⟩
  exact ⟨h1, h2, fun a b c hab hbc hc => h3 (a, b, c) (jAk hab hbc hc)⟩
 ·rintro ⟨h1, h2, h3⟩
  exact ⟨h1, h2, fun ⟨a, b, c⟩ hq => h3 a b c (K9 hq).1 (K9 hq).2.1 (K9 hq).2.2⟩
theorem jAs {l : List IP} (h : l.all (Ye 50) = true) {a b c : Nat} (ha : a < l.length) (hb : b < l.length) (hc : c < l.length) : jCq (pt l a) (pt l b) (pt l c) = true := by
 have key : ∀ {i : Nat}, i < l.length → Ye 1000 (pt l i) = true := fun {i} hi => by
  rw [jC7 hi]
  exact V9 (List.all_eq_true.1 h _ (List.getElem_mem hi))
 exact Ka.2 ⟨key ha, key hb, key hc⟩
theorem jFu (x lo hi : Int) : Jh.f x lo hi = some (decide (lo ≤ x) && decide (x ≤ hi)) := by
 unfold Jh.f
 by_cases h : x ≥ lo
 ·rw [if_pos h, decide_eq_true (show lo ≤ x from h), Bool.true_and]
 ·rw [if_neg h, decide_eq_false (show ¬ lo ≤ x from h), Bool.false_and]
def U9 (l : List IP) (k : Nat) : Bool := !Ye 50 (pt l k) || (List.range' 0 (k - 0)).any fun j => (List.range' 0 (j - 0)).any fun i => Uo l (i, j, k)
theorem jFq (l : List IP) : (!((List.range' 0 (l.length - 0)).any (U9 l))) = (l.all (Ye 50) && !((Xx l.length).any (Uo l))) := by
 rw [Bool.eq_iff_iff]
 simp only [Bool.not_eq_true', List.any_eq_false, Bool.and_eq_true, List.all_eq_true, U9, Bool.or_eq_true, not_or, Bool.not_eq_false, List.any_eq_true, not_exists, not_and, List.mem_range'_1]
 constructor
 ·intro h
  refine ⟨fun p hp => ?_, fun ⟨a, b, c⟩ hq => ?_⟩
  ·obtain ⟨i, hi, rfl⟩ := List.getElem_of_mem hp
   have := (h i (by omega)).1
   rw [jC7 hi] at this
   simpa using this
  ·obtain ⟨h1, h2, h3⟩ := K9 hq
   exact (h c (by omega)).2 b (by omega) a (by omega)
 ·rintro ⟨h1, h2⟩ k hk
  refine ⟨?_, fun j hj i hi => h2 (i, j, k) (jAk (by omega) (by omega) (by omega))⟩
  rw [jC7 (show k < l.length by omega)]
  simpa using h1 _ (List.getElem_mem _)
theorem jEn (l : List IP) (hl : l.length ≤ 10000000) : Ev (fun q => Qt.f q l) (Y3 l) := by
 unfold Qt.f
 refine Jn (jFu _ _ _) ?_
 by_cases hn : 3 ≤ l.length ∧ l.length ≤ 7
 ·refine Qq (by simp; omega) (Zn ?_ (show (!((List.range' 0 (l.length - 0)).any (U9 l))) = Y3 l from ?_))
  ·have key := Y6 (σ := Unit) (ρ := Bool) (lo := 0) (n := l.length) (K := fun _ _ => some true) (L := fun x _ q => Qt.l0 q l x) (fun k _ => ∀ i, i < k → Ye 50 (pt l i) = true) (fun _ k => if U9 l k then .error false else .ok ()) (fun u _ => ?_) (fun k _ hk u hI => ?_) (fun k _ hk u hI u' e => ?_) (by omega) () (fun i hi => absurd hi (Nat.not_lt_zero _))
   ·rw [Uh (U9 l)] at key
    cases hq : (List.range' 0 (l.length - 0)).any (U9 l) with
    | true => rw [hq] at key; exact key
    | false => rw [hq] at key; exact key _ (Ev.now _)
   ·refine Goes.step ?_
    simp only [Qt.l0]
    exact Goes.neg (by omega) (Goes.ok (K := fun _ _ => some true) u)
   ·refine Goes.step ?_
    simp only [Qt.l0]
    refine Goes.pos (by omega) (Goes.pos (by omega) (Goes.call (jGu (pt l k) 50 (by decide) (by decide)) ?_))
    cases hf : Ye 50 (pt l k) with
    | false => exact Goes.neg (by decide) (Goes.cast (Goes.ret _) (by simp [U9, hf]))
    | true =>
     refine Goes.pos rfl ?_
     have one := jEr (σ := Unit) (ρ := Bool) (lo := 0) (n := k) (K := fun _ q => Qt.l0 q l ((k + 1 : Nat) : Int)) (L := fun x _ q => Qt.l1 q l (k : Int) x) (fun _ j => if (List.range' 0 (j - 0)).any (fun i => Uo l (i, j, k)) then .error false else .ok ()) (fun u => ?_) (fun j _ hj u => ?_) (by omega) ()
     ·rw [Uh (fun j => (List.range' 0 (j - 0)).any fun i => Uo l (i, j, k))] at one
      refine one.cast ?_
      simp [U9, hf]
     ·refine Goes.step ?_
      simp only [Qt.l1]
      rw [Jb (by omega) (by omega)]
      exact Goes.neg (by omega) (Goes.ok (K := fun (_ : Unit) q => Qt.l0 q l ((k + 1 : Nat) : Int)) u)
     ·refine Goes.step ?_
      simp only [Qt.l1]
      refine Goes.pos (by omega) ?_
      have two := jEr (σ := Unit) (ρ := Bool) (lo := 0) (n := j) (K := fun _ q => Qt.l1 q l (k : Int) ((j + 1 : Nat) : Int)) (L := fun x _ q => Qt.l2 q l (k : Int) (j : Int) x) (fun _ i => if Uo l (i, j, k) then .error false else .ok ()) (fun u => ?_) (fun i _ hi u => ?_) (by omega) ()
      ·rw [Uh (fun i => Uo l (i, j, k))] at two
       exact two
      ·refine Goes.step ?_
       simp only [Qt.l2]
       rw [Jb (by omega) (by omega)]
       exact Goes.neg (by omega) (Goes.ok (K := fun (_ : Unit) q => Qt.l1 q l (k : Int) ((j + 1 : Nat) : Int)) u)
      ·refine Goes.step ?_
       simp only [Qt.l2]
       rw [Jb (x := (i : Int) + 1) (by omega) (by omega)]
       refine Goes.pos (by omega) (Goes.pos (by omega) (Goes.pos (by omega) (Goes.pos (by omega) (Goes.pos (by omega) (Goes.pos (by omega) (Goes.pos (by omega) ?_))))))
       have nn : ∀ x, x ≤ k → Ye 1000 (pt l x) = true := fun x hx => by
        by_cases e : x = k
        ·subst e; exact V9 hf
        ·exact V9 (hI x (by omega))
       refine Goes.call (jA1 (a := pt l i) (b := pt l j) (c := pt l k) (Ka.2 ⟨nn i (by omega), nn j (by omega), nn k (by omega)⟩)) ?_
       by_cases g : Vw (pt l i) (pt l j) (pt l k) = 0
       ·exact Goes.pos g (Goes.cast (Goes.ret _) (by simp [Uo, g]))
       ·exact Goes.neg g (Goes.cast (Goes.ok (K := fun (_ : Unit) q => Qt.l2 q l (k : Int) (j : Int) ((i + 1 : Nat) : Int)) u) (by simp [Uo, g]))
   ·intro i hi
    by_cases ei : i = k
    ·subst ei
     cases hf : Ye 50 (pt l i) with
     | true => rfl
     | false => simp [U9, hf] at e
    ·exact hI i (by omega)
  ·unfold Y3
   rw [jFq]
   simp [hn.1, hn.2]
 ·refine Q7 (by simp; omega) (Zn (Ev.now _) ?_)
  unfold Y3
  have : (decide (3 ≤ l.length) && decide (l.length ≤ 7)) = false := by simp; omega
  rw [this]
  rfl
theorem jEo (l : List IP) (hl : l.length ≤ 10000000) : Ev (fun q => Q3.f q l) (Y3 l) := by
 unfold Q3.f
 have no : (decide (3 ≤ l.length) && decide (l.length ≤ 7)) = false → Ev (fun q => Q3.j0 q l true) (Y3 l) := fun h => by
  refine Q9 ?_
  simp only [Q3.j0]
  refine Qq (by trivial) (Zn (Ev.now _) ?_)
  unfold Y3
  rw [h]
  rfl
 by_cases h3 : (l.length : Int) < 3
 ·exact Qq h3 (no (by simp; omega))
 refine Q7 h3 ?_
 by_cases h7 : (l.length : Int) > 7
 ·exact Qq h7 (no (by simp; omega))
 refine Q7 h7 (Jn (jC0 50 (by decide) (by decide) l) (Q9 ?_))
 simp only [Q3.j0]
 have e0 : (decide (3 ≤ l.length) && decide (l.length ≤ 7)) = true := by simp; omega
 unfold Y3
 rw [e0, Bool.true_and]
 cases hn : l.all (Ye 50) with
 | false => exact Qq (by trivial) (Ev.now _)
 | true =>
  refine Q7 (by decide) (Ev.bind (Vr (n := l.length) (by omega) (by omega)) ?_)
  rw [Bool.true_and]
  have eT := jBc (n := l.length) (by omega) (by omega)
  have lT := jAc (n := l.length) (by omega) (by omega)
  have el : (Jg l.length).length = (Xx l.length).length := by rw [eT, List.length_map]
  have key := jEr (σ := Unit) (ρ := Bool) (lo := 0) (n := (Jg l.length).length) (K := fun _ _ => some true) (L := fun x _ q => Q3.l0 q l (Jg l.length) ((Jg l.length).length : Int) x)
   (fun _ i => if Uo l ((Xx l.length).getD i (0, 0, 0)) then .error false else .ok ()) (fun u => ?_) (fun i _ hi u => ?_) (by omega) ()
  ·rw [el, jC2 (0, 0, 0) (fun (_ : Unit) q => if Uo l q then (.error false : Except Bool Unit) else .ok ()), Uh (Uo l)] at key
   rw [el]
   cases hq : (Xx l.length).any (Uo l) with
   | true => rw [hq] at key; exact key
   | false => rw [hq] at key; exact key _ (Ev.now _)
  ·refine Goes.step ?_
   simp only [Q3.l0]
   exact Goes.neg (by omega) (Goes.ok (K := fun _ _ => some true) u)
  ·obtain ⟨a, b, c, e, hab, hbc, hc⟩ := jI9 (n := l.length) (by omega) (by omega) hi
   have eq : (Xx l.length).getD i (0, 0, 0) = (a, b, c) := by
    have hi' : i < (Xx l.length).length := by omega
    rw [List.getD_eq_getElem?_getD, List.getElem?_eq_getElem hi']
    simp only [eT, List.getElem_map] at e
    show (Xx l.length)[i] = _
    generalize (Xx l.length)[i] = z at e
    obtain ⟨x, y, w⟩ := z
    simp only at e
    injection e with e1 e2 e3
    rw [Int.ofNat_inj.1 e1, Int.ofNat_inj.1 e2, Int.ofNat_inj.1 e3]
   refine Goes.step ?_
   simp only [Q3.l0, jCp hi, e]
   refine Goes.pos (by omega) (Goes.pos (by omega) (Goes.pos (by omega) (Goes.pos (by omega) (Goes.pos (by omega) (Goes.pos (by omega) (Goes.pos (by omega) (Goes.pos (by omega) (Goes.pos (by omega) (Goes.call (jAg (pt l a) (pt l b) (pt l c)) ?_)))))))))
   have n3 := jAs hn (show a < l.length by omega) (show b < l.length by omega) hc
   have et : jFk (pt l a) (pt l b) (pt l c) = jF3 (Vw (pt l a) (pt l b) (pt l c)) := if_pos n3
   rw [et, eq, Jb (by omega) (by omega)]
   by_cases g : Vw (pt l a) (pt l b) (pt l c) = 0
   ·exact Goes.pos (by rw [g]; rfl) (Goes.cast (Goes.ret _) (by simp [Uo, g]))
   ·refine Goes.neg ?_ (Goes.cast (Goes.ok (K := fun (_ : Unit) q => Q3.l0 q l (Jg l.length) ((Jg l.length).length : Int) ((i + 1 : Nat) : Int)) u) (by simp [Uo, g]))
    unfold jF3
    split
    ·decide
    ·rw [if_pos (by omega)]; decide
end Go.Proofs.YtckkfjdkaimmhaaGreatDoor.M
namespace Go.Proofs.YtckkfjdkaimmhaaGreatDoor.M
open Go.RowKit Go.Proofs.YtckkfjdkaimmhaaGreatDoorW.PrintWords Go.Proofs.YtckkfjdkaimmhaaGreatDoor.PX
def inR (n a : Int) : Bool := decide (0 ≤ a) && decide (a < n)
theorem jAt (n a : Int) : Zt.f n a = some (inR n a) := by
 unfold Zt.f inR
 by_cases h : a ≥ 0
 ·rw [if_pos h, decide_eq_true (show (0 : Int) ≤ a from h), Bool.true_and]
 ·rw [if_neg h, decide_eq_false (show ¬ (0 : Int) ≤ a from h), Bool.false_and]
theorem jF1 (l : List Int) (a : Int) (hl : l.length ≤ 9223372036854775807) (d : Nat) : ∀ i : Nat, i + d = l.length →
  ∃ r, Ev (fun k => Qx.l0 k l a (l.length : Int) (i : Int)) r ∧ decide (r ≥ 0) = (l.drop i).contains a := by
 induction d with
 | zero =>
  intro i hi
  refine ⟨-1, Q9 ?_, ?_⟩
  ·simp only [Qx.l0]
   exact Q7 (by omega) (Ev.now _)
  ·rw [List.drop_of_length_le (by omega)]; rfl
 | succ d ih =>
  intro i hi
  have hlt : i < l.length := by omega
  have hr : rd l (i : Int) = l[i] := by
   unfold rd
   rw [Int.toNat_natCast, List.getD_eq_getElem?_getD, List.getElem?_eq_getElem hlt]; rfl
  rw [List.drop_eq_getElem_cons hlt]
  by_cases h : a = l[i]
  ·refine ⟨i, Q9 ?_, ?_⟩
   ·simp only [Qx.l0, hr]
    exact Qq (by omega) (Qq (by omega) (Qq (by omega) (Qq h (Ev.now _))))
   ·subst h
    rw [List.contains_cons, beq_self_eq_true, Bool.true_or]
    exact decide_eq_true (by omega)
  ·obtain ⟨r, h1, h2⟩ := ih (i + 1) (by omega)
   refine ⟨r, Q9 ?_, ?_⟩
   ·simp only [Qx.l0, hr]
    refine Qq (by omega) (Qq (by omega) (Qq (by omega) (Q7 h ?_)))
    rw [Jb (by omega) (by omega)]
    exact h1
   ·rw [h2, List.contains_cons, beq_eq_false_iff_ne.2 h, Bool.false_or]
theorem jEc (l : List Int) (a : Int) (hl : l.length ≤ 9223372036854775807) : Ev (fun k => Jo.f k l a) (l.contains a) := by
 obtain ⟨r, h1, h2⟩ := jF1 l a hl l.length 0 (by omega)
 unfold Jo.f
 refine Ev.bind h1 ?_
 rw [h2, List.drop_zero]
 exact Ev.now _
def jAe (n : Int) (l : List Int) : Bool := (List.range l.length).all fun i => inR n (l.getD i 0) && !((l.take i).contains (l.getD i 0))
theorem jGt (n : Int) (l : List Int) (hl : l.length ≤ 9223372036854775807) (d : Nat) : ∀ i : Nat, i + d = l.length →
  Ev (fun k => Jl.l0 k n l l (l.length : Int) (i : Int)) ((List.range' i d).all fun i => inR n (l.getD i 0) && !((l.take i).contains (l.getD i 0))) := by
 induction d with
 | zero =>
  intro i hi
  refine Q9 ?_
  simp only [Jl.l0]
  exact Q7 (by omega) (Ev.now _)
 | succ d ih =>
  intro i hi
  have hr : rd l (i : Int) = l.getD i 0 := by unfold rd; rw [Int.toNat_natCast]
  rw [List.range'_succ, List.all_cons]
  refine Q9 ?_
  simp only [Jl.l0, hr, Int.toNat_natCast]
  refine Qq (by omega) (Qq (by omega) (Qq (by omega) (Jn (jAt n _) ?_)))
  cases h1 : inR n (l.getD i 0) with
  | false => exact Q7 (by simp) (Ev.now _)
  | true =>
   refine Qq (by trivial) (Qq (by omega) (Ev.bind (jEc _ _ (by rw [List.length_take]; omega)) ?_))
   cases h2 : (l.take i).contains (l.getD i 0) with
   | true => exact Qq (by trivial) (Ev.now _)
   | false =>
    refine Q7 (by simp) ?_
    rw [Jb (by omega) (by omega)]
    simp only [Bool.not_false, Bool.and_self, Bool.true_and]
    exact ih (i + 1) (by omega)
theorem Wu (n : Int) (l : List Int) (hl : l.length ≤ 9223372036854775807) : Ev (fun k => Jl.f k n l) (jAe n l) := by
 unfold Jl.f jAe
 rw [List.range_eq_range']
 exact jGt n l hl l.length 0 (by omega)
theorem Vb (n a b c : Int) : jAe n [a, b, c] = true ↔ (0 ≤ a ∧ a < n) ∧ (0 ≤ b ∧ b < n) ∧ (0 ≤ c ∧ c < n) ∧ a ≠ b ∧ b ≠ c ∧ a ≠ c := by
 have e : jAe n [a, b, c] = ((inR n a && !(([] : List Int).contains a)) && ((inR n b && !([a].contains b)) && ((inR n c && !([a, b].contains c)) && true))) := rfl
 rw [e]
 simp only [inR, Bool.and_eq_true, decide_eq_true_eq, List.contains_cons, List.contains_nil, Bool.not_eq_true', Bool.or_eq_false_iff, beq_eq_false_iff_ne, ne_eq, and_true, Bool.or_false]
 constructor <;> intro h <;> omega
theorem jG5 (n : Int) : Go.bits .and .i64 n 255 = n % 256 := by
 have aA : (BitVec.ofInt 64 255).toNat = 2 ^ 8 - 1 := by decide
 have key : (BitVec.ofInt 64 n &&& BitVec.ofInt 64 255).toNat = (n % ((2 ^ 64 : Nat) : Int)).toNat % 2 ^ 8 := by
  rw [BitVec.toNat_and, BitVec.toNat_ofInt, aA, Nat.and_two_pow_sub_one_eq_mod]
 show IntKind.i64.wrap ((BitVec.ofInt 64 n &&& BitVec.ofInt 64 255).toNat : Nat) = n % 256
 rw [key, IntKind.wrap_i64]
 omega
def Cur (l : List Int) (i : Int) : Prop := 0 ≤ i ∧ i ≤ (l.length : Int)
theorem jAx {l : List Int} (hl : l.length ≤ 1048576) {i : Int} (hc : Cur l i) (h : Int) : ∃ x i' h', Zx.f l i h = some (x, i', h') ∧ (0 ≤ x ∧ x ≤ 255) ∧ Cur l i' := by
 obtain ⟨h0, h1⟩ := hc
 unfold Zx.f
 by_cases g : i < (l.length : Int)
 ·rw [if_pos g, if_pos h0, jG5, jG5]
  refine ⟨_, _, _, rfl, by omega, ?_, ?_⟩
  ·rw [Jb (by omega) (by omega)]; omega
  ·rw [Jb (by omega) (by omega)]; omega
 ·rw [if_neg g, jG5]
  exact ⟨_, _, _, rfl, by omega, h0, h1⟩
theorem Z9 {l : List Int} (hl : l.length ≤ 1048576) {i : Int} (hc : Cur l i) (h n : Int) : ∃ x i' h', Q5.f l i h n = some (x, i', h') ∧ (n ≤ 0 → x = 0) ∧ (0 < n → 0 ≤ x ∧ x < n) ∧ Cur l i' := by
 unfold Q5.f
 by_cases g : n ≤ 0
 ·rw [if_pos g]
  exact ⟨_, _, _, rfl, fun _ => rfl, fun h => by omega, hc⟩
 ·rw [if_neg g]
  have tm : ∀ x : Int, 0 ≤ x → 0 ≤ Int.tmod x n ∧ Int.tmod x n < n := fun x hx => by
   rw [Int.tmod_eq_emod_of_nonneg hx]
   exact ⟨Int.emod_nonneg _ (by omega), Int.emod_lt_of_pos _ (by omega)⟩
  by_cases g' : n ≤ 256
  ·rw [if_pos g']
   obtain ⟨x, i1, h1, e1, b1, c1⟩ := jAx hl hc h
   rw [e1]
   simp only [Option.bind_some]
   rw [if_neg (by omega)]
   exact ⟨_, _, _, rfl, fun h => by omega, fun _ => tm x b1.1, c1⟩
  ·rw [if_neg g']
   obtain ⟨x, i1, h1, e1, b1, c1⟩ := jAx hl hc h
   obtain ⟨y, i2, h2, e2, b2, c2⟩ := jAx hl c1 h1
   obtain ⟨z, i3, h3, e3, b3, c3⟩ := jAx hl c2 h2
   obtain ⟨w, i4, h4, e4, b4, c4⟩ := jAx hl c3 h3
   rw [e1]
   simp only [Option.bind_some]
   rw [e2]
   simp only [Option.bind_some]
   rw [e3]
   simp only [Option.bind_some]
   rw [e4]
   simp only [Option.bind_some]
   rw [if_neg (by omega)]
   refine ⟨_, _, _, rfl, fun h => by omega, fun _ => tm _ ?_, c4⟩
   rw [Jb (x := x * 16777216) (by omega) (by omega), Jb (x := y * 65536) (by omega) (by omega), Jb (x := z * 256) (by omega) (by omega), Jb (x := x * 16777216 + y * 65536) (by omega) (by omega)]
   rw [Jb (x := x * 16777216 + y * 65536 + z * 256) (by omega) (by omega), Jb (by omega) (by omega)]
   omega
theorem jB1 (l : List Int) (_ : l.length ≤ 1048576) : ∃ h, Ev (fun k => J4.f k l) (l, 0, h) := by
 have key : ∀ (d i : Nat) (x : Int), i + d = l.length → ∃ h, Ev (fun k => J4.l0 k l x (i : Int)) (l, 0, h) := by
  intro d
  induction d with
  | zero =>
   intro i x hi
   refine ⟨x, Q9 ?_⟩
   simp only [J4.l0]
   exact Q7 (by omega) (Ev.now _)
  | succ d ih =>
   intro i x hi
   by_cases g : (i : Int) < 4000
   ·obtain ⟨h, hh⟩ := ih (i + 1) (Go.bits .and .i64 (wrap64 ((wrap64 ((wrap64 (x * 131)) + (wrap64 (rd l (i : Int))))) + 7)) 1073741823) (by omega)
    refine ⟨h, Q9 ?_⟩
    simp only [J4.l0]
    rw [Jb (x := (i : Int) + 1) (by omega) (by omega)]
    exact Qq (by omega) (Qq g (Qq (by omega) hh))
   ·refine ⟨x, Q9 ?_⟩
    simp only [J4.l0]
    exact Qq (by omega) (Q7 g (Ev.now _))
 unfold J4.f
 exact key l.length 0 _ (by omega)
theorem jKw (l : List Int) : Cur l 0 := ⟨Int.le_refl 0, by omega⟩
theorem jD1 {l : List Int} (hl : l.length ≤ 1048576) {i : Int} (hc : Cur l i) (h : Int) (ts : List ByteArray) (ht : ts ≠ []) : ∃ x i' h', Xk.f l i h ts = some (x, i', h') ∧ x ∈ ts ∧ Cur l i' := by
 have hp : 0 < ts.length := List.length_pos_iff.2 ht
 obtain ⟨x, i', h', e, _, b, c⟩ := Z9 hl hc h (ts.length : Int)
 have b := b (by omega)
 unfold Xk.f
 rw [e]
 simp only [Option.bind_some]
 rw [if_pos b.1, if_pos b.2]
 refine ⟨_, _, _, rfl, ?_, c⟩
 obtain ⟨j, rfl⟩ := Int.eq_ofNat_of_zero_le b.1
 have hj : j < ts.length := by omega
 unfold Vj
 rw [Int.toNat_natCast, List.getD_eq_getElem?_getD, List.getElem?_eq_getElem hj]
 exact List.getElem_mem hj
theorem jBv {l : List Int} (hl : l.length ≤ 1048576) {i : Int} (hc : Cur l i) (h : Int) (ts : List Int) (ht : ts ≠ []) : ∃ x i' h', Z8.f l i h ts = some (x, i', h') ∧ x ∈ ts ∧ Cur l i' := by
 have hp : 0 < ts.length := List.length_pos_iff.2 ht
 obtain ⟨x, i', h', e, _, b, c⟩ := Z9 hl hc h (ts.length : Int)
 have b := b (by omega)
 unfold Z8.f
 rw [e]
 simp only [Option.bind_some]
 rw [if_pos b.1, if_pos b.2]
 refine ⟨_, _, _, rfl, ?_, c⟩
 obtain ⟨j, rfl⟩ := Int.eq_ofNat_of_zero_le b.1
 have hj : j < ts.length := by omega
 unfold rd
 rw [Int.toNat_natCast, List.getD_eq_getElem?_getD, List.getElem?_eq_getElem hj]
 exact List.getElem_mem hj
theorem jCi {l : List Int} (hl : l.length ≤ 1048576) {i : Int} (hc : Cur l i) (h n : Int) : ∃ b i' h', Zw.f l i h n = some (b, i', h') ∧ Cur l i' := by
 obtain ⟨x, i', h', e, _, _, c⟩ := Z9 hl hc h n
 unfold Zw.f
 rw [e]
 exact ⟨_, _, _, rfl, c⟩
end Go.Proofs.YtckkfjdkaimmhaaGreatDoor.M
namespace Go.Proofs.YtckkfjdkaimmhaaGreatDoor.M
open Go.RowKit Go.Proofs.YtckkfjdkaimmhaaGreatDoorW.PrintWords Go.Proofs.YtckkfjdkaimmhaaGreatDoor.PX Go.Proofs.YtckkfjdkaimmhaaGreatDoor.G
theorem jJf {x3 x5 : Int} {ps : List IP} {l : List Int} {i h p q : Int} {x8 : Nat} (h8 : x8 < ps.length) (hps : ps.length ≤ 100) (d : Nat) : ∀ (x9 : Nat) (x7 : Bool), x9 + d = x8 →
  ∃ aA, ∀ r, Ev (fun k => Qi.l1 k x3 ps x5 aA ((x8 + 1 : Nat) : Int) l i h p q) r → Ev (fun k => Qi.l2 k x3 ps x5 x7 (x8 : Int) (x9 : Int) l i h p q) r := by
 induction d with
 | zero =>
  intro x9 x7 hd
  refine ⟨x7, fun r hr => Q9 ?_⟩
  simp only [Qi.l2]
  rw [Jb (x := (x8 : Int) + 1) (by omega) (by omega)]
  exact Q7 (by omega) hr
 | succ d ih =>
  intro x9 x7 hd
  cases x7 with
  | false =>
   refine ⟨false, fun r hr => Q9 ?_⟩
   simp only [Qi.l2]
   rw [Jb (x := (x8 : Int) + 1) (by omega) (by omega)]
   exact Qq (by omega) (Q7 (by decide) hr)
  | true =>
   obtain ⟨v, hv⟩ : ∃ v, Z7.f ((Qp ps (x9 : Int)).f0) ((Qp ps (x9 : Int)).f1) ((Qp ps (x8 : Int)).f0) ((Qp ps (x8 : Int)).f1) p q = some v := ⟨_, rfl⟩
   obtain ⟨aA, h'⟩ := ih (x9 + 1) (v != 0) (by omega)
   refine ⟨aA, fun r hr => Q9 ?_⟩
   simp only [Qi.l2]
   rw [Jb (x := (x9 : Int) + 1) (by omega) (by omega)]
   exact Qq (by omega) (Qq (by trivial) (Qq (by omega) (Qq (by omega) (Qq (by omega) (Qq (by omega) (Jn hv (h' r hr)))))))
theorem jIj {x3 : Int} {x5 : Nat} (h5 : x5 ≤ 12) {ps : List IP} {l : List Int} {i h p q : Int} (hps : ps.length ≤ 100) (d : Nat) : ∀ (x8 : Nat) (x7 : Bool), x8 + d = ps.length →
  ∃ ps' : List IP, ps'.length ≤ ps.length + 1 ∧ ∀ r, Ev (fun k => Qi.l0 k x3 ps' ((x5 + 1 : Nat) : Int) l i h) r → Ev (fun k => Qi.l1 k x3 ps (x5 : Int) x7 (x8 : Int) l i h p q) r := by
 have fin : ∀ (x8 : Nat) (x7 : Bool), ∃ ps' : List IP, ps'.length ≤ ps.length + 1 ∧ ∀ r, Ev (fun k => Qi.l0 k x3 ps' ((x5 + 1 : Nat) : Int) l i h) r → Ev (fun k => Qi.j3 k x3 ps (x5 : Int) x7 (x8 : Int) false l i h p q) r := by
  intro x8 x7
  cases x7 with
  | true =>
   refine ⟨ps ++ [(⟨p, q⟩ : IP)], by simp, fun r hr => Q9 ?_⟩
   simp only [Qi.j3]
   rw [Jb (x := (x5 : Int) + 1) (by omega) (by omega)]
   exact Q7 (by decide) (Qq (by trivial) (Qq (by omega) hr))
  | false =>
   refine ⟨ps, by omega, fun r hr => Q9 ?_⟩
   simp only [Qi.j3]
   rw [Jb (x := (x5 : Int) + 1) (by omega) (by omega)]
   exact Q7 (by decide) (Q7 (by decide) hr)
 induction d with
 | zero =>
  intro x8 x7 hd
  obtain ⟨ps', hl, hr⟩ := fin x8 x7
  refine ⟨ps', hl, fun r h => Q9 ?_⟩
  simp only [Qi.l1]
  exact Q7 (by omega) (hr r h)
 | succ d ih =>
  intro x8 x7 hd
  cases x7 with
  | false =>
   obtain ⟨ps', hl, hr⟩ := fin x8 false
   refine ⟨ps', hl, fun r h => Q9 ?_⟩
   simp only [Qi.l1]
   exact Qq (by omega) (hr r h)
  | true =>
   obtain ⟨aA, hi⟩ := jJf (x3 := x3) (x5 := (x5 : Int)) (l := l) (i := i) (h := h) (p := p) (q := q) (ps := ps) (x8 := x8) (by omega) hps x8 0 (!(((Qp ps (x8 : Int)).f0) == p) || (!(((Qp ps (x8 : Int)).f1) == q))) (by omega)
   obtain ⟨ps', hl, hr⟩ := ih (x8 + 1) aA (by omega)
   refine ⟨ps', hl, fun r h => Q9 ?_⟩
   simp only [Qi.l1]
   refine Qq (by omega) (Q9 ?_)
   simp only [Qi.j3]
   exact Qq (by trivial) (Qq (by omega) (Qq (by omega) (hi r (hr r h))))
theorem jHg {l : List Int} (hl : l.length ≤ 1048576) {i : Int} (hc : Cur l i) (h : Int) : ∃ (ps : List IP) (i' h' : Int), Ev (fun k => Qi.f k l i h) (ps, i', h') ∧ 3 ≤ ps.length ∧ ps.length ≤ 20 ∧ Cur l i' := by
 have done : ∀ (x5 : Nat) (ps : List IP) (i h x3 : Int), ps.length ≤ 12 → Cur l i → ∃ (ps' : List IP) (i' h' : Int), Ev (fun k => Qi.j1 k x3 ps (x5 : Int) false l i h) (ps', i', h') ∧ 3 ≤ ps'.length ∧ ps'.length ≤ 20 ∧ Cur l i' := by
  intro x5 ps i h x3 hp hc
  by_cases g : (ps.length : Int) < 3
  ·refine ⟨[(⟨0, 0⟩ : IP), (⟨4, 1⟩ : IP), (⟨1, 3⟩ : IP), (⟨2, 2⟩ : IP)], i, h, Q9 ?_, by simp, by simp, hc⟩
   simp only [Qi.j1]
   exact Q7 (by decide) (Qq g (Ev.now _))
  ·refine ⟨ps, i, h, Q9 ?_, by omega, by omega, hc⟩
   simp only [Qi.j1]
   exact Q7 (by decide) (Q7 g (Ev.now _))
 have key : ∀ (d x5 : Nat) (ps : List IP) (i h x3 : Int), x5 + d = 12 → ps.length ≤ x5 → Cur l i → ∃ (ps' : List IP) (i' h' : Int), Ev (fun k => Qi.l0 k x3 ps (x5 : Int) l i h) (ps', i', h') ∧ 3 ≤ ps'.length ∧ ps'.length ≤ 20 ∧ Cur l i' := by
  intro d
  induction d with
  | zero =>
   intro x5 ps i h x3 hd hp hc
   obtain ⟨ps', i', h', e, r⟩ := done x5 ps i h x3 (by omega) hc
   refine ⟨ps', i', h', Q9 ?_, r⟩
   simp only [Qi.l0]
   exact Q7 (by omega) e
  | succ d ih =>
   intro x5 ps i h x3 hd hp hc
   by_cases g : (ps.length : Int) < x3
   ·obtain ⟨x, i1, h1, e1, _, _, c1⟩ := Z9 hl hc h 13
    obtain ⟨y, i2, h2, e2, _, _, c2⟩ := Z9 hl c1 h1 13
    obtain ⟨aA, hl1, hr1⟩ := jIj (x3 := x3) (x5 := x5) (by omega) (l := l) (i := i2) (h := h2) (p := wrap64 (x - 6)) (q := wrap64 (y - 6)) (ps := ps) (by omega) ps.length 0 true (by omega)
    obtain ⟨ps', i', h', e, r⟩ := ih (x5 + 1) aA i2 h2 x3 (by omega) (by omega) c2
    refine ⟨ps', i', h', Q9 ?_, r⟩
    simp only [Qi.l0]
    refine Qq (by omega) (Q9 ?_)
    simp only [Qi.j1]
    exact Qq (decide_eq_true g) (Jn e1 (Jn e2 (hr1 _ e)))
   ·obtain ⟨ps', i', h', e, r⟩ := done x5 ps i h x3 (by omega) hc
    refine ⟨ps', i', h', Q9 ?_, r⟩
    simp only [Qi.l0]
    rw [decide_eq_false g]
    exact Qq (by omega) e
 obtain ⟨x, i1, h1, e1, _, _, c1⟩ := Z9 hl hc h 4
 obtain ⟨ps', i', h', e, r⟩ := key 12 0 [] i1 h1 (wrap64 (3 + x)) rfl (Nat.le_refl _) c1
 refine ⟨ps', i', h', ?_, r⟩
 unfold Qi.f
 exact Jn e1 e
theorem jGi {l : List Int} (hl : l.length ≤ 1048576) {i : Int} (hc : Cur l i) (h : Int) : ∃ (ps : List IP) (i' h' : Int), Ev (fun k => Ya.f k l i h) (ps, i', h') ∧ 3 ≤ ps.length ∧ ps.length ≤ 21 ∧ Cur l i' := by
 obtain ⟨ps, i1, h1, e1, m1, m2, c1⟩ := jHg hl hc h
 obtain ⟨x, i2, h2, e2, _, _, c2⟩ := Z9 hl c1 h1 14
 by_cases g : x = 0
 ·obtain ⟨y, i3, h3, e3, _, c3⟩ := jBv hl c2 h2 [50, 51, -51] (by decide)
  refine ⟨ps.set (0 : Int).toNat (⟨y, (Qp ps 0).f1⟩ : IP), i3, h3, ?_, ?_, ?_, c3⟩
  ·unfold Ya.f
   exact Ev.bind e1 (Jn e2 (Qq g (Jn e3 (Qq (by simp only; omega) (Ev.now _)))))
  ·rw [List.length_set]; omega
  ·rw [List.length_set]; omega
 ·by_cases g1 : x = 1
  ·refine ⟨ps ++ [(⟨(Qp ps 0).f0, (Qp ps 0).f1⟩ : IP)], i2, h2, ?_, ?_, ?_, c2⟩
   ·unfold Ya.f
    exact Ev.bind e1 (Jn e2 (Q7 g (Qq g1 (Qq (by simp only; omega) (Qq (by simp only; omega) (Ev.now _))))))
   ·rw [List.length_append]; omega
   ·rw [List.length_append, List.length_singleton]; omega
  ·refine ⟨ps, i2, h2, ?_, m1, by omega, c2⟩
   unfold Ya.f
   exact Ev.bind e1 (Jn e2 (Q7 g (Q7 g1 (Ev.now _))))
end Go.Proofs.YtckkfjdkaimmhaaGreatDoor.M
namespace Go.Proofs.YtckkfjdkaimmhaaGreatDoor.PX
open Go.RowKit Go.Proofs.YtckkfjdkaimmhaaGreatDoor.G Go.Proofs.YtckkfjdkaimmhaaGreatDoorW.PrintWords Go.Proofs.YtckkfjdkaimmhaaGreatDoorW.PrintLast Go.Proofs.YtckkfjdkaimmhaaGreatDoorW.PrintMore
attribute [local go_sem] max2_int min2_int Yv Yx Xm Xl X9 Yb   -- for this text's walks alone
set_option linter.unusedVariables false
set_option linter.unusedSimpArgs false
attribute [local go_sem high] jJ6
end Go.Proofs.YtckkfjdkaimmhaaGreatDoor.PX
namespace Go.Proofs.YtckkfjdkaimmhaaGreatDoor.PX
open Go.RowKit Go.Proofs.YtckkfjdkaimmhaaGreatDoor.G Go.Proofs.YtckkfjdkaimmhaaGreatDoorW.PrintWords Go.Proofs.YtckkfjdkaimmhaaGreatDoorW.PrintLast Go.Proofs.YtckkfjdkaimmhaaGreatDoorW.PrintMore
attribute [local go_sem] max2_int min2_int Yv Yx Xm Xl X9 Yb   -- for this text's walks alone
set_option linter.unusedVariables false
set_option linter.unusedSimpArgs false
end Go.Proofs.YtckkfjdkaimmhaaGreatDoor.PX
namespace Go.Proofs.YtckkfjdkaimmhaaGreatDoor.M
open Go.RowKit Go.Proofs.YtckkfjdkaimmhaaGreatDoorW.PrintWords Go.Proofs.YtckkfjdkaimmhaaGreatDoor.PX Go.Proofs.YtckkfjdkaimmhaaGreatDoor.G Go.Proofs.YtckkfjdkaimmhaaGreatDoorW.PrintMore
open Go.Lib (decDigits itoa parseUint10 parseMag atoiAll)
theorem Vm {u : Nat} (h : u < 10) : decDigits u = [UInt8.ofNat (48 + u)] := by rw [decDigits, dif_pos h]
theorem Uj {u : Nat} (h : ¬ u < 10) : decDigits u = decDigits (u / 10) ++ [UInt8.ofNat (48 + u % 10)] := by rw [decDigits, dif_neg h]
theorem jAj {d : Nat} (h : d < 10) : (UInt8.ofNat (48 + d)).toNat = 48 + d := by
 rw [UInt8.toNat_ofNat']
 exact Nat.mod_eq_of_lt (by omega)
theorem jKo (d : Nat) : ∀ u, u < 10 ^ (d + 1) → (decDigits u).length ≤ d + 1 := by
 induction d with
 | zero => intro u h; rw [Vm (by simpa using h)]; exact Nat.le_refl _
 | succ d ih =>
  intro u h
  by_cases g : u < 10
  ·rw [Vm g, List.length_singleton]; omega
  ·have := ih (u / 10) (by rw [Nat.pow_succ] at h; omega)
   rw [Uj g, List.length_append, List.length_singleton]; omega
theorem jGk (u : Nat) : 1 ≤ (decDigits u).length := by
 by_cases g : u < 10
 ·rw [Vm g]; exact Nat.le_refl _
 ·rw [Uj g, List.length_append, List.length_singleton]; omega
theorem jH3 (d : Nat) : ∀ u, u < 10 ^ (d + 1) → ∀ c ∈ decDigits u, 48 ≤ c.toNat ∧ c.toNat ≤ 57 := by
 induction d with
 | zero =>
  intro u h c hc
  have h : u < 10 := by simpa using h
  rw [Vm h, List.mem_singleton] at hc
  rw [hc, jAj h]
  omega
 | succ d ih =>
  intro u h c hc
  by_cases g : u < 10
  ·rw [Vm g, List.mem_singleton] at hc
   rw [hc, jAj g]
   omega
  ·rw [Uj g, List.mem_append, List.mem_singleton] at hc
   rcases hc with hc | hc
   ·exact ih (u / 10) (by rw [Nat.pow_succ] at h; omega) c hc
   ·rw [hc, jAj (Nat.mod_lt _ (by omega))]
    have := Nat.mod_lt u (show 0 < 10 by omega)
    omega
/-! ### the library's reading -/
theorem jHo (l r : List UInt8) : ∀ acc a, parseUint10 acc l = .ok a → parseUint10 acc (l ++ r) = parseUint10 a r := by
 induction l with
 | nil => intro acc a h; simp only [parseUint10] at h; cases h; rfl
 | cons c l ih =>
  intro acc a h
  simp only [parseUint10, List.cons_append] at h ⊢
  split at h
  ·rename_i h1
   rw [if_pos h1]
   split at h
   ·cases h
   ·rename_i h2
    rw [if_neg h2]
    split at h
    ·cases h
    ·rename_i h3
     rw [if_neg h3]
     exact ih _ _ h
  ·cases h
theorem jG3 (d : Nat) : ∀ u, u < 10 ^ (d + 1) → u < 18446744073709551616 → parseUint10 0 (decDigits u) = .ok u := by
 have one : ∀ a x : Nat, x < 10 → a < 1844674407370955162 → a * 10 + x < 18446744073709551616 → parseUint10 a [UInt8.ofNat (48 + x)] = .ok (a * 10 + x) := by
  intro a x hx h1 h2
  simp only [parseUint10, jAj hx]
  rw [if_pos (by omega), if_neg (by omega), if_neg (by omega)]
  congr 1
  omega
 induction d with
 | zero =>
  intro u h _
  have h : u < 10 := by simpa using h
  rw [Vm h, one 0 u h (by omega) (by omega), Nat.zero_mul, Nat.zero_add]
 | succ d ih =>
  intro u h h2
  by_cases g : u < 10
  ·rw [Vm g, one 0 u g (by omega) (by omega), Nat.zero_mul, Nat.zero_add]
  ·rw [Uj g, jHo _ _ _ _ (ih (u / 10) (by rw [Nat.pow_succ] at h; omega) (by omega)), one (u / 10) (u % 10) (Nat.mod_lt _ (by omega)) (by omega) (by omega)]
   congr 1
   omega
theorem jJw (u : Nat) : decDigits u ≠ [] := fun h => by have := jGk u; rw [h] at this; exact absurd this (by decide)
theorem jMd {u : Nat} (h : u < 18446744073709551616) : u < 10 ^ (19 + 1) := by omega
theorem jHp {u : Nat} (h : u < 18446744073709551616) : parseMag (decDigits u) = .ok u := by
 unfold parseMag
 rw [if_neg (jJw u)]
 exact jG3 19 u (jMd h) h
theorem jFg {u : Nat} (h : u < 18446744073709551616) : ∃ c r, decDigits u = c :: r ∧ 48 ≤ c.toNat ∧ c.toNat ≤ 57 := by
 cases e : decDigits u with
 | nil => exact absurd e (jJw u)
 | cons c r =>
  have := jH3 19 u (jMd h) c (by rw [e]; exact List.mem_cons_self)
  exact ⟨c, r, rfl, this⟩
theorem jAl {n : Int} (h0 : -9223372036854775808 ≤ n) (h1 : n ≤ 9223372036854775807) : atoiAll (itoa n) = .ok n := by
 unfold itoa
 by_cases g : n < 0
 ·rw [if_pos g, Lib.atoiAll_minus, jHp (by omega)]
  unfold Lib.signed
  simp only
  rw [if_neg (by omega)]
  congr 1
  omega
 ·rw [if_neg g]
  obtain ⟨c, r, e, c1, c2⟩ := jFg (u := n.toNat) (by omega)
  have hm := jHp (u := n.toNat) (by omega)
  rw [e] at hm ⊢
  rw [Lib.atoiAll_plain c r (by omega) (by omega), hm]
  unfold Lib.signless
  simp only
  rw [if_neg (by omega)]
  congr 1
  omega
theorem Y0 (n : Int) : (Xu n).data.toList = itoa n := rfl
theorem jHc {m n : Int} (hm : -9223372036854775808 ≤ m ∧ m ≤ 9223372036854775807) (hn : -9223372036854775808 ≤ n ∧ n ≤ 9223372036854775807) (h : Xu m = Xu n) : m = n := by
 have e1 := jAl hm.1 hm.2
 have e2 := jAl hn.1 hn.2
 rw [← Y0, h, Y0, e2] at e1
 injection e1 with e1
 exact e1.symm
/-! ### the reference's text -/
theorem jFb (a b : List UInt8) : (⟨a.toArray⟩ : ByteArray) ++ ⟨b.toArray⟩ = ⟨(a ++ b).toArray⟩ := by
 apply ByteArray.ext
 simp
theorem jIr (neg : Bool) (d : Nat) : ∀ (x : Int) (l : List UInt8), x.natAbs < 10 ^ d → l.length + d ≤ 1000 → -9223372036854775808 ≤ x → x ≤ 9223372036854775807 →
  Ev (fun k => Ji.l0 k x neg ⟨l.toArray⟩) ⟨((if neg = true then [45] else []) ++ ((if x = 0 then [] else decDigits x.natAbs) ++ l)).toArray⟩ := by
 have exit : ∀ (l : List UInt8), l.length ≤ 1000 → Ev (fun k => Ji.l0 k 0 neg ⟨l.toArray⟩) ⟨((if neg = true then [45] else []) ++ ((if (0 : Int) = 0 then [] else decDigits (0 : Int).natAbs) ++ l)).toArray⟩ := by
  intro l hl
  refine Q9 ?_
  simp only [Ji.l0]
  refine Qq (by first | rfl | trivial) ?_
  cases neg with
  | true =>
   refine Qq (by first | rfl | trivial) (Qq ?_ (Zn (Ev.now _) ?_))
   ·show 1 + l.length ≤ _
    omega
   ·exact jFb [45] l
  | false => exact Q7 (by simp) (Ev.now _)
 induction d with
 | zero =>
  intro x l hx hl _ _
  have : x = 0 := by simp at hx; exact hx
  subst this
  exact exit l (by omega)
 | succ d ih =>
  intro x l hx hl h0 h1
  by_cases g : x = 0
  ·subst g
   exact exit l (by omega)
  ·have ml := Nat.mod_lt x.natAbs (show 0 < 10 by omega)
   have td : (Int.tdiv x 10).natAbs = x.natAbs / 10 := by
    rcases Int.natAbs_eq x with e | e
    ·rw [e]; exact Int.natAbs_natCast _
    ·rw [e, Int.neg_tdiv, Int.natAbs_neg, Int.natAbs_neg]; exact Int.natAbs_natCast _
   have tm : Int.tmod x 10 = if x < 0 then -((x.natAbs % 10 : Nat) : Int) else ((x.natAbs % 10 : Nat) : Int) := by
    rcases Int.natAbs_eq x with e | e
    ·rw [if_neg (by omega)]
     conv => lhs; rw [e]
     rfl
    ·rw [if_pos (by omega)]
     conv => lhs; rw [e, Int.neg_tmod]
     rfl
   have tz : Int.tdiv x 10 = 0 ↔ x.natAbs < 10 := by omega
   have tb : -9223372036854775808 ≤ Int.tdiv x 10 ∧ Int.tdiv x 10 ≤ 9223372036854775807 := by
    have : x.natAbs ≤ 9223372036854775808 := by omega
    omega
   have nx := ih (Int.tdiv x 10) (UInt8.ofNat (48 + x.natAbs % 10) :: l) (by rw [td]; rw [Nat.pow_succ] at hx; omega) (by rw [List.length_cons]; omega) tb.1 tb.2
   have fin : ((if neg = true then [45] else []) ++ ((if Int.tdiv x 10 = 0 then [] else decDigits (Int.tdiv x 10).natAbs) ++ UInt8.ofNat (48 + x.natAbs % 10) :: l) : List UInt8) = (if neg = true then [45] else []) ++ ((if x = 0 then [] else decDigits x.natAbs) ++ l) := by
    rw [if_neg g, td]
    by_cases s : x.natAbs < 10
    ·rw [if_pos (tz.2 s), Vm s, Nat.mod_eq_of_lt s]
     rfl
    ·rw [if_neg (fun e => s (tz.1 e)), Uj s, List.append_assoc]
     rfl
   rw [fin] at nx
   have go : ∀ y : Int, y = 48 + ((x.natAbs % 10 : Nat) : Int) → Ev (fun k => (some (([y % 256] : List Int) : List Int)).bind fun y101 => (if (strOfNums y101).size + (⟨l.toArray⟩ : ByteArray).size ≤ 9223372036854775807 then (Ji.l0 k (wrap64 (Int.tdiv x 10)) neg ((strOfNums y101) ++ ⟨l.toArray⟩)) else (none)))
     ⟨((if neg = true then [45] else []) ++ ((if x = 0 then [] else decDigits x.natAbs) ++ l)).toArray⟩ := by
    intro y hy
    have e : y % 256 = ((48 + x.natAbs % 10 : Nat) : Int) := by omega
    rw [e]
    refine Jn rfl (Qq ?_ ?_)
    ·show 1 + l.length ≤ _
     omega
    ·rw [Jb tb.1 tb.2]
     have e2 : strOfNums [((48 + x.natAbs % 10 : Nat) : Int)] ++ (⟨l.toArray⟩ : ByteArray) = ⟨(UInt8.ofNat (48 + x.natAbs % 10) :: l).toArray⟩ := jFb [UInt8.ofNat (48 + x.natAbs % 10)] l
     rw [e2]
     exact nx
   refine Q9 ?_
   simp only [Ji.l0]
   refine Q7 g ?_
   by_cases s : Int.tmod x 10 < 0
   ·refine Qq s (go _ ?_)
    rw [tm] at s ⊢
    split at s
    ·rename_i s'
     rw [if_pos s', Jb (x := -(-((x.natAbs % 10 : Nat) : Int))) (by omega) (by omega), Jb (by omega) (by omega)]
     omega
    ·omega
   ·refine Q7 s (go _ ?_)
    rw [tm] at s ⊢
    split at s
    ·rename_i s'
     rw [if_pos s', Jb (by omega) (by omega)]
     omega
    ·rename_i s'
     rw [if_neg s', Jb (by omega) (by omega)]
theorem jCc {n : Int} (h0 : -9223372036854775808 ≤ n) (h1 : n ≤ 9223372036854775807) : Ev (fun k => Ji.f k n) (Xu n) := by
 unfold Ji.f
 by_cases g : n = 0
 ·subst g
  exact Qq rfl (Zn (Ev.now _) (show (⟨#[48]⟩ : ByteArray) = ⟨(decDigits 0).toArray⟩ by rw [Vm (by decide)]; rfl))
 ·refine Q7 g (Zn (jIr (decide (n < 0)) 19 n [] (by omega) (by decide) h0 h1) ?_)
  unfold Xu itoa
  rw [if_neg g, List.append_nil]
  by_cases s : n < 0
  ·rw [decide_eq_true s, if_pos rfl, if_pos s]
   rfl
  ·rw [decide_eq_false s, if_neg (by simp), if_neg s, show n.natAbs = n.toNat by omega]
   rfl
theorem jH9 {n : Int} (h0 : -9223372036854775808 ≤ n) (h1 : n ≤ 9223372036854775807) : Yf.f n = some (Xu n) := if_pos ⟨h0, h1⟩
end Go.Proofs.YtckkfjdkaimmhaaGreatDoor.M
namespace Go.Proofs.YtckkfjdkaimmhaaGreatDoor.PX
open Go.RowKit Go.Proofs.YtckkfjdkaimmhaaGreatDoor.G Go.Proofs.YtckkfjdkaimmhaaGreatDoorW.PrintWords Go.Proofs.YtckkfjdkaimmhaaGreatDoorW.PrintLast Go.Proofs.YtckkfjdkaimmhaaGreatDoorW.PrintMore
attribute [local go_sem] max2_int min2_int Yv Yx Xm Xl X9 Yb   -- for this text's walks alone
set_option linter.unusedVariables false
set_option linter.unusedSimpArgs false
end Go.Proofs.YtckkfjdkaimmhaaGreatDoor.PX
