/- A part of proofs about signs and points: what some functions answer, and that their calls answer so. No condition. -/
import Derived.Test.YtckkfjdkaimmhaaGreatDoorProg
import Derived.Laws.Bits128
import Derived.Lib.AtoiAllCases
import Derived.Lib.ItoaNum
import Derived.Lib.IndexMore
import Derived.Test.YtckkfjdkaimmhaaGreatDoorV1
import Derived.Test.YtckkfjdkaimmhaaGreatDoorBkqzpml1
import Derived.Test.YtckkfjdkaimmhaaGreatDoorBkqzpml2
import Derived.Test.YtckkfjdkaimmhaaGreatDoorBkqzpml3
set_option linter.unusedVariables false
set_option linter.unusedSimpArgs false
namespace Go.Proofs.YtckkfjdkaimmhaaGreatDoor.PX
open Go.RowKit Go.Proofs.YtckkfjdkaimmhaaGreatDoor.G Go.Proofs.YtckkfjdkaimmhaaGreatDoorW.PrintWords Go.Proofs.YtckkfjdkaimmhaaGreatDoorW.PrintLast Go.Proofs.YtckkfjdkaimmhaaGreatDoorW.PrintMore
attribute [local go_sem] max2_int min2_int Yi Yh Z4 Z7 Xk Xn   -- for this text's walks alone
set_option linter.unusedVariables false
set_option linter.unusedSimpArgs false
mutual
noncomputable def Qc.j0 : Nat → List (S48) → List (S48) → List (S48) → Bool → List (S48) → Bool → Int → Int → Int → Int → Int → Int → Option (Bool)
 | 0, _, _, _, _, _, _, _, _, _, _, _, _ => none
 | k + 1, x6, aT, aU, aV, x20, aW, aA, aC, aD, aG, aH, aI => if aW = true then (some false) else ((Q4.f k x6).bind fun aK => ((Jd.f k aK).bind fun aJ => ((Qx.f k x6).bind fun aM => (if aK.toList = aM.toList then ((Qh.f k x6).bind fun aN => (if (aJ.2 != aN) = true then (Qc.j1 k aT aU aV x20 true aA aC aD aG aH aI) else (if aJ.2 = true then ((Qu.f k aJ.1 x6).bind fun aQ => (Qc.j1 k aT aU aV x20 (!aQ) aA aC aD aG aH aI)) else (Qc.j1 k aT aU aV x20 false aA aC aD aG aH aI)))) else (Qc.j1 k aT aU aV x20 true aA aC aD aG aH aI)))))
noncomputable def Qc.j1 : Nat → List (S48) → List (S48) → Bool → List (S48) → Bool → Int → Int → Int → Int → Int → Int → Option (Bool)
 | 0, _, _, _, _, _, _, _, _, _, _, _ => none
 | k + 1, aT, aU, aV, x20, aQ, aA, aC, aD, aG, aH, aI => if aQ = true then (some false) else ((Jo.f aA aC aD aG aH aI).bind fun aJ => ((Jo.f aD aG aH aI aA aC).bind fun aK => (if aJ = aK then ((Jo.f aA aC aD aG aH aI).bind fun aM => ((Jo.f aD aG aA aC aH aI).bind fun aN => (Qc.j2 k aT aU aV x20 (aM != (wrap64 (-aN)))))) else (Qc.j2 k aT aU aV x20 true))))
noncomputable def Qc.j2 : Nat → List (S48) → List (S48) → Bool → List (S48) → Bool → Option (Bool)
 | 0, _, _, _, _, _ => none
 | k + 1, aC, aD, aG, x20, aA => if aA = true then (some false) else (Qc.l0 k aC aD aG x20 1)
noncomputable def Qc.l0 : Nat → List (S48) → List (S48) → Bool → List (S48) → Int → Option (Bool)
 | 0, _, _, _, _, _ => none
 | k + 1, aA, aC, aD, x20, x24 => if x24 < (x20.length : Int) then (if 0 ≤ (wrap64 (x24 - 1)) then (if (wrap64 (x24 - 1)) < (x20.length : Int) then (if 0 ≤ x24 then (if ((Qb x20 (wrap64 (x24 - 1))).f0) > ((Qb x20 x24).f0) then (some false) else (if ((Qb x20 (wrap64 (x24 - 1))).f0) = ((Qb x20 x24).f0) then (if ((Qb x20 (wrap64 (x24 - 1))).f1) ≥ ((Qb x20 x24).f1) then (some false) else (Qc.l0 k aA aC aD x20 (wrap64 (x24 + 1)))) else (Qc.l0 k aA aC aD x20 (wrap64 (x24 + 1))))) else (none)) else (none)) else (none)) else (Qc.l1 k aA aC aD 2)
noncomputable def Qc.l1 : Nat → List (S48) → List (S48) → Bool → Int → Option (Bool)
 | 0, _, _, _, _ => none
 | k + 1, aA, aD, aC, x25 => if aC = true then (Qc.j5 k aA aD aC x25 (decide (x25 < (aA.length : Int)))) else (Qc.j5 k aA aD aC x25 false)
noncomputable def Qc.j5 : Nat → List (S48) → List (S48) → Bool → Int → Bool → Option (Bool)
 | 0, _, _, _, _, _ => none
 | k + 1, aA, aC, aI, x25, aH => if aH = true then (if 0 < (aA.length : Int) then (if 1 < (aA.length : Int) then (if 0 ≤ x25 then (if x25 < (aA.length : Int) then ((Zm.f ((Qb aA 0).f0) ((Qb aA 0).f1) ((Qb aA 1).f0) ((Qb aA 1).f1) ((Qb aA x25).f0) ((Qb aA x25).f1)).bind fun aD => (if 0 < (aC.length : Int) then (if 1 < (aC.length : Int) then (if x25 < (aC.length : Int) then ((Zm.f ((Qb aC 0).f0) ((Qb aC 0).f1) ((Qb aC 1).f0) ((Qb aC 1).f1) ((Qb aC x25).f0) ((Qb aC x25).f1)).bind fun aG => (if aD = aG then (Qc.l1 k aA aC aI (wrap64 (x25 + 1))) else (some false))) else (none)) else (none)) else (none))) else (none)) else (none)) else (none)) else (none)) else (some true)
end
noncomputable def Qc.f (k : Nat) (l0 : List Int) : Option (Bool) := (Y3.f l0).bind fun aQ => (if aQ = true then (some true) else ((Zh.f k l0).bind fun aA => ((Jz.f k l0).bind fun aG => ((Jv.f k l0).bind fun aN => ((Jd.f k aN).bind fun aJ => ((Ji.f k aN).bind fun aK => ((Ju.f k l0).bind fun aD => ((Qv.f k aD.1 aD.2).bind fun aC => ((Qm.f k aD.1 aD.2).bind fun aM => ((Jt.f k l0).bind fun aI => ((Zg.f aG).bind fun aH => ((Jo.f aA.1 aA.2.1 aA.2.2.1 aA.2.2.2.1 aA.2.2.2.2.1 aA.2.2.2.2.2).bind fun aT => ((Xi.f aA.1 aA.2.1 aA.2.2.1 aA.2.2.2.1 aA.2.2.2.2.1 aA.2.2.2.2.2).bind fun aU => (if aT = aU then ((Zm.f aA.1 aA.2.1 aA.2.2.1 aA.2.2.2.1 aA.2.2.2.2.1 aA.2.2.2.2.2).bind fun aV => ((Zw.f aA.1 aA.2.1 aA.2.2.1 aA.2.2.2.1 aA.2.2.2.2.1 aA.2.2.2.2.2).bind fun aW => (if aV = aW then (if (aJ.2 != aK.2) = true then (Qc.j0 k aG aD.1 aC.1 aC.2 aH true aA.1 aA.2.1 aA.2.2.1 aA.2.2.2.1 aA.2.2.2.2.1 aA.2.2.2.2.2) else ((Qu.f k aJ.1 aK.1).bind fun aX => (if aX = true then (if (aC.2 != aM.2) = true then (Qc.j0 k aG aD.1 aC.1 aC.2 aH true aA.1 aA.2.1 aA.2.2.1 aA.2.2.2.1 aA.2.2.2.2.1 aA.2.2.2.2.2) else ((Qu.f k aC.1 aM.1).bind fun aY => (if aY = true then ((Zc.f k aI.1 aI.2).bind fun aZ => ((Qu.f k aI.1 aI.2).bind fun bA => (if (aZ != bA) = true then (Qc.j0 k aG aD.1 aC.1 aC.2 aH true aA.1 aA.2.1 aA.2.2.1 aA.2.2.2.1 aA.2.2.2.2.1 aA.2.2.2.2.2) else ((Qg.f k aG).bind fun bB => ((Qu.f k aH bB).bind fun bC => (if bC = true then ((Qf.f k aG).bind fun bD => ((Qh.f k aG).bind fun bE => (Qc.j0 k aG aD.1 aC.1 aC.2 aH (bD != bE) aA.1 aA.2.1 aA.2.2.1 aA.2.2.2.1 aA.2.2.2.2.1 aA.2.2.2.2.2))) else (Qc.j0 k aG aD.1 aC.1 aC.2 aH true aA.1 aA.2.1 aA.2.2.1 aA.2.2.2.1 aA.2.2.2.2.1 aA.2.2.2.2.2))))))) else (Qc.j0 k aG aD.1 aC.1 aC.2 aH true aA.1 aA.2.1 aA.2.2.1 aA.2.2.2.1 aA.2.2.2.2.1 aA.2.2.2.2.2)))) else (Qc.j0 k aG aD.1 aC.1 aC.2 aH true aA.1 aA.2.1 aA.2.2.1 aA.2.2.2.1 aA.2.2.2.2.1 aA.2.2.2.2.2)))) else (Qc.j0 k aG aD.1 aC.1 aC.2 aH true aA.1 aA.2.1 aA.2.2.1 aA.2.2.2.1 aA.2.2.2.2.1 aA.2.2.2.2.2)))) else (Qc.j0 k aG aD.1 aC.1 aC.2 aH true aA.1 aA.2.1 aA.2.2.1 aA.2.2.2.1 aA.2.2.2.2.1 aA.2.2.2.2.2)))))))))))))))
def Qc.T13 : Bool × List (List Nat × List Nat) := (true, [([], []), ([], []), ([], []), ([0, 1, 2], [0, 1, 2]), ([], []), ([], []), ([], []), ([4, 5, 6, 3], [4, 5, 6]), ([3, 7], [3, 7]), ([8, 7], [8]), ([9], [9]), ([9], [9]), ([9], [9]), ([10, 11, 12, 9, 9], [9, 10, 11, 12]), ([9], [9]), ([9], [9]), ([9], [9]), ([14, 15, 16, 13, 9], [9, 14, 15, 16]), ([13, 17, 9], [9, 13, 17]), ([9, 18], [9, 18]), ([19, 17], [19]), ([20], [20]), ([20], [20]), ([21, 22, 20], [20, 21, 22]), ([20, 23], [20, 23]), ([24, 20], [24]), ([25], [25]), ([25], [25]), ([26, 27, 25, 25], [25, 26, 27]), ([28, 25], [25, 28]), ([25, 29], [25, 29]), ([30, 28], [30]), ([31], [31]), ([31], [31]), ([32, 33, 31], [31, 32, 33]), ([31, 34], [31, 34]), ([35, 31], [35]), ([36], [36]), ([36], [36]), ([37, 38, 36, 36], [36, 37, 38]), ([39, 36], [36, 39]), ([36, 40], [36, 40]), ([41, 39], [41]), ([42], [42]), ([42], [42]), ([43, 44, 42, 42], [42, 43, 44]), ([42], [42]), ([42], [42]), ([46, 47, 45, 42], [42, 46, 47]), ([45, 48, 42], [42, 45, 48]), ([42, 49], [42, 49]), ([50, 48], [50]), ([51], [51]), ([51], [51]), ([53, 51, 51], [51, 53]), ([52, 54, 54, 51], [51, 52, 54]), ([55, 51], [51, 55]), ([51, 56], [51, 56]), ([57, 55], [57]), ([58], [58]), ([59, 58, 58], [58, 59]), ([58], [58]), ([61, 60, 58], [58, 61]), ([60, 62, 58], [58, 60, 62]), ([58, 63], [58, 63])])
def Qc.B13 : List Nat := [0, 0, 0, 7, 0, 0, 0, 127, 255, 511, 1023, 1023, 1023, 8191, 1023, 1023, 1023, 131071, 262143, 524287, 1048575, 2097151, 2097151, 8388607, 16777215, 33554431, 67108863, 67108863, 268435455, 536870911, 1073741823, 2147483647, 4294967295, 4294967295, 17179869183, 34359738367, 68719476735, 137438953471, 137438953471, 549755813887, 1099511627775, 2199023255551, 4398046511103, 8796093022207, 8796093022207, 35184372088831, 8796093022207, 8796093022207, 281474976710655, 562949953421311, 1125899906842623, 2251799813685247, 4503599627370495, 4503599627370495, 13510798882111487, 36028797018963967, 72057594037927935, 144115188075855871, 288230376151711743, 576460752303423487, 1152921504606846975, 576460752303423487, 4611686018427387903, 9223372036854775807, 18446744073709551615]
theorem Qc.tab13 : Vj .any (opsOf Tryz.f4 13) = Qc.T13 := by kernel_rfl
theorem Qc.bits13 : Z5 Qc.T13.2 Qc.B13 = true := by kernel_rfl
def Qc.T19 : Bool × List (List Nat × List Nat) := (true, [([], []), ([], []), ([], []), ([0, 1, 2], [0, 1, 2]), ([], []), ([], []), ([], []), ([4, 5, 6, 3], [4, 5, 6]), ([3, 7], [3, 7]), ([8, 7], [8]), ([9], [9]), ([9], [9]), ([9], [9]), ([10, 11, 12, 9, 9], [9, 10, 11, 12]), ([9], [9]), ([9], [9]), ([9], [9]), ([14, 15, 16, 13, 9], [9, 14, 15, 16]), ([17, 9], [9, 17]), ([13, 18, 9], [9, 13, 18]), ([9, 19], [9, 19])])
def Qc.B19 : List Nat := [0, 0, 0, 7, 0, 0, 0, 127, 255, 511, 1023, 1023, 1023, 8191, 1023, 1023, 1023, 131071, 262143, 524287, 1048575]
theorem Qc.tab19 : Vj .any (opsOf Tryz.f4 19) = Qc.T19 := by kernel_rfl
theorem Qc.bits19 : Z5 Qc.T19.2 Qc.B19 = true := by kernel_rfl
def Qc.T24 : Bool × List (List Nat × List Nat) := (true, [([], []), ([], []), ([1], [1]), ([0, 2], [0, 2]), ([3], [3]), ([4], [4]), ([], []), ([], []), ([6, 7], [6, 7]), ([8], [8]), ([9], [9]), ([5, 10], [5, 10]), ([11], [11]), ([12], [12]), ([12], [12]), ([14, 12], [12, 14]), ([13, 15, 12], [12, 13, 15]), ([16, 12], [12, 16]), ([17, 12], [12, 17]), ([12], [12]), ([12], [12]), ([19, 20, 12], [12, 19, 20]), ([21, 12], [12, 21]), ([22, 12], [12, 22]), ([18, 23, 12], [12, 18, 23]), ([24, 12, 12], [12, 24]), ([25], [25]), ([25], [25]), ([27, 25], [25, 27]), ([26, 28, 25], [25, 26, 28]), ([29, 25], [25, 29]), ([30, 25], [25, 30]), ([25], [25]), ([25], [25]), ([32, 33, 25], [25, 32, 33]), ([34, 25], [25, 34]), ([35, 25], [25, 35]), ([31, 36, 25], [25, 31, 36]), ([25, 37, 12], [12, 25, 37]), ([12, 38], [12, 38])])
def Qc.B24 : List Nat := [0, 0, 2, 7, 15, 31, 0, 0, 192, 448, 960, 2047, 4095, 8191, 8191, 24575, 65535, 131071, 262143, 8191, 8191, 1581055, 3678207, 7872511, 16777215, 33554431, 67108863, 67108863, 201326591, 536870911, 1073741823, 2147483647, 67108863, 67108863, 12952010751, 30131879935, 64491618303, 137438953471, 274877906943, 549755813887]
theorem Qc.tab24 : Vj .any (opsOf Tryz.f4 24) = Qc.T24 := by kernel_rfl
theorem Qc.bits24 : Z5 Qc.T24.2 Qc.B24 = true := by kernel_rfl
def Qc.T29 : Bool × List (List Nat × List Nat) := (true, [([], []), ([0], [0]), ([1], [1]), ([], []), ([3], [3]), ([4], [4]), ([], []), ([], []), ([6, 7], [6, 7]), ([8], [8]), ([2, 5, 9], [2, 5, 9]), ([], []), ([11], [11]), ([12], [12]), ([], []), ([14], [14]), ([15], [15]), ([], []), ([], []), ([17, 18], [17, 18]), ([19], [19]), ([13, 16, 20, 10], [13, 16, 20]), ([10, 21], [10, 21])])
def Qc.B29 : List Nat := [0, 1, 3, 0, 8, 24, 0, 0, 192, 448, 1023, 0, 2048, 6144, 0, 16384, 49152, 0, 0, 393216, 917504, 2097151, 4194303]
theorem Qc.tab29 : Vj .any (opsOf Tryz.f4 29) = Qc.T29 := by kernel_rfl
theorem Qc.bits29 : Z5 Qc.T29.2 Qc.B29 = true := by kernel_rfl
theorem Qc.j0_no (k : Nat) (y0 : List (S48)) (y1 : List (S48)) (y2 : List (S48)) (y3 : Bool) (y4 : List (S48)) (y6 : Int) (y7 : Int) (y8 : Int) (y9 : Int) (aA : Int) (aC : Int) (r : Bool) (h_ : r = true) : ¬ Qc.j0 k y0 y1 y2 y3 y4 true y6 y7 y8 y9 aA aC = some r := by
 subst h_
 cases k <;> simp [Qc.j0]
theorem Qc.j1_no (k : Nat) (y0 : List (S48)) (y1 : List (S48)) (y2 : Bool) (y3 : List (S48)) (y5 : Int) (y6 : Int) (y7 : Int) (y8 : Int) (y9 : Int) (aA : Int) (r : Bool) (h_ : r = true) : ¬ Qc.j1 k y0 y1 y2 y3 true y5 y6 y7 y8 y9 aA = some r := by
 subst h_
 cases k <;> simp [Qc.j1]
theorem Qc.j2_no (k : Nat) (y0 : List (S48)) (y1 : List (S48)) (y2 : Bool) (y3 : List (S48)) (r : Bool) (h_ : r = true) : ¬ Qc.j2 k y0 y1 y2 y3 true = some r := by
 subst h_
 cases k <;> simp [Qc.j2]
theorem jCk {p q p0 p1 p2 : Prop} (g : p) (g0 : p0) (g1 : p1) (g2 : p2) (h : p → p0 → p1 → p2 → q := by intro zg_ aA aC aD; repeat (first | (with_reducible first | exact zg_ | apply Qw | apply Qs | apply Qp | refine Q5 ?_ aA | refine Q5 ?_ aC | refine Q5 ?_ aD) | exact zg_)) : q := h g g0 g1 g2
set_option maxHeartbeats 8000000 in
set_option maxRecDepth 100000 in
theorem Qc.calls (k : Nat) (A0 : Option Addr) (c0 : Nat) (l0 : List Int) (r : Bool) (w : World) (hr0 : Kd.C (Kd.int .u8) w A0 l0.length l0) (hc0 : l0.length ≤ c0) (h : Qc.f k l0 = some r) (hr_ : r = true) (hT : T3 w) :
  Calls Tryz.prog 4 #[.slice A0 l0.length c0] w fun e w' => e = .returned (.bool r) ∧ Below w.heap.size w w' := by
 have HT := Qa.mk hT
 clear hT
 have sW := Tryz.underlying48
 have kL := Qa.mk hr0
 have kM := Qa.mk hc0
 clear hr0 hc0
 have HB := Qa.mk (Below.refl w.heap.size w)
 have H : ((Y3.f l0).bind fun iC => (if iC = true then (some true) else ((Zh.f k l0).bind fun aG => ((Jz.f k l0).bind fun bO => ((Jv.f k l0).bind fun fI => ((Jd.f k fI).bind fun iD => ((Ji.f k fI).bind fun iE => ((Ju.f k l0).bind fun bV => ((Qv.f k bV.1 bV.2).bind fun bU => ((Qm.f k bV.1 bV.2).bind fun iF => ((Jt.f k l0).bind fun fM => ((Zg.f bO).bind fun aM => ((Jo.f aG.1 aG.2.1 aG.2.2.1 aG.2.2.2.1 aG.2.2.2.2.1 aG.2.2.2.2.2).bind fun iG => ((Xi.f aG.1 aG.2.1 aG.2.2.1 aG.2.2.2.1 aG.2.2.2.2.1 aG.2.2.2.2.2).bind fun iH => (if iG = iH then ((Zm.f aG.1 aG.2.1 aG.2.2.1 aG.2.2.2.1 aG.2.2.2.2.1 aG.2.2.2.2.2).bind fun iI => ((Zw.f aG.1 aG.2.1 aG.2.2.1 aG.2.2.2.1 aG.2.2.2.2.1 aG.2.2.2.2.2).bind fun iJ => (if iI = iJ then (if (iD.2 != iE.2) = true then (Qc.j0 k bO bV.1 bU.1 bU.2 aM true aG.1 aG.2.1 aG.2.2.1 aG.2.2.2.1 aG.2.2.2.2.1 aG.2.2.2.2.2) else ((Qu.f k iD.1 iE.1).bind fun iK => (if iK = true then (if (bU.2 != iF.2) = true then (Qc.j0 k bO bV.1 bU.1 bU.2 aM true aG.1 aG.2.1 aG.2.2.1 aG.2.2.2.1 aG.2.2.2.2.1 aG.2.2.2.2.2) else ((Qu.f k bU.1 iF.1).bind fun iL => (if iL = true then ((Zc.f k fM.1 fM.2).bind fun fJ => ((Qu.f k fM.1 fM.2).bind fun fK => (if (fJ != fK) = true then (Qc.j0 k bO bV.1 bU.1 bU.2 aM true aG.1 aG.2.1 aG.2.2.1 aG.2.2.2.1 aG.2.2.2.2.1 aG.2.2.2.2.2) else ((Qg.f k bO).bind fun fO => ((Qu.f k aM fO).bind fun iM => (if iM = true then ((Qf.f k bO).bind fun gW => ((Qh.f k bO).bind fun gX => (Qc.j0 k bO bV.1 bU.1 bU.2 aM (gW != gX) aG.1 aG.2.1 aG.2.2.1 aG.2.2.2.1 aG.2.2.2.2.1 aG.2.2.2.2.2))) else (Qc.j0 k bO bV.1 bU.1 bU.2 aM true aG.1 aG.2.1 aG.2.2.1 aG.2.2.2.1 aG.2.2.2.2.1 aG.2.2.2.2.2))))))) else (Qc.j0 k bO bV.1 bU.1 bU.2 aM true aG.1 aG.2.1 aG.2.2.1 aG.2.2.2.1 aG.2.2.2.2.1 aG.2.2.2.2.2)))) else (Qc.j0 k bO bV.1 bU.1 bU.2 aM true aG.1 aG.2.1 aG.2.2.1 aG.2.2.2.1 aG.2.2.2.2.1 aG.2.2.2.2.2)))) else (Qc.j0 k bO bV.1 bU.1 bU.2 aM true aG.1 aG.2.1 aG.2.2.1 aG.2.2.2.1 aG.2.2.2.2.1 aG.2.2.2.2.2)))) else (Qc.j0 k bO bV.1 bU.1 bU.2 aM true aG.1 aG.2.1 aG.2.2.1 aG.2.2.2.1 aG.2.2.2.2.1 aG.2.2.2.2.2)))))))))))))))) = some r := h
 clear h
 obtain ⟨iC, A2, H⟩ := zO H
 by_cases c3 : iC = true
 ·subst c3
  replace H := (if_pos rfl).symm.trans H
  obtain rfl := Option.some.inj H
  go_enter Tryz.func4, Tryz.ntmps4
  go_wp2_with (first | ((with_reducible refine Qd (f := 5) rfl ?_); refine zD (some 27) Tryz.func5 #[.slice A0 l0.length c0] ((Y3.calls _ _ l0 true _ ?bD ?bE A2.out).mono ?_); (case bD => exact zc kL.out); (case bE => exact kM.out); rintro e w' ⟨rfl, ⟨nd, rfl⟩⟩; refine ⟨_, rfl, ?_⟩))
  go_ret
  exact ⟨zE, zB⟩
 replace c3 := Bool.eq_false_iff.mpr c3
 subst c3
 replace H := (if_neg zFf).symm.trans H
 obtain ⟨⟨bI, bJ, bK, bL, bM, bN⟩, A4, H⟩ := zO H
 dsimp only at H
 obtain ⟨bO, A5, H⟩ := zO H
 obtain ⟨fI, A6, H⟩ := zO H
 obtain ⟨⟨iN, gY⟩, A7, H⟩ := zO H
 dsimp only at H
 obtain ⟨⟨iO, gZ⟩, A8, H⟩ := zO H
 dsimp only at H
 obtain ⟨⟨aN, fP⟩, A9, H⟩ := zO H
 dsimp only at H
 obtain ⟨⟨bG, dD⟩, sZ, H⟩ := zO H
 dsimp only at H
 obtain ⟨⟨iP, iA⟩, tC, H⟩ := zO H
 dsimp only at H
 obtain ⟨⟨fQ, fT⟩, tF, H⟩ := zO H
 dsimp only at H
 obtain ⟨aM, tH, H⟩ := zO H
 have kN := Qa.mk H
 clear H
 go_enter Tryz.func4, Tryz.ntmps4
 go_upto_region 13 with (first | ((with_reducible refine Qd (f := 5) rfl ?_); refine zD (some 27) Tryz.func5 #[.slice A0 l0.length c0] ((Y3.calls _ _ l0 false _ ?bD ?bE A2.out).mono ?_); (case bD => exact zc kL.out); (case bE => exact kM.out); rintro e w' ⟨rfl, ⟨nd, rfl⟩⟩; refine ⟨_, rfl, ?_⟩) | ((with_reducible refine Qd (f := 29) rfl ?_); refine zD (some 30) Tryz.func29 #[.slice A0 l0.length c0] ((Zh.calls k _ _ l0 bI bJ bK bL bM bN _ ?bD ?bE A4.out).mono ?_); (case bD => exact zc kL.out); (case bE => exact kM.out); rintro e uX ⟨rfl, hb⟩; refine ⟨_, rfl, ?_⟩; replace HB := zX hb; (try clear hb)) | ((with_reducible refine Qo (N := 3) rfl ?_); (try (refine Xc (by rfl) ?_; dsimp only)); refine zBx (N := 3) #[.int .i64 0, .int .i64 0] 48 ?_; intro aV hg w16 hbox hb; have aA := Qa.mk (hbox); have oF := zS hg; have aH := zS hg; replace HB := zX hb; clear hb hbox hg) | ((with_reducible refine Qo (N := 4) rfl ?_); (try (refine Xc (by rfl) ?_; dsimp only)); refine zBx (N := 4) #[.int .i64 0, .int .i64 0] 48 ?_; intro aW hg uY hbox hb; have aC := Qa.mk (hbox); have oG := zSg hg (zG aH.out); have aI := zSg hg (zG aH.out); have bW := zL hg aA.out; have bX := zLg hg aA.out; replace aA := zV aA.out hb; replace HB := zX1 aH.out hb; clear hb hbox hg) | ((with_reducible refine Qo (N := 5) rfl ?_); (try (refine Xc (by rfl) ?_; dsimp only)); refine zBx (N := 5) #[.int .i64 0, .int .i64 0] 48 ?_; intro aX hg uZ hbox hb; have aD := Qa.mk (hbox); have oH := zSg hg (zG2 aH.out aI.out); have aJ := zSg hg (zG2 aH.out aI.out); have bY := zL hg aA.out; have bZ := zLg hg aA.out; replace aA := zV aA.out hb; have cB := zL hg aC.out; have cK := zLg hg aC.out; replace aC := zV aC.out hb; replace HB := Qa.mk (Qk (zG2 aH.out aI.out) hb); clear hb hbox hg; have qW := bW.out; have qX := bX.out; have qY := bY.out; have qZ := bZ.out; obtain ⟨nO, nP, nQ, nR⟩ := zq2 aA.out; have rA := cB.out; have rC := cK.out; obtain ⟨nS, nT, nU, nV⟩ := zq2 aC.out; obtain ⟨nW, nX, nY, nZ⟩ := zq2 aD.out) | ((with_reducible refine Qd (f := 30) rfl ?_); refine zD (some 35) Tryz.func30 #[.slice A0 l0.length c0] ((Jz.calls k _ _ l0 bO _ ?bD ?bE A5.out).mono ?_); (case bD => exact Kd.C_below kL.out (zG3 aH.out aI.out aJ.out)); (case bE => exact kM.out); rintro e vB ⟨rD, rfl, ho0, hb⟩; refine ⟨_, rfl, ?_⟩; have aK := Qa.mk (Kd.R_lower (Kd.R_newB (Kd.R_newB (Kd.R_newB ho0 (g := aV) (o := .cells #[.int .i64 bI, .int .i64 bJ] 48 (0, 0)) (zk4 aA.out bY.out bY.out bW.out bW.out)) (g := aW) (o := .cells #[.int .i64 bK, .int .i64 bL] 48 (0, 0)) (zk4 aC.out cB.out cB.out bX.out bX.out)) (g := aX) (o := .cells #[.int .i64 bM, .int .i64 bN] 48 (0, 0)) (zk4 aD.out cK.out cK.out bZ.out bZ.out)) (Ql (zG3 aH.out aI.out aJ.out))); replace aA := Qa.mk (Je (g := aV) (o := .cells #[.int .i64 bI, .int .i64 bJ] 48 (0, 0)) (zk4 aA.out bY.out bY.out bW.out bW.out) hb); replace aC := Qa.mk (Je (g := aW) (o := .cells #[.int .i64 bK, .int .i64 bL] 48 (0, 0)) (zk4 aC.out cB.out cB.out bX.out bX.out) hb); replace aD := Qa.mk (Je (g := aX) (o := .cells #[.int .i64 bM, .int .i64 bN] 48 (0, 0)) (zk4 aD.out cK.out cK.out bZ.out bZ.out) hb); replace HB := Qa.mk (Qk (zG3 aH.out aI.out aJ.out) hb); (try clear hb); (try clear ho0)) | ((with_reducible refine Qd (f := 31) rfl ?_); refine zD (some 37) Tryz.func31 #[.slice A0 l0.length c0] ((Jv.calls k _ _ l0 fI _ ?bD ?bE A6.out).mono ?_); (case bD => exact zc (Kd.C_below kL.out HB.out)); (case bE => exact kM.out); rintro e vC ⟨rfl, hb⟩; refine ⟨_, rfl, ?_⟩; replace aK := zW aK.out hb; replace aA := zV aA.out hb; replace aC := zV aC.out hb; replace aD := zV aD.out hb; replace HB := Qa.mk (Qk (zG3 aH.out aI.out aJ.out) hb); (try clear hb)) | ((with_reducible refine Qd (f := 32) rfl ?_); refine zD (some 40) Tryz.func32 _ ((Jd.calls k fI iN gY _ A7.out (HT.out.below ?sideT)).mono ?_); (case sideT => exact (jCk HB.out aH.out aI.out aJ.out)); rintro e vD ⟨rE, rfl, ho0, hb⟩; refine ⟨_, rfl, ?_⟩; have aU := Qa.mk (Kd.R_lower (Kd.R_newB (Kd.R_newB (Kd.R_newB (Kd.R_new' ho0 (Kd.R_lt (zR aK.out))) (g := aV) (o := .cells #[.int .i64 bI, .int .i64 bJ] 48 (0, 0)) (zK aA.out)) (g := aW) (o := .cells #[.int .i64 bK, .int .i64 bL] 48 (0, 0)) (zK aC.out)) (g := aX) (o := .cells #[.int .i64 bM, .int .i64 bN] 48 (0, 0)) (zK aD.out)) (Ql (zG3 aH.out aI.out aJ.out))); replace aK := Qa.mk (Kd.R_elder' (zR aK.out) (Kd.R_base ho0) hb); replace aA := zV aA.out hb; replace aC := zV aC.out hb; replace aD := zV aD.out hb; replace HB := Qa.mk (Qk (zG3 aH.out aI.out aJ.out) hb); (try clear hb); (try clear ho0)) | ((with_reducible refine Qd (f := 33) rfl ?_); refine zD (some 45) Tryz.func33 _ ((Ji.calls k fI iO gZ _ A8.out).mono ?_); rintro e vE ⟨rF, rfl, ho0, hb⟩; refine ⟨_, rfl, ?_⟩; have bB := Qa.mk (Kd.R_lower (Kd.R_newB (Kd.R_newB (Kd.R_newB (Kd.R_new' (Kd.R_new' ho0 (Kd.R_lt (zR aK.out))) (Kd.R_lt (zR aU.out))) (g := aV) (o := .cells #[.int .i64 bI, .int .i64 bJ] 48 (0, 0)) (zK aA.out)) (g := aW) (o := .cells #[.int .i64 bK, .int .i64 bL] 48 (0, 0)) (zK aC.out)) (g := aX) (o := .cells #[.int .i64 bM, .int .i64 bN] 48 (0, 0)) (zK aD.out)) (Ql (zG3 aH.out aI.out aJ.out))); replace aK := Qa.mk (Kd.R_elder' (zR aK.out) (Kd.R_base ho0) hb); replace aU := Qa.mk (Kd.R_elder' (zR aU.out) (Kd.R_base ho0) hb); replace aA := zV aA.out hb; replace aC := zV aC.out hb; replace aD := zV aD.out hb; replace HB := Qa.mk (Qk (zG3 aH.out aI.out aJ.out) hb); (try clear hb); (try clear ho0)) | ((with_reducible refine Qd (f := 34) rfl ?_); refine zD (some 50) Tryz.func34 #[.slice A0 l0.length c0] ((Ju.calls k _ _ l0 aN fP _ ?bD ?bE A9.out).mono ?_); (case bD => exact zc (Kd.C_below kL.out HB.out)); (case bE => exact kM.out); rintro e vF ⟨rG, rfl, ho0, hb⟩; refine ⟨_, rfl, ?_⟩; have bC := Qa.mk (Kd.R_lower (Kd.R_newB (Kd.R_newB (Kd.R_newB (Kd.R_new' (Kd.R_new' (Kd.R_new' ho0 (Kd.R_lt (zR aK.out))) (Kd.R_lt (zR aU.out))) (Kd.R_lt (zR bB.out))) (g := aV) (o := .cells #[.int .i64 bI, .int .i64 bJ] 48 (0, 0)) (zK aA.out)) (g := aW) (o := .cells #[.int .i64 bK, .int .i64 bL] 48 (0, 0)) (zK aC.out)) (g := aX) (o := .cells #[.int .i64 bM, .int .i64 bN] 48 (0, 0)) (zK aD.out)) (Ql (zG3 aH.out aI.out aJ.out))); replace aK := Qa.mk (Kd.R_elder' (zR aK.out) (Kd.R_base ho0) hb); replace aU := Qa.mk (Kd.R_elder' (zR aU.out) (Kd.R_base ho0) hb); replace bB := Qa.mk (Kd.R_elder' (zR bB.out) (Kd.R_base ho0) hb); replace aA := zV aA.out hb; replace aC := zV aC.out hb; replace aD := zV aD.out hb; replace HB := Qa.mk (Qk (zG3 aH.out aI.out aJ.out) hb); (try clear hb); (try clear ho0); obtain ⟨dF, dG, oI⟩ := Kd.R_slice bC.out; subst oI) | ((with_reducible refine Qd (f := 35) rfl ?_); refine zD (some 56) Tryz.func35 #[.slice dF aN.length dG, .int .i64 fP] ((Qv.calls k _ _ aN fP bG dD _ ?bD ?bE sZ.out).mono ?_); (case bD => exact zc ((Kd.R_reads' bC.out).2.2)); (case bE => exact (Kd.R_reads' bC.out).2.1); rintro e vG ⟨cO, rfl, ho0, hb⟩; refine ⟨_, rfl, ?_⟩; have bH := Qa.mk (Kd.R_lower (Kd.R_newB (Kd.R_newB (Kd.R_newB (Kd.R_new' (Kd.R_new' (Kd.R_new' (Kd.R_new' ho0 (Kd.R_lt (zR aK.out))) (Kd.R_lt (zR aU.out))) (Kd.R_lt (zR bB.out))) (Kd.R_lt (zR bC.out))) (g := aV) (o := .cells #[.int .i64 bI, .int .i64 bJ] 48 (0, 0)) (zK aA.out)) (g := aW) (o := .cells #[.int .i64 bK, .int .i64 bL] 48 (0, 0)) (zK aC.out)) (g := aX) (o := .cells #[.int .i64 bM, .int .i64 bN] 48 (0, 0)) (zK aD.out)) (Ql (zG3 aH.out aI.out aJ.out))); replace aK := Qa.mk (Kd.R_elder' (zR aK.out) (Kd.R_base ho0) hb); replace aU := Qa.mk (Kd.R_elder' (zR aU.out) (Kd.R_base ho0) hb); replace bB := Qa.mk (Kd.R_elder' (zR bB.out) (Kd.R_base ho0) hb); replace bC := Qa.mk (Kd.R_elder' (zR bC.out) (Kd.R_base ho0) hb); replace aA := zV aA.out hb; replace aC := zV aC.out hb; replace aD := zV aD.out hb; replace HB := Qa.mk (Qk (zG3 aH.out aI.out aJ.out) hb); (try clear hb); (try clear ho0)) | ((with_reducible refine Qd (f := 36) rfl ?_); refine zD (some 62) Tryz.func36 #[.slice dF aN.length dG, .int .i64 fP] ((Qm.calls k _ _ aN fP iP iA _ ?bD ?bE tC.out).mono ?_); (case bD => exact zc ((Kd.R_reads' bC.out).2.2)); (case bE => exact (Kd.R_reads' bC.out).2.1); rintro e w32 ⟨rH, rfl, ho0, hb⟩; refine ⟨_, rfl, ?_⟩; have bP := Qa.mk (Kd.R_lower (Kd.R_newB (Kd.R_newB (Kd.R_newB (Kd.R_new' (Kd.R_new' (Kd.R_new' (Kd.R_new' (Kd.R_new' ho0 (Kd.R_lt (zR aK.out))) (Kd.R_lt (zR aU.out))) (Kd.R_lt (zR bB.out))) (Kd.R_lt (zR bC.out))) (Kd.R_lt (zR bH.out))) (g := aV) (o := .cells #[.int .i64 bI, .int .i64 bJ] 48 (0, 0)) (zK aA.out)) (g := aW) (o := .cells #[.int .i64 bK, .int .i64 bL] 48 (0, 0)) (zK aC.out)) (g := aX) (o := .cells #[.int .i64 bM, .int .i64 bN] 48 (0, 0)) (zK aD.out)) (Ql (zG3 aH.out aI.out aJ.out))); replace aK := Qa.mk (Kd.R_elder' (zR aK.out) (Kd.R_base ho0) hb); replace aU := Qa.mk (Kd.R_elder' (zR aU.out) (Kd.R_base ho0) hb); replace bB := Qa.mk (Kd.R_elder' (zR bB.out) (Kd.R_base ho0) hb); replace bC := Qa.mk (Kd.R_elder' (zR bC.out) (Kd.R_base ho0) hb); replace bH := Qa.mk (Kd.R_elder' (zR bH.out) (Kd.R_base ho0) hb); replace aA := zV aA.out hb; replace aC := zV aC.out hb; replace aD := zV aD.out hb; replace HB := Qa.mk (Qk (zG3 aH.out aI.out aJ.out) hb); (try clear hb); (try clear ho0)) | ((with_reducible refine Qd (f := 37) rfl ?_); refine zD (some 67) Tryz.func37 #[.slice A0 l0.length c0] ((Jt.calls k _ _ l0 fQ fT _ ?bD ?bE tF.out).mono ?_); (case bD => exact zc (Kd.C_below kL.out HB.out)); (case bE => exact kM.out); rintro e vH ⟨rJ, rM, rfl, ho0, ho1, hb⟩; refine ⟨_, rfl, ?_⟩; have bQ := Qa.mk (Kd.R_lower (Kd.R_newB (Kd.R_newB (Kd.R_newB (Kd.R_new' (Kd.R_new' (Kd.R_new' (Kd.R_new' (Kd.R_new' (Kd.R_new' ho0 (Kd.R_lt (zR aK.out))) (Kd.R_lt (zR aU.out))) (Kd.R_lt (zR bB.out))) (Kd.R_lt (zR bC.out))) (Kd.R_lt (zR bH.out))) (Kd.R_lt (zR bP.out))) (g := aV) (o := .cells #[.int .i64 bI, .int .i64 bJ] 48 (0, 0)) (zK aA.out)) (g := aW) (o := .cells #[.int .i64 bK, .int .i64 bL] 48 (0, 0)) (zK aC.out)) (g := aX) (o := .cells #[.int .i64 bM, .int .i64 bN] 48 (0, 0)) (zK aD.out)) (Ql (zG3 aH.out aI.out aJ.out))); have bR := Qa.mk (Kd.R_lower (Kd.R_newB (Kd.R_newB (Kd.R_newB (Kd.R_new' (Kd.R_new' (Kd.R_new' (Kd.R_new' (Kd.R_new' (Kd.R_new' ho1 (Kd.R_lt (zR aK.out))) (Kd.R_lt (zR aU.out))) (Kd.R_lt (zR bB.out))) (Kd.R_lt (zR bC.out))) (Kd.R_lt (zR bH.out))) (Kd.R_lt (zR bP.out))) (g := aV) (o := .cells #[.int .i64 bI, .int .i64 bJ] 48 (0, 0)) (zK aA.out)) (g := aW) (o := .cells #[.int .i64 bK, .int .i64 bL] 48 (0, 0)) (zK aC.out)) (g := aX) (o := .cells #[.int .i64 bM, .int .i64 bN] 48 (0, 0)) (zK aD.out)) (Ql (zG3 aH.out aI.out aJ.out))); replace aK := Qa.mk (Kd.R_mono (Kd.R_told (Kd.R_told (Kd.R_old (zR aK.out) hb) (Kd.R_base ho0)) (Kd.R_base ho1)) (fun _ h_ => h_.1)); replace aU := Qa.mk (Kd.R_mono (Kd.R_told (Kd.R_told (Kd.R_old (zR aU.out) hb) (Kd.R_base ho0)) (Kd.R_base ho1)) (fun _ h_ => h_.1)); replace bB := Qa.mk (Kd.R_mono (Kd.R_told (Kd.R_told (Kd.R_old (zR bB.out) hb) (Kd.R_base ho0)) (Kd.R_base ho1)) (fun _ h_ => h_.1)); replace bC := Qa.mk (Kd.R_mono (Kd.R_told (Kd.R_told (Kd.R_old (zR bC.out) hb) (Kd.R_base ho0)) (Kd.R_base ho1)) (fun _ h_ => h_.1)); replace bH := Qa.mk (Kd.R_mono (Kd.R_told (Kd.R_told (Kd.R_old (zR bH.out) hb) (Kd.R_base ho0)) (Kd.R_base ho1)) (fun _ h_ => h_.1)); replace bP := Qa.mk (Kd.R_mono (Kd.R_told (Kd.R_told (Kd.R_old (zR bP.out) hb) (Kd.R_base ho0)) (Kd.R_base ho1)) (fun _ h_ => h_.1)); replace aA := zV aA.out hb; replace aC := zV aC.out hb; replace aD := zV aD.out hb; replace HB := Qa.mk (Qk (zG3 aH.out aI.out aJ.out) hb); (try clear hb); (try clear ho0); (try clear ho1); obtain ⟨eX, eY, oJ⟩ := Kd.R_slice aK.out; subst oJ) | ((with_reducible refine Qd (f := 38) rfl ?_); refine zD (some 71) Tryz.func38 #[.slice eX bO.length eY] ((Zg.calls _ _ bO aM _ ?bD ?bE tH.out).mono ?_); (case bD => exact zc ((Kd.R_reads' aK.out).2.2)); (case bE => exact (Kd.R_reads' aK.out).2.1); rintro e tJ ⟨dE, rfl, ho0, hb⟩; refine ⟨_, rfl, ?_⟩; have bT := Qa.mk (Kd.R_lower (Kd.R_newB (Kd.R_newB (Kd.R_newB (Kd.R_new' (Kd.R_new' (Kd.R_new' (Kd.R_new' (Kd.R_new' (Kd.R_new' (Kd.R_new' (Kd.R_new' ho0 (Kd.R_lt (zR aK.out))) (Kd.R_lt (zR aU.out))) (Kd.R_lt (zR bB.out))) (Kd.R_lt (zR bC.out))) (Kd.R_lt (zR bH.out))) (Kd.R_lt (zR bP.out))) (Kd.R_lt (zR bQ.out))) (Kd.R_lt (zR bR.out))) (g := aV) (o := .cells #[.int .i64 bI, .int .i64 bJ] 48 (0, 0)) (zK aA.out)) (g := aW) (o := .cells #[.int .i64 bK, .int .i64 bL] 48 (0, 0)) (zK aC.out)) (g := aX) (o := .cells #[.int .i64 bM, .int .i64 bN] 48 (0, 0)) (zK aD.out)) (Ql (zG3 aH.out aI.out aJ.out))); replace aK := Qa.mk (Kd.R_elder' (zR aK.out) (Kd.R_base ho0) hb); replace aU := Qa.mk (Kd.R_elder' (zR aU.out) (Kd.R_base ho0) hb); replace bB := Qa.mk (Kd.R_elder' (zR bB.out) (Kd.R_base ho0) hb); replace bC := Qa.mk (Kd.R_elder' (zR bC.out) (Kd.R_base ho0) hb); replace bH := Qa.mk (Kd.R_elder' (zR bH.out) (Kd.R_base ho0) hb); replace bP := Qa.mk (Kd.R_elder' (zR bP.out) (Kd.R_base ho0) hb); replace bQ := Qa.mk (Kd.R_elder' (zR bQ.out) (Kd.R_base ho0) hb); replace bR := Qa.mk (Kd.R_elder' (zR bR.out) (Kd.R_base ho0) hb); replace aA := zV aA.out hb; replace aC := zV aC.out hb; replace aD := zV aD.out hb; replace HB := Qa.mk (Qk (zG3 aH.out aI.out aJ.out) hb); (try clear hb); (try clear ho0)))
 (try simp only [Act.put, List.setIfInBounds_toArray, List.set_cons_zero, List.set_cons_succ])
 go_cut [136] (fun oK wc => ∃ (kq : Nat) (eU : Bool), oK = .bool eU ∧ Qa (Qc.j0 kq bO aN bG dD aM eU bI bJ bK bL bM bN = some r) ∧ Qa (kq ≤ k) ∧ Qa (Kd.R k48 48 wc w.heap.size (fun k_ => some k_ ≠ ((.slice dF aN.length dG) : Value).ownBlock ∧ some k_ ≠ (cO : Value).ownBlock ∧ some k_ ≠ (dE : Value).ownBlock ∧ k_ ≠ aV ∧ k_ ≠ aW ∧ k_ ≠ aX) (.slice eX bO.length eY) bO) ∧ Qa (Kd.R k48 48 wc w.heap.size (fun k_ => some k_ ≠ ((.slice eX bO.length eY) : Value).ownBlock ∧ some k_ ≠ (cO : Value).ownBlock ∧ some k_ ≠ (dE : Value).ownBlock ∧ k_ ≠ aV ∧ k_ ≠ aW ∧ k_ ≠ aX) (.slice dF aN.length dG) aN) ∧ Qa (Kd.R k48 48 wc w.heap.size (fun k_ => some k_ ≠ ((.slice eX bO.length eY) : Value).ownBlock ∧ some k_ ≠ ((.slice dF aN.length dG) : Value).ownBlock ∧ some k_ ≠ (dE : Value).ownBlock ∧ k_ ≠ aV ∧ k_ ≠ aW ∧ k_ ≠ aX) cO bG) ∧ Qa (Kd.R k48 48 wc w.heap.size (fun k_ => some k_ ≠ ((.slice eX bO.length eY) : Value).ownBlock ∧ some k_ ≠ ((.slice dF aN.length dG) : Value).ownBlock ∧ some k_ ≠ (cO : Value).ownBlock ∧ k_ ≠ aV ∧ k_ ≠ aW ∧ k_ ≠ aX) dE aM) ∧ Qa (wc.heap[aV]? = some (.cells #[.int .i64 bI, .int .i64 bJ] 48 (0, 0))) ∧ Qa (wc.heap[aW]? = some (.cells #[.int .i64 bK, .int .i64 bL] 48 (0, 0))) ∧ Qa (wc.heap[aX]? = some (.cells #[.int .i64 bM, .int .i64 bN] 48 (0, 0))) ∧ Qa (Below w.heap.size w wc))
 case first => as_aux_lemma =>
  have H := kN.out
  clear kN
  obtain ⟨iG, tK, H⟩ := zO H
  obtain ⟨iH, tL, H⟩ := zO H
  replace H := jCs H
  rcases H with ⟨jY, rO, H⟩ | ⟨vI, H⟩
  ·(first | rw [jY] | (simp only [Zd, Zf]; rw [jY]) | skip)
   obtain ⟨iI, tN, H⟩ := zO H
   obtain ⟨iJ, tO, H⟩ := zO H
   replace H := jCs H
   rcases H with ⟨rP, rQ, H⟩ | ⟨vJ, H⟩
   ·replace H := Z8 H
    rcases H with ⟨lQ, H⟩ | ⟨lQ, H⟩
    ·exact absurd H (Qc.j0_no _ _ _ _ _ _ _ _ _ _ _ _ _ hr_)
    have rR : (gY != gZ) = false := by simpa using lQ
    (try (have rT : decide (gY = gZ) = true := by simpa using lQ))
    (try (have rU : (gY == gZ) = true := by simpa using lQ))
    clear lQ
    obtain ⟨iK, tQ, H⟩ := zO H
    by_cases c49 : iK = true
    ·subst c49
     replace H := (if_pos rfl).symm.trans H
     replace H := Z8 H
     rcases H with ⟨lU, H⟩ | ⟨lU, H⟩
     ·exact absurd H (Qc.j0_no _ _ _ _ _ _ _ _ _ _ _ _ _ hr_)
     have rV : (dD != iA) = false := by simpa using lU
     (try (have rW : decide (dD = iA) = true := by simpa using lU))
     (try (have rX : (dD == iA) = true := by simpa using lU))
     clear lU
     obtain ⟨iL, tT, H⟩ := zO H
     by_cases c59 : iL = true
     ·subst c59
      replace H := (if_pos rfl).symm.trans H
      obtain ⟨fJ, tV, H⟩ := zO H
      obtain ⟨fK, tX, H⟩ := zO H
      replace H := Z8 H
      rcases H with ⟨lV, H⟩ | ⟨lV, H⟩
      ·exact absurd H (Qc.j0_no _ _ _ _ _ _ _ _ _ _ _ _ _ hr_)
      have rY : (fJ != fK) = false := by simpa using lV
      (try (have rZ : decide (fJ = fK) = true := by simpa using lV))
      (try (have sD : (fJ == fK) = true := by simpa using lV))
      clear lV
      obtain ⟨fO, tY, H⟩ := zO H
      obtain ⟨iM, tZ, H⟩ := zO H
      by_cases c76 : iM = true
      ·subst c76
       replace H := (if_pos rfl).symm.trans H
       obtain ⟨gW, uA, H⟩ := zO H
       obtain ⟨gX, uB, H⟩ := zO H
       have H' := Qa.mk H; clear H
       try go_wp2
       replace aK := Qa.mk (Kd.R_drew aK.out)
       replace aU := Qa.mk (Kd.R_drew aU.out)
       replace bB := Qa.mk (Kd.R_drew bB.out)
       replace bC := Qa.mk (Kd.R_drew bC.out)
       replace bH := Qa.mk (Kd.R_drew bH.out)
       replace bP := Qa.mk (Kd.R_drew bP.out)
       replace bQ := Qa.mk (Kd.R_drew bQ.out)
       replace bR := Qa.mk (Kd.R_drew bR.out)
       replace bT := Qa.mk (Kd.R_drew bT.out)
       replace aA := Qa.mk (Q8 aA.out)
       replace aC := Qa.mk (Q8 aC.out)
       replace aD := Qa.mk (Q8 aD.out)
       replace HB := Qa.mk (Qp HB.out)
       refine Zy (n := 65) (S := fun w' => w'.cell? ⟨aV, 0, none⟩ = some (.int .i64 bI) ∧ w'.cell? ⟨aV, 1, none⟩ = some (.int .i64 bJ) ∧ w'.cell? ⟨aW, 0, none⟩ = some (.int .i64 bK) ∧ w'.cell? ⟨aW, 1, none⟩ = some (.int .i64 bL) ∧ w'.cell? ⟨aX, 0, none⟩ = some (.int .i64 bM) ∧ w'.cell? ⟨aX, 1, none⟩ = some (.int .i64 bN)) (ds := []) #[false, false, false, false, false, false, false, false, false, false, false, false, false, false, false, false, false, false, false, false, false, false, false, false, false, false, false, false, false, false, false, false, false, false, false, false, false, false, false, false, false, false, false, false, false, false, false, false, false, false, false, false, false, false, false, false, false, false, false, false, false, false, false, false, false] (by kernel_rfl) rfl rfl ⟨(Qn aA.out 0).trans rfl, (Qn aA.out 1).trans rfl, (Qn aC.out 0).trans rfl, (Qn aC.out 1).trans rfl, (Qn aD.out 0).trans rfl, (Qn aD.out 1).trans rfl⟩ (fun hHeld => ?_); refine Jr Qc.tab13 Qc.bits13 (fun HT_ HW_ => ?_)
       generalize tJ.drew = vK at aK aU bB bC bH bP bQ bR bT aA aC aD HB hHeld ⊢
       refine zY6 0 (some 72) rfl rfl hHeld ?_
       refine zY6 1 (some 73) rfl rfl hHeld ?_
       refine zY6 2 (some 74) rfl rfl hHeld ?_
       refine zY6 4 (some 76) rfl rfl hHeld ?_
       refine zY6 5 (some 77) rfl rfl hHeld ?_
       refine zY6 6 (some 78) rfl rfl hHeld ?_
       refine zU 3 (some 75) rfl rfl (fun K hK => ?_)
       refine Xq Tryz.func28 (by kernel_rfl) rfl #[.agg #[.int .i64 bI, .int .i64 bJ], .agg #[.int .i64 bK, .int .i64 bL], .agg #[.int .i64 bM, .int .i64 bN]] (by rfl) rfl rfl zM ?_
       with_reducible refine (Jo.calls bI bJ bK bL bM bN iG _ tK.out).mono ?_
       rintro e vM ⟨rfl, hb⟩
       refine ⟨_, rfl, ?_⟩
       replace aK := zW aK.out hb
       replace aU := zW aU.out hb
       replace bB := zW bB.out hb
       replace bC := zW bC.out hb
       replace bH := zW bH.out hb
       replace bP := zW bP.out hb
       replace bQ := zW bQ.out hb
       replace bR := zW bR.out hb
       replace bT := zW bT.out hb
       replace aA := zV aA.out hb
       replace aC := zV aC.out hb
       replace aD := zV aD.out hb
       replace HB := Qa.mk (Qk (zG3 aH.out aI.out aJ.out) hb)
       (try clear hb)
       refine hK.out _ _ (zh aA.out (zh aC.out (zh2 aD.out))) (fun hHeld => ?_)
       clear hK K
       refine zN ?_
       refine zU 7 (some 79) rfl rfl (fun K hK => ?_)
       refine Xq Tryz.func39 (by kernel_rfl) rfl #[.agg #[.int .i64 bI, .int .i64 bJ], .agg #[.int .i64 bK, .int .i64 bL], .agg #[.int .i64 bM, .int .i64 bN]] (by rfl) rfl rfl zM ?_
       with_reducible refine (Xi.calls bI bJ bK bL bM bN iH _ tL.out).mono ?_
       rintro e vN ⟨rfl, hb⟩
       refine ⟨_, rfl, ?_⟩
       replace aK := zW aK.out hb
       replace aU := zW aU.out hb
       replace bB := zW bB.out hb
       replace bC := zW bC.out hb
       replace bH := zW bH.out hb
       replace bP := zW bP.out hb
       replace bQ := zW bQ.out hb
       replace bR := zW bR.out hb
       replace bT := zW bT.out hb
       replace aA := zV aA.out hb
       replace aC := zV aC.out hb
       replace aD := zV aD.out hb
       replace HB := Qa.mk (Qk (zG3 aH.out aI.out aJ.out) hb)
       (try clear hb)
       refine hK.out _ _ (zh aA.out (zh aC.out (zh2 aD.out))) (fun hHeld => ?_)
       clear hK K
       refine zN ?_
       refine zP 8 (some 80) rfl rfl ?_
       refine zP 9 (some 81) rfl rfl ?_
       refine zY6 10 (some 82) rfl rfl hHeld ?_
       refine zY6 11 (some 83) rfl rfl hHeld ?_
       refine zY6 12 (some 84) rfl rfl hHeld ?_
       refine zY6 14 (some 86) rfl rfl hHeld ?_
       refine zY6 15 (some 87) rfl rfl hHeld ?_
       refine zY6 16 (some 88) rfl rfl hHeld ?_
       refine zU 13 (some 85) rfl rfl (fun K hK => ?_)
       refine Xq Tryz.func40 (by kernel_rfl) rfl #[.agg #[.int .i64 bI, .int .i64 bJ], .agg #[.int .i64 bK, .int .i64 bL], .agg #[.int .i64 bM, .int .i64 bN]] (by rfl) rfl rfl zM ?_
       with_reducible refine (Zm.calls bI bJ bK bL bM bN iI _ tN.out).mono ?_
       rintro e vO ⟨rfl, hb⟩
       refine ⟨_, rfl, ?_⟩
       replace aK := zW aK.out hb
       replace aU := zW aU.out hb
       replace bB := zW bB.out hb
       replace bC := zW bC.out hb
       replace bH := zW bH.out hb
       replace bP := zW bP.out hb
       replace bQ := zW bQ.out hb
       replace bR := zW bR.out hb
       replace bT := zW bT.out hb
       replace aA := zV aA.out hb
       replace aC := zV aC.out hb
       replace aD := zV aD.out hb
       replace HB := Qa.mk (Qk (zG3 aH.out aI.out aJ.out) hb)
       (try clear hb)
       refine hK.out _ _ (zh aA.out (zh aC.out (zh2 aD.out))) (fun hHeld => ?_)
       clear hK K
       refine zN ?_
       refine zU 17 (some 89) rfl rfl (fun K hK => ?_)
       refine Xq Tryz.func41 (by kernel_rfl) rfl #[.agg #[.int .i64 bI, .int .i64 bJ], .agg #[.int .i64 bK, .int .i64 bL], .agg #[.int .i64 bM, .int .i64 bN]] (by rfl) rfl rfl zM ?_
       with_reducible refine (Zw.calls bI bJ bK bL bM bN iJ _ tO.out).mono ?_
       rintro e vP ⟨rfl, hb⟩
       refine ⟨_, rfl, ?_⟩
       replace aK := zW aK.out hb
       replace aU := zW aU.out hb
       replace bB := zW bB.out hb
       replace bC := zW bC.out hb
       replace bH := zW bH.out hb
       replace bP := zW bP.out hb
       replace bQ := zW bQ.out hb
       replace bR := zW bR.out hb
       replace bT := zW bT.out hb
       replace aA := zV aA.out hb
       replace aC := zV aC.out hb
       replace aD := zV aD.out hb
       replace HB := Qa.mk (Qk (zG3 aH.out aI.out aJ.out) hb)
       (try clear hb)
       obtain ⟨oL, oM, lW⟩ := Kd.R_slice aU.out
       (first | subst lW | (injection lW with eO fU eP; have fV := eO.symm; have fZ := eP.symm; clear eO fU eP; subst fV; subst fZ))
       obtain ⟨oN, oO, lX⟩ := Kd.R_slice bB.out
       (first | subst lX | (injection lX with eO fU eP; have fV := eO.symm; have fZ := eP.symm; clear eO fU eP; subst fV; subst fZ))
       refine hK.out _ _ (zh aA.out (zh aC.out (zh2 aD.out))) (fun hHeld => ?_)
       clear hK K
       refine zN ?_
       refine zP 18 (some 90) rfl rfl ?_
       refine zP 19 (some 91) rfl rfl ?_
       refine zP 20 (some 92) rfl rfl ?_
       refine zP 21 (some 93) rfl rfl ?_
       refine zP 22 (some 94) rfl rfl ?_
       refine zP 23 (some 95) rfl rfl ?_
       refine zP 24 (some 96) rfl rfl ?_
       refine zP 25 (some 97) rfl rfl ?_
       refine zP 26 (some 98) rfl rfl ?_
       refine zP 27 (some 99) rfl rfl ?_
       refine zU 28 (some 100) rfl rfl (fun K hK => ?_)
       refine Xq Tryz.func42 (by kernel_rfl) rfl #[.slice oL iN.length oM, .slice oN iO.length oO] (by rfl) rfl rfl zM ?_
       with_reducible refine (Qu.calls k _ _ iN _ _ iO true _ ?bD ?bE ?dH ?dI tQ.out).mono ?_
       (case bD => exact zc ((Kd.R_reads' aU.out).2.2))
       (case bE => exact (Kd.R_reads' aU.out).2.1)
       (case dH => exact zc ((Kd.R_reads' bB.out).2.2))
       (case dI => exact (Kd.R_reads' bB.out).2.1)
       rintro e w' ⟨rfl, ⟨nd, rfl⟩⟩
       refine ⟨_, rfl, ?_⟩
       obtain ⟨oP, oQ, lY⟩ := Kd.R_slice bH.out
       (first | subst lY | (injection lY with eO fU eP; have fV := eO.symm; have fZ := eP.symm; clear eO fU eP; subst fV; subst fZ))
       obtain ⟨oU, oV, lZ⟩ := Kd.R_slice bP.out
       (first | subst lZ | (injection lZ with eO fU eP; have fV := eO.symm; have fZ := eP.symm; clear eO fU eP; subst fV; subst fZ))
       refine hK.out _ _ (zh aA.out (zh aC.out (zh2 aD.out))) (fun hHeld => ?_)
       clear hK K
       refine zN ?_
       refine zP 29 (some 101) rfl rfl ?_
       refine zP 30 (some 102) rfl rfl ?_
       refine zP 31 (some 103) rfl rfl ?_
       refine zP 32 (some 104) rfl rfl ?_
       refine zP 33 (some 105) rfl rfl ?_
       refine zP 34 (some 106) rfl rfl ?_
       refine zP 35 (some 107) rfl rfl ?_
       refine zP 36 (some 108) rfl rfl ?_
       refine zP 37 (some 109) rfl rfl ?_
       refine zP 38 (some 110) rfl rfl ?_
       refine zU 39 (some 111) rfl rfl (fun K hK => ?_)
       refine Xq Tryz.func42 (by kernel_rfl) rfl #[.slice oP bG.length oQ, .slice oU iP.length oV] (by rfl) rfl rfl zM ?_
       with_reducible refine (Qu.calls k _ _ bG _ _ iP true _ ?bD ?bE ?dH ?dI tT.out).mono ?_
       (case bD => exact zc ((Kd.R_reads' bH.out).2.2))
       (case bE => exact (Kd.R_reads' bH.out).2.1)
       (case dH => exact zc ((Kd.R_reads' bP.out).2.2))
       (case dI => exact (Kd.R_reads' bP.out).2.1)
       rintro e w' ⟨rfl, ⟨nd, rfl⟩⟩
       refine ⟨_, rfl, ?_⟩
       obtain ⟨mD, mE, mF⟩ := Kd.R_slice bQ.out
       (first | subst mF | (injection mF with eO fU eP; have fV := eO.symm; have fZ := eP.symm; clear eO fU eP; subst fV; subst fZ))
       obtain ⟨mG, mH, mI⟩ := Kd.R_slice bR.out
       (first | subst mI | (injection mI with eO fU eP; have fV := eO.symm; have fZ := eP.symm; clear eO fU eP; subst fV; subst fZ))
       refine hK.out _ _ (zh aA.out (zh aC.out (zh2 aD.out))) (fun hHeld => ?_)
       clear hK K
       refine zN ?_
       refine zP 40 (some 112) rfl rfl ?_
       refine zP 41 (some 113) rfl rfl ?_
       refine zP 42 (some 114) rfl rfl ?_
       refine zP 43 (some 115) rfl rfl ?_
       refine zP 44 (some 116) rfl rfl ?_
       refine zP 46 (some 118) rfl rfl ?_
       refine zP 47 (some 119) rfl rfl ?_
       refine zU 45 (some 117) rfl rfl (fun K hK => ?_)
       refine Xq Tryz.func43 (by kernel_rfl) rfl #[.slice mD fQ.length mE, .slice mG fT.length mH] (by rfl) rfl rfl zM ?_
       with_reducible refine (Zc.calls k _ _ fQ _ _ fT fJ _ ?bD ?bE ?dH ?dI tV.out).mono ?_
       (case bD => exact zc ((Kd.R_reads' bQ.out).2.2))
       (case bE => exact (Kd.R_reads' bQ.out).2.1)
       (case dH => exact zc ((Kd.R_reads' bR.out).2.2))
       (case dI => exact (Kd.R_reads' bR.out).2.1)
       rintro e w' ⟨rfl, ⟨nd, rfl⟩⟩
       refine ⟨_, rfl, ?_⟩
       refine hK.out _ _ (zh aA.out (zh aC.out (zh2 aD.out))) (fun hHeld => ?_)
       clear hK K
       refine zN ?_
       refine zU 48 (some 120) rfl rfl (fun K hK => ?_)
       refine Xq Tryz.func42 (by kernel_rfl) rfl #[.slice mD fQ.length mE, .slice mG fT.length mH] (by rfl) rfl rfl zM ?_
       with_reducible refine (Qu.calls k _ _ fQ _ _ fT fK _ ?bD ?bE ?dH ?dI tX.out).mono ?_
       (case bD => exact zc ((Kd.R_reads' bQ.out).2.2))
       (case bE => exact (Kd.R_reads' bQ.out).2.1)
       (case dH => exact zc ((Kd.R_reads' bR.out).2.2))
       (case dI => exact (Kd.R_reads' bR.out).2.1)
       rintro e w' ⟨rfl, ⟨nd, rfl⟩⟩
       refine ⟨_, rfl, ?_⟩
       refine hK.out _ _ (zh aA.out (zh aC.out (zh2 aD.out))) (fun hHeld => ?_)
       clear hK K
       refine zN ?_
       refine zP 49 (some 121) rfl rfl ?_
       refine zP 50 (some 122) rfl rfl ?_
       refine zP 51 (some 123) rfl rfl ?_
       refine zP 52 (some 124) rfl rfl ?_
       refine zP 53 (some 125) rfl rfl ?_
       refine zU 54 (some 126) rfl rfl (fun K hK => ?_)
       refine Xq Tryz.func44 (by kernel_rfl) rfl #[.slice eX bO.length eY] (by rfl) rfl rfl zM ?_
       with_reducible refine (Qg.calls k _ _ bO fO _ ?bD ?bE tY.out).mono ?_
       (case bD => exact zc ((Kd.R_reads' aK.out).2.2))
       (case bE => exact (Kd.R_reads' aK.out).2.1)
       rintro e vQ ⟨sF, rfl, ho0, hb⟩
       refine ⟨_, rfl, ?_⟩
       have eB := Qa.mk (Kd.R_lower (Kd.R_newB (Kd.R_newB (Kd.R_newB (Kd.R_new' (Kd.R_new' (Kd.R_new' (Kd.R_new' (Kd.R_new' (Kd.R_new' (Kd.R_new' (Kd.R_new' (Kd.R_new' ho0 (Kd.R_lt (zR aK.out))) (Kd.R_lt (zR aU.out))) (Kd.R_lt (zR bB.out))) (Kd.R_lt (zR bC.out))) (Kd.R_lt (zR bH.out))) (Kd.R_lt (zR bP.out))) (Kd.R_lt (zR bQ.out))) (Kd.R_lt (zR bR.out))) (Kd.R_lt (zR bT.out))) (g := aV) (o := .cells #[.int .i64 bI, .int .i64 bJ] 48 (0, 0)) (zK aA.out)) (g := aW) (o := .cells #[.int .i64 bK, .int .i64 bL] 48 (0, 0)) (zK aC.out)) (g := aX) (o := .cells #[.int .i64 bM, .int .i64 bN] 48 (0, 0)) (zK aD.out)) (Ql (zG3 aH.out aI.out aJ.out)))
       replace aK := Qa.mk (Kd.R_elder' (zR aK.out) (Kd.R_base ho0) hb)
       replace aU := Qa.mk (Kd.R_elder' (zR aU.out) (Kd.R_base ho0) hb)
       replace bB := Qa.mk (Kd.R_elder' (zR bB.out) (Kd.R_base ho0) hb)
       replace bC := Qa.mk (Kd.R_elder' (zR bC.out) (Kd.R_base ho0) hb)
       replace bH := Qa.mk (Kd.R_elder' (zR bH.out) (Kd.R_base ho0) hb)
       replace bP := Qa.mk (Kd.R_elder' (zR bP.out) (Kd.R_base ho0) hb)
       replace bQ := Qa.mk (Kd.R_elder' (zR bQ.out) (Kd.R_base ho0) hb)
       replace bR := Qa.mk (Kd.R_elder' (zR bR.out) (Kd.R_base ho0) hb)
       replace bT := Qa.mk (Kd.R_elder' (zR bT.out) (Kd.R_base ho0) hb)
       replace aA := zV aA.out hb
       replace aC := zV aC.out hb
       replace aD := zV aD.out hb
       replace HB := Qa.mk (Qk (zG3 aH.out aI.out aJ.out) hb)
       (try clear hb)
       (try clear ho0)
       obtain ⟨oW, oZ, mJ⟩ := Kd.R_slice bT.out
       (first | subst mJ | (injection mJ with eO fU eP; have fV := eO.symm; have fZ := eP.symm; clear eO fU eP; subst fV; subst fZ))
       obtain ⟨pE, pF, mK⟩ := Kd.R_slice eB.out
       (first | subst mK | (injection mK with eO fU eP; have fV := eO.symm; have fZ := eP.symm; clear eO fU eP; subst fV; subst fZ))
       refine hK.out _ _ (zh aA.out (zh aC.out (zh2 aD.out))) (fun hHeld => ?_)
       clear hK K
       refine zN ?_
       refine zU 55 (some 127) rfl rfl (fun K hK => ?_)
       refine Xq Tryz.func42 (by kernel_rfl) rfl #[.slice oW aM.length oZ, .slice pE fO.length pF] (by rfl) rfl rfl zM ?_
       with_reducible refine (Qu.calls k _ _ aM _ _ fO true _ ?bD ?bE ?dH ?dI tZ.out).mono ?_
       (case bD => exact zc ((Kd.R_reads' bT.out).2.2))
       (case bE => exact (Kd.R_reads' bT.out).2.1)
       (case dH => exact zc ((Kd.R_reads' eB.out).2.2))
       (case dI => exact (Kd.R_reads' eB.out).2.1)
       rintro e w' ⟨rfl, ⟨nd, rfl⟩⟩
       refine ⟨_, rfl, ?_⟩
       refine hK.out _ _ (zh aA.out (zh aC.out (zh2 aD.out))) (fun hHeld => ?_)
       clear hK K
       refine zN ?_
       refine zP 56 (some 128) rfl rfl ?_
       refine zP 57 (some 129) rfl rfl ?_
       refine zP 58 (some 130) rfl rfl ?_
       refine zP 59 (some 131) rfl rfl ?_
       refine zP 61 (some 133) rfl rfl ?_
       refine zU 60 (some 132) rfl rfl (fun K hK => ?_)
       refine Xq Tryz.func45 (by kernel_rfl) rfl #[.slice eX bO.length eY] (by rfl) rfl rfl zM ?_
       with_reducible refine (Qf.calls k _ _ bO gW _ ?bD ?bE uA.out).mono ?_
       (case bD => exact zc ((Kd.R_reads' aK.out).2.2))
       (case bE => exact (Kd.R_reads' aK.out).2.1)
       rintro e vR ⟨rfl, hb⟩
       refine ⟨_, rfl, ?_⟩
       replace aK := zW aK.out hb
       replace aU := zW aU.out hb
       replace bB := zW bB.out hb
       replace bC := zW bC.out hb
       replace bH := zW bH.out hb
       replace bP := zW bP.out hb
       replace bQ := zW bQ.out hb
       replace bR := zW bR.out hb
       replace bT := zW bT.out hb
       replace eB := zW eB.out hb
       replace aA := zV aA.out hb
       replace aC := zV aC.out hb
       replace aD := zV aD.out hb
       replace HB := Qa.mk (Qk (zG3 aH.out aI.out aJ.out) hb)
       (try clear hb)
       refine hK.out _ _ (zh aA.out (zh aC.out (zh2 aD.out))) (fun hHeld => ?_)
       clear hK K
       refine zN ?_
       refine zU 62 (some 134) rfl rfl (fun K hK => ?_)
       refine Xq Tryz.func46 (by kernel_rfl) rfl #[.slice eX bO.length eY] (by rfl) rfl rfl zM ?_
       with_reducible refine (Qh.calls k _ _ bO gX _ ?bD ?bE uB.out).mono ?_
       (case bD => exact zc ((Kd.R_reads' aK.out).2.2))
       (case bE => exact (Kd.R_reads' aK.out).2.1)
       rintro e vS ⟨rfl, hb⟩
       refine ⟨_, rfl, ?_⟩
       replace aK := zW aK.out hb
       replace aU := zW aU.out hb
       replace bB := zW bB.out hb
       replace bC := zW bC.out hb
       replace bH := zW bH.out hb
       replace bP := zW bP.out hb
       replace bQ := zW bQ.out hb
       replace bR := zW bR.out hb
       replace bT := zW bT.out hb
       replace eB := zW eB.out hb
       replace aA := zV aA.out hb
       replace aC := zV aC.out hb
       replace aD := zV aD.out hb
       replace HB := Qa.mk (Qk (zG3 aH.out aI.out aJ.out) hb)
       (try clear hb)
       refine hK.out _ _ (zh aA.out (zh aC.out (zh2 aD.out))) (fun hHeld => ?_)
       clear hK K
       refine zN ?_
       refine zP 63 (some 135) rfl rfl ?_
       refine zP 64 (some 136) rfl rfl ?_
       refine Ya (Zj HT_.out (by kernel_rfl)) ?_
       try go_wp2
       go_meet
       case rel => exact ⟨_, ((gW != gX)), zF, H', ⟨by first | omega | exact Nat.le_refl _⟩, ⟨by (with_reducible repeat (first | apply Kd.R_alloc | apply Kd.R_drewN | apply Kd.R_drew)); exact Kd.R_mono aK.out (fun _ hk => ⟨hk.1.1.1.1.1.1.2, ⟨hk.1.1.1.1.1.2, ⟨hk.1.2, ⟨hk.1.1.1.1.1.1.1.1.1.1.1.2, ⟨hk.1.1.1.1.1.1.1.1.1.1.2, hk.1.1.1.1.1.1.1.1.1.2⟩⟩⟩⟩⟩)⟩, ⟨by (with_reducible repeat (first | apply Kd.R_alloc | apply Kd.R_drewN | apply Kd.R_drew)); exact Kd.R_mono bC.out (fun _ hk => ⟨hk.1.1.1.1.1.1.1.1.1.1.1.2, ⟨hk.1.1.1.1.1.2, ⟨hk.1.2, ⟨hk.1.1.1.1.1.1.1.1.2, ⟨hk.1.1.1.1.1.1.1.2, hk.1.1.1.1.1.1.2⟩⟩⟩⟩⟩)⟩, ⟨by (with_reducible repeat (first | apply Kd.R_alloc | apply Kd.R_drewN | apply Kd.R_drew)); exact Kd.R_mono bH.out (fun _ hk => ⟨hk.1.1.1.1.1.1.1.1.1.1.1.2, ⟨hk.1.1.1.1.1.1.1.1.2, ⟨hk.1.2, ⟨hk.1.1.1.1.1.1.1.2, ⟨hk.1.1.1.1.1.1.2, hk.1.1.1.1.1.2⟩⟩⟩⟩⟩)⟩, ⟨by (with_reducible repeat (first | apply Kd.R_alloc | apply Kd.R_drewN | apply Kd.R_drew)); exact Kd.R_mono bT.out (fun _ hk => ⟨hk.1.1.1.1.1.1.1.1.1.1.1.2, ⟨hk.1.1.1.1.1.1.1.1.2, ⟨hk.1.1.1.1.1.1.1.2, ⟨hk.1.1.1.2, ⟨hk.1.1.2, hk.1.2⟩⟩⟩⟩⟩)⟩, ⟨zK aA.out⟩, ⟨zK aC.out⟩, ⟨zK aD.out⟩, ⟨zG3 aH.out aI.out aJ.out⟩⟩
      replace c76 := Bool.eq_false_iff.mpr c76
      subst c76
      have H1 : (Qc.j0 k bO aN bG dD aM true bI bJ bK bL bM bN) = some r := by rw [if_neg (show ¬ (false = true) by decide)] at H; exact H
      exact absurd H1 (Qc.j0_no _ _ _ _ _ _ _ _ _ _ _ _ _ hr_)
     replace c59 := Bool.eq_false_iff.mpr c59
     subst c59
     have H1 : (Qc.j0 k bO aN bG dD aM true bI bJ bK bL bM bN) = some r := by rw [if_neg (show ¬ (false = true) by decide)] at H; exact H
     exact absurd H1 (Qc.j0_no _ _ _ _ _ _ _ _ _ _ _ _ _ hr_)
    replace c49 := Bool.eq_false_iff.mpr c49
    subst c49
    have H1 : (Qc.j0 k bO aN bG dD aM true bI bJ bK bL bM bN) = some r := by rw [if_neg (show ¬ (false = true) by decide)] at H; exact H
    exact absurd H1 (Qc.j0_no _ _ _ _ _ _ _ _ _ _ _ _ _ hr_)
   exact absurd H (Qc.j0_no _ _ _ _ _ _ _ _ _ _ _ _ _ hr_)
  exact absurd H (Qc.j0_no _ _ _ _ _ _ _ _ _ _ _ _ _ hr_)
 case rest => as_aux_lemma =>
 clear kN
 try clear c3
 obtain ⟨kq, eU, rfl, HA, eZ, cZ, aT, aQ, aZ, aA, aC, aD, HB⟩ := hcut
 cases kq with
 | zero => exact absurd HA.out (by simp [Qc.j0])
 | succ gB =>
 have H := HA.out
 clear HA
 simp only [Qc.j0] at H
 by_cases iQ : eU = true
 ·subst iQ
  replace H := (if_pos rfl).symm.trans H
  obtain rfl := Option.some.inj H
  cases hr_
 replace iQ := Bool.eq_false_iff.mpr iQ
 subst iQ
 replace H := (if_neg zFf).symm.trans H
 obtain ⟨jZ, pG, H⟩ := zO H
 obtain ⟨⟨kC, gD⟩, pI, H⟩ := zO H
 dsimp only at H
 have iR := Qa.mk H
 clear H
 go_upto_region 17 with (first | ((with_reducible refine Qd (f := 47) rfl ?_); refine zD (some 138) Tryz.func47 #[.slice eX bO.length eY] ((Q4.calls gB _ _ bO jZ _ ?bD ?bE pG.out (HT.out.to1.below ?sideT)).mono ?_); (case sideT => exact (jCk HB.out aH.out aI.out aJ.out)); (case bD => exact zc ((Kd.R_reads' cZ.out).2.2)); (case bE => exact (Kd.R_reads' cZ.out).2.1); rintro e uC ⟨rfl, hb⟩; refine ⟨_, rfl, ?_⟩; replace cZ := zW cZ.out hb; replace aT := zW aT.out hb; replace aQ := zW aQ.out hb; replace aZ := zW aZ.out hb; replace aA := zV aA.out hb; replace aC := zV aC.out hb; replace aD := zV aD.out hb; replace HB := Qa.mk (Qk (zG3 aH.out aI.out aJ.out) hb); (try clear hb)) | ((with_reducible refine Qd (f := 32) rfl ?_); refine zD (some 141) Tryz.func32 _ ((Jd.calls gB jZ kC gD _ pI.out (HT.out.below ?sideT)).mono ?_); (case sideT => exact (jCk HB.out aH.out aI.out aJ.out)); rintro e uD ⟨sG, rfl, ho0, hb⟩; refine ⟨_, rfl, ?_⟩; have dC := Qa.mk (Kd.R_lower (Kd.R_newB (Kd.R_newB (Kd.R_newB (Kd.R_new' (Kd.R_new' (Kd.R_new' (Kd.R_new' ho0 (Kd.R_lt (zR cZ.out))) (Kd.R_lt (zR aT.out))) (Kd.R_lt (zR aQ.out))) (Kd.R_lt (zR aZ.out))) (g := aV) (o := .cells #[.int .i64 bI, .int .i64 bJ] 48 (0, 0)) (zK aA.out)) (g := aW) (o := .cells #[.int .i64 bK, .int .i64 bL] 48 (0, 0)) (zK aC.out)) (g := aX) (o := .cells #[.int .i64 bM, .int .i64 bN] 48 (0, 0)) (zK aD.out)) (Ql (zG3 aH.out aI.out aJ.out))); replace cZ := Qa.mk (Kd.R_elder' (zR cZ.out) (Kd.R_base ho0) hb); replace aT := Qa.mk (Kd.R_elder' (zR aT.out) (Kd.R_base ho0) hb); replace aQ := Qa.mk (Kd.R_elder' (zR aQ.out) (Kd.R_base ho0) hb); replace aZ := Qa.mk (Kd.R_elder' (zR aZ.out) (Kd.R_base ho0) hb); replace aA := zV aA.out hb; replace aC := zV aC.out hb; replace aD := zV aD.out hb; replace HB := Qa.mk (Qk (zG3 aH.out aI.out aJ.out) hb); (try clear hb); (try clear ho0)))
 (try simp only [Act.put, List.setIfInBounds_toArray, List.set_cons_zero, List.set_cons_succ])
 go_cut [162] (fun v162 wc => ∃ (kq : Nat) (eD : Bool), v162 = .bool eD ∧ Qa (Qc.j1 kq aN bG dD aM eD bI bJ bK bL bM bN = some r) ∧ Qa (kq ≤ gB) ∧ Qa (Kd.R k48 48 wc w.heap.size (fun k_ => some k_ ≠ (cO : Value).ownBlock ∧ some k_ ≠ (dE : Value).ownBlock ∧ k_ ≠ aV ∧ k_ ≠ aW ∧ k_ ≠ aX) (.slice dF aN.length dG) aN) ∧ Qa (Kd.R k48 48 wc w.heap.size (fun k_ => some k_ ≠ ((.slice dF aN.length dG) : Value).ownBlock ∧ some k_ ≠ (dE : Value).ownBlock ∧ k_ ≠ aV ∧ k_ ≠ aW ∧ k_ ≠ aX) cO bG) ∧ Qa (Kd.R k48 48 wc w.heap.size (fun k_ => some k_ ≠ ((.slice dF aN.length dG) : Value).ownBlock ∧ some k_ ≠ (cO : Value).ownBlock ∧ k_ ≠ aV ∧ k_ ≠ aW ∧ k_ ≠ aX) dE aM) ∧ Qa (wc.heap[aV]? = some (.cells #[.int .i64 bI, .int .i64 bJ] 48 (0, 0))) ∧ Qa (wc.heap[aW]? = some (.cells #[.int .i64 bK, .int .i64 bL] 48 (0, 0))) ∧ Qa (wc.heap[aX]? = some (.cells #[.int .i64 bM, .int .i64 bN] 48 (0, 0))) ∧ Qa (Below w.heap.size w wc))
 case first => as_aux_lemma =>
  have H := iR.out
  clear iR
  obtain ⟨kD, mM, H⟩ := zO H
  replace H := jCs H
  rcases H with ⟨iT, pJ, H⟩ | ⟨uE, H⟩
  ·(first | rw [iT] | (simp only [Zd, Zf]; rw [iT]) | skip)
   obtain ⟨gF, mO, H⟩ := zO H
   replace H := Z8 H
   rcases H with ⟨iU, H⟩ | ⟨iU, H⟩
   ·exact absurd H (Qc.j1_no _ _ _ _ _ _ _ _ _ _ _ _ hr_)
   have pK : (gD != gF) = false := by simpa using iU
   (try (have pM : decide (gD = gF) = true := by simpa using iU))
   (try (have pO : (gD == gF) = true := by simpa using iU))
   clear iU
   by_cases c145 : gD = true
   ·subst c145
    replace H := (if_pos rfl).symm.trans H
    obtain ⟨kE, pQ, H⟩ := zO H
    have H' := Qa.mk H; clear H
    go_wp2_with (first | ((with_reducible refine Qd (f := 48) rfl ?_); refine zD (some 146) Tryz.func48 #[.slice eX bO.length eY] ((Qx.calls gB _ _ bO kD _ ?bD ?bE mM.out).mono ?_); (case bD => exact zc ((Kd.R_reads' cZ.out).2.2)); (case bE => exact (Kd.R_reads' cZ.out).2.1); rintro e uF ⟨rfl, hb⟩; refine ⟨_, rfl, ?_⟩; replace cZ := zW cZ.out hb; replace aT := zW aT.out hb; replace aQ := zW aQ.out hb; replace aZ := zW aZ.out hb; replace dC := zW dC.out hb; replace aA := zV aA.out hb; replace aC := zV aC.out hb; replace aD := zV aD.out hb; replace HB := Qa.mk (Qk (zG3 aH.out aI.out aJ.out) hb); (try clear hb)) | (go_at_call 46; (with_reducible refine (Qh.calls gB _ _ bO gF _ ?bD ?bE mO.out).mono ?_); (case bD => exact zc ((Kd.R_reads' cZ.out).2.2)); (case bE => exact (Kd.R_reads' cZ.out).2.1); rintro e uG ⟨rfl, hb⟩; replace cZ := zW cZ.out hb; replace aT := zW aT.out hb; replace aQ := zW aQ.out hb; replace aZ := zW aZ.out hb; replace dC := zW dC.out hb; replace aA := zV aA.out hb; replace aC := zV aC.out hb; replace aD := zV aD.out hb; replace HB := Qa.mk (Qk (zG3 aH.out aI.out aJ.out) hb); (try clear hb); (try clear hb2); (try clear hk); (try clear hi); obtain ⟨sH, sJ, mP⟩ := Kd.R_slice dC.out; subst mP) | (go_at_call 42; (with_reducible refine (Qu.calls gB _ _ kC _ _ bO kE _ ?bD ?bE ?dH ?dI pQ.out).mono ?_); (case bD => exact zc ((Kd.R_reads' dC.out).2.2)); (case bE => exact (Kd.R_reads' dC.out).2.1); (case dH => exact zc ((Kd.R_reads' cZ.out).2.2)); (case dI => exact (Kd.R_reads' cZ.out).2.1); rintro e w' ⟨rfl, ⟨nd, rfl⟩⟩))
    go_meet
    case rel => exact ⟨_, (!kE), zF, H', ⟨by have := eZ.out; first | omega | exact Nat.le_refl _⟩, ⟨by (with_reducible repeat (first | apply Kd.R_alloc | apply Kd.R_drewN | apply Kd.R_drew)); exact Kd.R_mono aT.out (fun _ hk => ⟨hk.1.2.1, ⟨hk.1.2.2.1, ⟨hk.1.2.2.2.1, ⟨hk.1.2.2.2.2.1, hk.1.2.2.2.2.2⟩⟩⟩⟩)⟩, ⟨by (with_reducible repeat (first | apply Kd.R_alloc | apply Kd.R_drewN | apply Kd.R_drew)); exact Kd.R_mono aQ.out (fun _ hk => ⟨hk.1.2.1, ⟨hk.1.2.2.1, ⟨hk.1.2.2.2.1, ⟨hk.1.2.2.2.2.1, hk.1.2.2.2.2.2⟩⟩⟩⟩)⟩, ⟨by (with_reducible repeat (first | apply Kd.R_alloc | apply Kd.R_drewN | apply Kd.R_drew)); exact Kd.R_mono aZ.out (fun _ hk => ⟨hk.1.2.1, ⟨hk.1.2.2.1, ⟨hk.1.2.2.2.1, ⟨hk.1.2.2.2.2.1, hk.1.2.2.2.2.2⟩⟩⟩⟩)⟩, ⟨zK aA.out⟩, ⟨zK aC.out⟩, ⟨zK aD.out⟩, ⟨zG3 aH.out aI.out aJ.out⟩⟩
   replace c145 := Bool.eq_false_iff.mpr c145
   subst c145
   replace H := (if_neg zFf).symm.trans H
   have H' := Qa.mk H; clear H
   go_wp2_with (first | ((with_reducible refine Qd (f := 48) rfl ?_); refine zD (some 146) Tryz.func48 #[.slice eX bO.length eY] ((Qx.calls gB _ _ bO kD _ ?bD ?bE mM.out).mono ?_); (case bD => exact zc ((Kd.R_reads' cZ.out).2.2)); (case bE => exact (Kd.R_reads' cZ.out).2.1); rintro e uH ⟨rfl, hb⟩; refine ⟨_, rfl, ?_⟩; replace cZ := zW cZ.out hb; replace aT := zW aT.out hb; replace aQ := zW aQ.out hb; replace aZ := zW aZ.out hb; replace dC := zW dC.out hb; replace aA := zV aA.out hb; replace aC := zV aC.out hb; replace aD := zV aD.out hb; replace HB := Qa.mk (Qk (zG3 aH.out aI.out aJ.out) hb); (try clear hb)) | (go_at_call 46; (with_reducible refine (Qh.calls gB _ _ bO gF _ ?bD ?bE mO.out).mono ?_); (case bD => exact zc ((Kd.R_reads' cZ.out).2.2)); (case bE => exact (Kd.R_reads' cZ.out).2.1); rintro e uI ⟨rfl, hb⟩; replace cZ := zW cZ.out hb; replace aT := zW aT.out hb; replace aQ := zW aQ.out hb; replace aZ := zW aZ.out hb; replace dC := zW dC.out hb; replace aA := zV aA.out hb; replace aC := zV aC.out hb; replace aD := zV aD.out hb; replace HB := Qa.mk (Qk (zG3 aH.out aI.out aJ.out) hb); (try clear hb); (try clear hb2); (try clear hk); (try clear hi)))
   go_meet
   case rel => exact ⟨_, (false), zF, H', ⟨by have := eZ.out; first | omega | exact Nat.le_refl _⟩, ⟨by (with_reducible repeat (first | apply Kd.R_alloc | apply Kd.R_drewN | apply Kd.R_drew)); exact Kd.R_mono aT.out (fun _ hk => ⟨hk.1.2.1, ⟨hk.1.2.2.1, ⟨hk.1.2.2.2.1, ⟨hk.1.2.2.2.2.1, hk.1.2.2.2.2.2⟩⟩⟩⟩)⟩, ⟨by (with_reducible repeat (first | apply Kd.R_alloc | apply Kd.R_drewN | apply Kd.R_drew)); exact Kd.R_mono aQ.out (fun _ hk => ⟨hk.1.2.1, ⟨hk.1.2.2.1, ⟨hk.1.2.2.2.1, ⟨hk.1.2.2.2.2.1, hk.1.2.2.2.2.2⟩⟩⟩⟩)⟩, ⟨by (with_reducible repeat (first | apply Kd.R_alloc | apply Kd.R_drewN | apply Kd.R_drew)); exact Kd.R_mono aZ.out (fun _ hk => ⟨hk.1.2.1, ⟨hk.1.2.2.1, ⟨hk.1.2.2.2.1, ⟨hk.1.2.2.2.2.1, hk.1.2.2.2.2.2⟩⟩⟩⟩)⟩, ⟨zK aA.out⟩, ⟨zK aC.out⟩, ⟨zK aD.out⟩, ⟨zG3 aH.out aI.out aJ.out⟩⟩
  exact absurd H (Qc.j1_no _ _ _ _ _ _ _ _ _ _ _ _ hr_)
 case rest => as_aux_lemma =>
 clear iR
 try clear c3
 try clear iQ
 obtain ⟨kq, eD, rfl, HA, eF, aT, aQ, aZ, aA, aC, aD, HB⟩ := hcut
 cases kq with
 | zero => exact absurd HA.out (by simp [Qc.j1])
 | succ mQ =>
 have H := HA.out
 clear HA
 simp only [Qc.j1] at H
 by_cases iB : eD = true
 ·subst iB
  replace H := (if_pos rfl).symm.trans H
  obtain rfl := Option.some.inj H
  cases hr_
 replace iB := Bool.eq_false_iff.mpr iB
 subst iB
 replace H := (if_neg zFf).symm.trans H
 have iV := Qa.mk H
 clear H
 go_upto_region 19 with (fail)
 go_cut [183] (fun v183 wc => ∃ (kq : Nat) (eG : Bool), v183 = .bool eG ∧ Qa (Qc.j2 kq aN bG dD aM eG = some r) ∧ Qa (kq ≤ mQ) ∧ Qa (Kd.R k48 48 wc w.heap.size (fun k_ => some k_ ≠ (cO : Value).ownBlock ∧ some k_ ≠ (dE : Value).ownBlock ∧ k_ ≠ aV ∧ k_ ≠ aW ∧ k_ ≠ aX) (.slice dF aN.length dG) aN) ∧ Qa (Kd.R k48 48 wc w.heap.size (fun k_ => some k_ ≠ ((.slice dF aN.length dG) : Value).ownBlock ∧ some k_ ≠ (dE : Value).ownBlock ∧ k_ ≠ aV ∧ k_ ≠ aW ∧ k_ ≠ aX) cO bG) ∧ Qa (Kd.R k48 48 wc w.heap.size (fun k_ => some k_ ≠ ((.slice dF aN.length dG) : Value).ownBlock ∧ some k_ ≠ (cO : Value).ownBlock ∧ k_ ≠ aV ∧ k_ ≠ aW ∧ k_ ≠ aX) dE aM) ∧ Qa (wc.heap[aV]? = some (.cells #[.int .i64 bI, .int .i64 bJ] 48 (0, 0))) ∧ Qa (wc.heap[aW]? = some (.cells #[.int .i64 bK, .int .i64 bL] 48 (0, 0))) ∧ Qa (wc.heap[aX]? = some (.cells #[.int .i64 bM, .int .i64 bN] 48 (0, 0))) ∧ Qa (Below w.heap.size w wc))
 case first => as_aux_lemma =>
  have H := iV.out
  clear iV
  obtain ⟨mR, pR, H⟩ := zO H
  obtain ⟨mU, pU, H⟩ := zO H
  replace H := jCs H
  rcases H with ⟨iW, pV, H⟩ | ⟨c157, H⟩
  ·(first | rw [iW] | (simp only [Zd, Zf]; rw [iW]) | skip)
   obtain ⟨kF, pW, H⟩ := zO H
   obtain ⟨kG, pX, H⟩ := zO H
   have H' := Qa.mk H; clear H
   try go_wp2
   replace aT := Qa.mk (Kd.R_drew aT.out)
   replace aQ := Qa.mk (Kd.R_drew aQ.out)
   replace aZ := Qa.mk (Kd.R_drew aZ.out)
   replace aA := Qa.mk (Q8 aA.out)
   replace aC := Qa.mk (Q8 aC.out)
   replace aD := Qa.mk (Q8 aD.out)
   replace HB := Qa.mk (Qp HB.out)
   refine Zy (n := 21) (S := fun w' => w'.cell? ⟨aV, 0, none⟩ = some (.int .i64 bI) ∧ w'.cell? ⟨aV, 1, none⟩ = some (.int .i64 bJ) ∧ w'.cell? ⟨aW, 0, none⟩ = some (.int .i64 bK) ∧ w'.cell? ⟨aW, 1, none⟩ = some (.int .i64 bL) ∧ w'.cell? ⟨aX, 0, none⟩ = some (.int .i64 bM) ∧ w'.cell? ⟨aX, 1, none⟩ = some (.int .i64 bN)) (ds := []) #[false, false, false, false, false, false, false, false, false, false, false, false, false, false, false, false, false, false, false, false, false] (by kernel_rfl) rfl rfl ⟨(Qn aA.out 0).trans rfl, (Qn aA.out 1).trans rfl, (Qn aC.out 0).trans rfl, (Qn aC.out 1).trans rfl, (Qn aD.out 0).trans rfl, (Qn aD.out 1).trans rfl⟩ (fun hHeld => ?_); refine Jr Qc.tab19 Qc.bits19 (fun HT_ HW_ => ?_)
   generalize wc.drew = uJ at aT aQ aZ aA aC aD HB hHeld ⊢
   refine zY6 0 (some 163) rfl rfl hHeld ?_
   refine zY6 1 (some 164) rfl rfl hHeld ?_
   refine zY6 2 (some 165) rfl rfl hHeld ?_
   refine zY6 4 (some 167) rfl rfl hHeld ?_
   refine zY6 5 (some 168) rfl rfl hHeld ?_
   refine zY6 6 (some 169) rfl rfl hHeld ?_
   refine zU 3 (some 166) rfl rfl (fun K hK => ?_)
   refine Xq Tryz.func28 (by kernel_rfl) rfl #[.agg #[.int .i64 bI, .int .i64 bJ], .agg #[.int .i64 bK, .int .i64 bL], .agg #[.int .i64 bM, .int .i64 bN]] (by rfl) rfl rfl zM ?_
   with_reducible refine (Jo.calls bI bJ bK bL bM bN mR _ pR.out).mono ?_
   rintro e uK ⟨rfl, hb⟩
   refine ⟨_, rfl, ?_⟩
   replace aT := zW aT.out hb
   replace aQ := zW aQ.out hb
   replace aZ := zW aZ.out hb
   replace aA := zV aA.out hb
   replace aC := zV aC.out hb
   replace aD := zV aD.out hb
   replace HB := Qa.mk (Qk (zG3 aH.out aI.out aJ.out) hb)
   (try clear hb)
   refine hK.out _ _ (zh aA.out (zh aC.out (zh2 aD.out))) (fun hHeld => ?_)
   clear hK K
   refine zN ?_
   refine zU 7 (some 170) rfl rfl (fun K hK => ?_)
   refine Xq Tryz.func28 (by kernel_rfl) rfl #[.agg #[.int .i64 bK, .int .i64 bL], .agg #[.int .i64 bM, .int .i64 bN], .agg #[.int .i64 bI, .int .i64 bJ]] (by rfl) rfl rfl zM ?_
   with_reducible refine (Jo.calls bK bL bM bN bI bJ mU _ pU.out).mono ?_
   rintro e uL ⟨rfl, hb⟩
   refine ⟨_, rfl, ?_⟩
   replace aT := zW aT.out hb
   replace aQ := zW aQ.out hb
   replace aZ := zW aZ.out hb
   replace aA := zV aA.out hb
   replace aC := zV aC.out hb
   replace aD := zV aD.out hb
   replace HB := Qa.mk (Qk (zG3 aH.out aI.out aJ.out) hb)
   (try clear hb)
   refine hK.out _ _ (zh aA.out (zh aC.out (zh2 aD.out))) (fun hHeld => ?_)
   clear hK K
   refine zN ?_
   refine zP 8 (some 171) rfl rfl ?_
   refine zP 9 (some 172) rfl rfl ?_
   refine zY6 10 (some 173) rfl rfl hHeld ?_
   refine zY6 11 (some 174) rfl rfl hHeld ?_
   refine zY6 12 (some 175) rfl rfl hHeld ?_
   refine zY6 14 (some 177) rfl rfl hHeld ?_
   refine zY6 15 (some 178) rfl rfl hHeld ?_
   refine zY6 16 (some 179) rfl rfl hHeld ?_
   refine zU 13 (some 176) rfl rfl (fun K hK => ?_)
   refine Xq Tryz.func28 (by kernel_rfl) rfl #[.agg #[.int .i64 bI, .int .i64 bJ], .agg #[.int .i64 bK, .int .i64 bL], .agg #[.int .i64 bM, .int .i64 bN]] (by rfl) rfl rfl zM ?_
   with_reducible refine (Jo.calls bI bJ bK bL bM bN kF _ pW.out).mono ?_
   rintro e uM ⟨rfl, hb⟩
   refine ⟨_, rfl, ?_⟩
   replace aT := zW aT.out hb
   replace aQ := zW aQ.out hb
   replace aZ := zW aZ.out hb
   replace aA := zV aA.out hb
   replace aC := zV aC.out hb
   replace aD := zV aD.out hb
   replace HB := Qa.mk (Qk (zG3 aH.out aI.out aJ.out) hb)
   (try clear hb)
   refine hK.out _ _ (zh aA.out (zh aC.out (zh2 aD.out))) (fun hHeld => ?_)
   clear hK K
   refine zN ?_
   refine zU 17 (some 180) rfl rfl (fun K hK => ?_)
   refine Xq Tryz.func28 (by kernel_rfl) rfl #[.agg #[.int .i64 bK, .int .i64 bL], .agg #[.int .i64 bI, .int .i64 bJ], .agg #[.int .i64 bM, .int .i64 bN]] (by rfl) rfl rfl zM ?_
   with_reducible refine (Jo.calls bK bL bI bJ bM bN kG _ pX.out).mono ?_
   rintro e uN ⟨rfl, hb⟩
   refine ⟨_, rfl, ?_⟩
   replace aT := zW aT.out hb
   replace aQ := zW aQ.out hb
   replace aZ := zW aZ.out hb
   replace aA := zV aA.out hb
   replace aC := zV aC.out hb
   replace aD := zV aD.out hb
   replace HB := Qa.mk (Qk (zG3 aH.out aI.out aJ.out) hb)
   (try clear hb)
   refine hK.out _ _ (zh aA.out (zh aC.out (zh2 aD.out))) (fun hHeld => ?_)
   clear hK K
   refine zN ?_
   refine zP 18 (some 181) rfl rfl ?_
   refine zP 19 (some 182) rfl rfl ?_
   refine zP 20 (some 183) rfl rfl ?_
   refine Ya (Zj HT_.out (by kernel_rfl)) ?_
   try go_wp2
   go_meet
   case rel => exact ⟨_, ((kF != (wrap64 (-kG)))), zF, H', ⟨by have := eZ.out; have := eF.out; first | omega | exact Nat.le_refl _⟩, ⟨zR aT.out⟩, ⟨zR aQ.out⟩, ⟨zR aZ.out⟩, ⟨zK aA.out⟩, ⟨zK aC.out⟩, ⟨zK aD.out⟩, ⟨zG3 aH.out aI.out aJ.out⟩⟩
  exact absurd H (Qc.j2_no _ _ _ _ _ _ hr_)
 case rest => as_aux_lemma =>
 clear iV
 try clear iB
 obtain ⟨kq, eG, rfl, HA, eQ, aT, aQ, aZ, aA, aC, aD, HB⟩ := hcut
 cases kq with
 | zero => exact absurd HA.out (by simp [Qc.j2])
 | succ kH =>
 have H := HA.out
 clear HA
 simp only [Qc.j2] at H
 by_cases c168 : eG = true
 ·subst c168
  replace H := (if_pos rfl).symm.trans H
  obtain rfl := Option.some.inj H
  cases hr_
 replace c168 := Bool.eq_false_iff.mpr c168
 subst c168
 replace H := (if_neg zFf).symm.trans H
 have H' := Qa.mk H; clear H
 go_wp2
 go_loopg [24] kH (fun kq v24 w' => ∃ (bA : Int), v24 = .int .i64 bA ∧ Qa (Qc.l0 kq aN bG dD aM bA = some r) ∧ Qa (kq ≤ kH) ∧ Qa (Kd.R k48 48 w' w.heap.size (fun k_ => some k_ ≠ (cO : Value).ownBlock ∧ some k_ ≠ (dE : Value).ownBlock ∧ k_ ≠ aV ∧ k_ ≠ aW ∧ k_ ≠ aX) (.slice dF aN.length dG) aN) ∧ Qa (Kd.R k48 48 w' w.heap.size (fun k_ => some k_ ≠ ((.slice dF aN.length dG) : Value).ownBlock ∧ some k_ ≠ (dE : Value).ownBlock ∧ k_ ≠ aV ∧ k_ ≠ aW ∧ k_ ≠ aX) cO bG) ∧ Qa (Kd.R k48 48 w' w.heap.size (fun k_ => some k_ ≠ ((.slice dF aN.length dG) : Value).ownBlock ∧ some k_ ≠ (cO : Value).ownBlock ∧ k_ ≠ aV ∧ k_ ≠ aW ∧ k_ ≠ aX) dE aM) ∧ Qa (w'.heap[aV]? = some (.cells #[.int .i64 bI, .int .i64 bJ] 48 (0, 0))) ∧ Qa (w'.heap[aW]? = some (.cells #[.int .i64 bK, .int .i64 bL] 48 (0, 0))) ∧ Qa (w'.heap[aX]? = some (.cells #[.int .i64 bM, .int .i64 bN] 48 (0, 0))) ∧ Qa (Below w.heap.size w w'))
 case atStart => exact ⟨(1), zF, H', ⟨Nat.le_refl _⟩, ⟨zR aT.out⟩, ⟨zR aQ.out⟩, ⟨zR aZ.out⟩, ⟨zK aA.out⟩, ⟨zK aC.out⟩, ⟨zK aD.out⟩, ⟨zG3 aH.out aI.out aJ.out⟩⟩
 case round =>
 clear H'
 try clear iB
 try clear c168
 obtain ⟨bA, rfl, HA, kI, aT, aQ, aZ, aA, aC, aD, HB⟩ := hrel
 cases gk with
 | zero => exact absurd HA.out (by simp [Qc.l0])
 | succ k4 =>
 have H := HA.out
 clear HA
 simp only [Qc.l0] at H
 replace H := Xg H
 rcases H with ⟨gP, H⟩ | ⟨gP, H⟩
 ·obtain ⟨bF, gQ⟩ : ∃ j_ : Int, (wrap64 (bA - 1)) = j_ := ⟨_, rfl⟩
  first | rw [gQ] at H | simp only [gQ] at H
  have oC : (IntKind.i64.wrap (bA - 1)) = bF := (Zd _).trans gQ
  replace H := J9 H
  rcases H with ⟨pY, H⟩ | ⟨c171, H⟩
  ·replace H := J9 H
   rcases H with ⟨qA, H⟩ | ⟨uO, H⟩
   ·replace H := J9 H
    rcases H with ⟨qB, H⟩ | ⟨c173, H⟩
    ·replace H := Z8 H
     rcases H with ⟨iX, H⟩ | ⟨iX, H⟩
     ·have kP : decide (((Qb aM bA).f0) < ((Qb aM (bF)).f0)) = true := decide_eq_true iX
      clear iX
      obtain rfl := Option.some.inj H
      cases hr_
     have kP : decide (((Qb aM bA).f0) < ((Qb aM (bF)).f0)) = false := decide_eq_false iX
     clear iX
     replace H := Zb H
     rcases H with ⟨kQ, kR, H⟩ | ⟨uP, kQ, kR, H⟩
     ·replace H := Z8 H
      rcases H with ⟨iY, H⟩ | ⟨iY, H⟩
      ·have kS : decide (((Qb aM bA).f1) ≤ ((Qb aM (bF)).f1)) = true := decide_eq_true iY
       clear iY
       obtain rfl := Option.some.inj H
       cases hr_
      have kS : decide (((Qb aM bA).f1) ≤ ((Qb aM (bF)).f1)) = false := decide_eq_false iY
      clear iY
      have H' := Qa.mk H; clear H
      obtain ⟨sK, sM, mV⟩ := Kd.R_slice aZ.out
      subst mV
      try go_wp2
      replace aT := Qa.mk (Kd.R_drew aT.out)
      replace aQ := Qa.mk (Kd.R_drew aQ.out)
      replace aZ := Qa.mk (Kd.R_drew aZ.out)
      replace aA := Qa.mk (Q8 aA.out)
      replace aC := Qa.mk (Q8 aC.out)
      replace aD := Qa.mk (Q8 aD.out)
      replace HB := Qa.mk (Qp HB.out)
      have fA : 0 ≤ ((bF) : Int) := zA
      have fB : (bF) < (aM.length : Int) := zA
      obtain ⟨aY, iZ, dJ, dK⟩ := Jj (Kd.R_reads' aZ.out).2.2 (bF) fA fB
      cases iZ
      replace fA := eq_true fA
      replace fB := eq_true fB
      have fC : 0 ≤ (bA : Int) := zA
      have fD : bA < (aM.length : Int) := zA
      obtain ⟨gT, jA, dL, dM⟩ := Jj (Kd.R_reads' aZ.out).2.2 bA fC fD
      obtain rfl : aY = gT := (by injection jA)
      replace fC := eq_true fC
      replace fD := eq_true fD
      have fE : 0 ≤ ((bF) : Int) := zA
      have fF : (bF) < (aM.length : Int) := zA
      obtain ⟨gU, jB, dN, dO⟩ := Jj (Kd.R_reads' aZ.out).2.2 (bF) fE fF
      obtain rfl : aY = gU := (by injection jB)
      replace fE := eq_true fE
      replace fF := eq_true fF
      have fG : 0 ≤ (bA : Int) := zA
      have fH : bA < (aM.length : Int) := zA
      obtain ⟨gV, jC, dP, dQ⟩ := Jj (Kd.R_reads' aZ.out).2.2 bA fG fH
      obtain rfl : aY = gV := (by injection jC)
      replace fG := eq_true fG
      replace fH := eq_true fH
      have jD : 0 ≤ ((bF) : Int) := zA
      have jE : (bF) < (aM.length : Int) := zA
      obtain ⟨kT, mW, gG, gH⟩ := Jj (Kd.R_reads' aZ.out).2.2 (bF) jD jE
      obtain rfl : aY = kT := (by injection mW)
      replace jD := eq_true jD
      replace jE := eq_true jE
      have jF : 0 ≤ (bA : Int) := zA
      have jG : bA < (aM.length : Int) := zA
      obtain ⟨kU, mX, gI, gJ⟩ := Jj (Kd.R_reads' aZ.out).2.2 bA jF jG
      obtain rfl : aY = kU := (by injection mX)
      replace jF := eq_true jF
      replace jG := eq_true jG
      refine Zy (n := 40) (S := fun w' => w'.cell? (aY.add (((bF)).toNat * 2)) = some (.int .i64 ((Qb aM (bF)).f0)) ∧ w'.cell? ⟨(aY.add (((bF)).toNat * 2)).block, (aY.add (((bF)).toNat * 2)).off + 1, none⟩ = some (.int .i64 ((Qb aM (bF)).f1)) ∧ w'.cell? (aY.add ((bA).toNat * 2)) = some (.int .i64 ((Qb aM bA).f0)) ∧ w'.cell? ⟨(aY.add ((bA).toNat * 2)).block, (aY.add ((bA).toNat * 2)).off + 1, none⟩ = some (.int .i64 ((Qb aM bA).f1)) ∧ w'.cell? (aY.add (((bF)).toNat * 2)) = some (.int .i64 ((Qb aM (bF)).f0)) ∧ w'.cell? ⟨(aY.add (((bF)).toNat * 2)).block, (aY.add (((bF)).toNat * 2)).off + 1, none⟩ = some (.int .i64 ((Qb aM (bF)).f1)) ∧ w'.cell? (aY.add ((bA).toNat * 2)) = some (.int .i64 ((Qb aM bA).f0)) ∧ w'.cell? ⟨(aY.add ((bA).toNat * 2)).block, (aY.add ((bA).toNat * 2)).off + 1, none⟩ = some (.int .i64 ((Qb aM bA).f1)) ∧ w'.cell? (aY.add (((bF)).toNat * 2)) = some (.int .i64 ((Qb aM (bF)).f0)) ∧ w'.cell? ⟨(aY.add (((bF)).toNat * 2)).block, (aY.add (((bF)).toNat * 2)).off + 1, none⟩ = some (.int .i64 ((Qb aM (bF)).f1)) ∧ w'.cell? (aY.add ((bA).toNat * 2)) = some (.int .i64 ((Qb aM bA).f0)) ∧ w'.cell? ⟨(aY.add ((bA).toNat * 2)).block, (aY.add ((bA).toNat * 2)).off + 1, none⟩ = some (.int .i64 ((Qb aM bA).f1))) (ds := []) #[false, false, false, false, false, false, false, false, false, false, false, false, false, false, false, false, false, false, false, false, false, false, false, false, false, false, false, false, false, false, false, false, false, false, false, false, false, false, false, false] (by kernel_rfl) rfl rfl ⟨dJ, dK, dL, dM, dN, dO, dP, dQ, gG, gH, gI, gJ⟩ (fun hHeld => ?_); refine Jr Qc.tab24 Qc.bits24 (fun HT_ HW_ => ?_)
      generalize wr.drew = uQ at aT aQ aZ aA aC aD HB dJ dK dL dM dN dO dP dQ gG gH gI gJ hHeld ⊢
      refine zP 0 (some 190) rfl rfl ?_
      refine zP 1 (some 191) rfl rfl ?_
      refine zP 2 (some 192) rfl rfl ?_
      refine zP 3 (some 193) rfl rfl ?_
      refine zP 4 (some 194) rfl rfl ?_
      refine zP 6 (some 196) rfl rfl ?_
      refine zP 7 (some 197) rfl rfl ?_
      refine zP 8 (some 198) rfl rfl ?_
      refine zP 9 (some 199) rfl rfl ?_
      refine jDq 5 (some 195) rfl rfl hHeld ?_
      refine jDq 10 (some 200) rfl rfl hHeld ?_
      refine zP 11 (some 201) rfl rfl ?_
      refine zP 12 (some 202) rfl rfl ?_
      refine zP 13 (some 203) rfl rfl ?_
      refine zP 14 (some 204) rfl rfl ?_
      refine zP 15 (some 205) rfl rfl ?_
      refine zP 16 (some 206) rfl rfl ?_
      refine zP 17 (some 207) rfl rfl ?_
      refine zP 19 (some 209) rfl rfl ?_
      refine zP 20 (some 210) rfl rfl ?_
      refine zP 21 (some 211) rfl rfl ?_
      refine zP 22 (some 212) rfl rfl ?_
      refine jDq 18 (some 208) rfl rfl hHeld ?_
      refine jDq 23 (some 213) rfl rfl hHeld ?_
      refine zP 24 (some 214) rfl rfl ?_
      refine zP 25 (some 215) rfl rfl ?_
      refine zP 26 (some 216) rfl rfl ?_
      refine zP 27 (some 217) rfl rfl ?_
      refine zP 28 (some 218) rfl rfl ?_
      refine zP 29 (some 219) rfl rfl ?_
      refine zP 30 (some 220) rfl rfl ?_
      refine zP 32 (some 222) rfl rfl ?_
      refine zP 33 (some 223) rfl rfl ?_
      refine zP 34 (some 224) rfl rfl ?_
      refine zP 35 (some 225) rfl rfl ?_
      refine jDq 31 (some 221) rfl rfl hHeld ?_
      refine jDq 36 (some 226) rfl rfl hHeld ?_
      refine zP 37 (some 227) rfl rfl ?_
      refine zP 38 (some 228) rfl rfl ?_
      refine zP 39 (some 229) rfl rfl ?_
      refine Ya (Zj HT_.out (by kernel_rfl)) ?_
      try go_wp2
      go_roundg k4
      case measure => have := eZ.out; have := eF.out; have := eQ.out; have := kI.out; omega
      case rel => exact ⟨(wrap64 (bA + 1)), zF, H', ⟨by have := eZ.out; have := eF.out; have := eQ.out; have := kI.out; omega⟩, ⟨zR aT.out⟩, ⟨zR aQ.out⟩, ⟨zR aZ.out⟩, ⟨zK aA.out⟩, ⟨zK aC.out⟩, ⟨zK aD.out⟩, ⟨zG3 aH.out aI.out aJ.out⟩⟩
     have H' := Qa.mk H; clear H
     obtain ⟨sN, sO, mY⟩ := Kd.R_slice aZ.out
     subst mY
     try go_wp2
     replace aT := Qa.mk (Kd.R_drew aT.out)
     replace aQ := Qa.mk (Kd.R_drew aQ.out)
     replace aZ := Qa.mk (Kd.R_drew aZ.out)
     replace aA := Qa.mk (Q8 aA.out)
     replace aC := Qa.mk (Q8 aC.out)
     replace aD := Qa.mk (Q8 aD.out)
     replace HB := Qa.mk (Qp HB.out)
     have fA : 0 ≤ ((bF) : Int) := zA
     have fB : (bF) < (aM.length : Int) := zA
     obtain ⟨aY, iZ, dJ, dK⟩ := Jj (Kd.R_reads' aZ.out).2.2 (bF) fA fB
     cases iZ
     replace fA := eq_true fA
     replace fB := eq_true fB
     have fC : 0 ≤ (bA : Int) := zA
     have fD : bA < (aM.length : Int) := zA
     obtain ⟨gT, jA, dL, dM⟩ := Jj (Kd.R_reads' aZ.out).2.2 bA fC fD
     obtain rfl : aY = gT := (by injection jA)
     replace fC := eq_true fC
     replace fD := eq_true fD
     have fE : 0 ≤ ((bF) : Int) := zA
     have fF : (bF) < (aM.length : Int) := zA
     obtain ⟨gU, jB, dN, dO⟩ := Jj (Kd.R_reads' aZ.out).2.2 (bF) fE fF
     obtain rfl : aY = gU := (by injection jB)
     replace fE := eq_true fE
     replace fF := eq_true fF
     have fG : 0 ≤ (bA : Int) := zA
     have fH : bA < (aM.length : Int) := zA
     obtain ⟨gV, jC, dP, dQ⟩ := Jj (Kd.R_reads' aZ.out).2.2 bA fG fH
     obtain rfl : aY = gV := (by injection jC)
     replace fG := eq_true fG
     replace fH := eq_true fH
     refine Zy (n := 40) (S := fun w' => w'.cell? (aY.add (((bF)).toNat * 2)) = some (.int .i64 ((Qb aM (bF)).f0)) ∧ w'.cell? ⟨(aY.add (((bF)).toNat * 2)).block, (aY.add (((bF)).toNat * 2)).off + 1, none⟩ = some (.int .i64 ((Qb aM (bF)).f1)) ∧ w'.cell? (aY.add ((bA).toNat * 2)) = some (.int .i64 ((Qb aM bA).f0)) ∧ w'.cell? ⟨(aY.add ((bA).toNat * 2)).block, (aY.add ((bA).toNat * 2)).off + 1, none⟩ = some (.int .i64 ((Qb aM bA).f1)) ∧ w'.cell? (aY.add (((bF)).toNat * 2)) = some (.int .i64 ((Qb aM (bF)).f0)) ∧ w'.cell? ⟨(aY.add (((bF)).toNat * 2)).block, (aY.add (((bF)).toNat * 2)).off + 1, none⟩ = some (.int .i64 ((Qb aM (bF)).f1)) ∧ w'.cell? (aY.add ((bA).toNat * 2)) = some (.int .i64 ((Qb aM bA).f0)) ∧ w'.cell? ⟨(aY.add ((bA).toNat * 2)).block, (aY.add ((bA).toNat * 2)).off + 1, none⟩ = some (.int .i64 ((Qb aM bA).f1))) (ds := []) #[false, false, false, false, false, false, false, false, false, false, false, false, false, false, false, false, false, false, false, false, false, false, false, false, false, false, false, false, false, false, false, false, false, false, false, false, false, false, false, false] (by kernel_rfl) rfl rfl ⟨dJ, dK, dL, dM, dN, dO, dP, dQ⟩ (fun hHeld => ?_); refine Jr Qc.tab24 Qc.bits24 (fun HT_ HW_ => ?_)
     generalize wr.drew = uR at aT aQ aZ aA aC aD HB dJ dK dL dM dN dO dP dQ hHeld ⊢
     refine zP 0 (some 190) rfl rfl ?_
     refine zP 1 (some 191) rfl rfl ?_
     refine zP 2 (some 192) rfl rfl ?_
     refine zP 3 (some 193) rfl rfl ?_
     refine zP 4 (some 194) rfl rfl ?_
     refine zP 6 (some 196) rfl rfl ?_
     refine zP 7 (some 197) rfl rfl ?_
     refine zP 8 (some 198) rfl rfl ?_
     refine zP 9 (some 199) rfl rfl ?_
     refine zY8 5 (some 195) rfl rfl hHeld ?_
     refine zY8 10 (some 200) rfl rfl hHeld ?_
     refine zP 11 (some 201) rfl rfl ?_
     refine zP 12 (some 202) rfl rfl ?_
     refine zP 13 (some 203) rfl rfl ?_
     refine zP 14 (some 204) rfl rfl ?_
     refine zP 15 (some 205) rfl rfl ?_
     refine zP 16 (some 206) rfl rfl ?_
     refine zP 17 (some 207) rfl rfl ?_
     refine zP 19 (some 209) rfl rfl ?_
     refine zP 20 (some 210) rfl rfl ?_
     refine zP 21 (some 211) rfl rfl ?_
     refine zP 22 (some 212) rfl rfl ?_
     refine zY8 18 (some 208) rfl rfl hHeld ?_
     refine zY8 23 (some 213) rfl rfl hHeld ?_
     refine zP 24 (some 214) rfl rfl ?_
     refine zP 25 (some 215) rfl rfl ?_
     refine Yb (i := 26) (N := some 216) (v := undef) (a' := ?_) #[true, true, true, true, true, true, true, true, true, true, true, true, true, true, true, true, true, true, true, true, true, true, true, true, true, true, true, false, false, false, false, false, false, false, false, false, false, false, false, false] rfl rfl (Xf HT_.out (by kernel_rfl)) (fun _ _ _ h => h) (Or.inr ⟨by rfl, rfl⟩) ?_ ?_
     rotate_left
     ·simp only [Act.put, List.setIfInBounds_toArray, List.set_cons_zero, List.set_cons_succ, Zd, Zf]
      rfl
     refine Yb (i := 27) (N := some 217) (v := undef) (a' := ?_) #[true, true, true, true, true, true, true, true, true, true, true, true, true, true, true, true, true, true, true, true, true, true, true, true, true, true, true, true, false, false, false, false, false, false, false, false, false, false, false, false] rfl rfl (Xf HT_.out (by kernel_rfl)) (fun _ _ _ h => h) (Or.inr ⟨by rfl, rfl⟩) ?_ ?_
     rotate_left
     ·simp only [Act.put, List.setIfInBounds_toArray, List.set_cons_zero, List.set_cons_succ, Zd, Zf]
      rfl
     refine Yb (i := 28) (N := some 218) (v := undef) (a' := ?_) #[true, true, true, true, true, true, true, true, true, true, true, true, true, true, true, true, true, true, true, true, true, true, true, true, true, true, true, true, true, false, false, false, false, false, false, false, false, false, false, false] rfl rfl (Xf HT_.out (by kernel_rfl)) (fun _ _ _ h => h) (Or.inr ⟨by rfl, rfl⟩) ?_ ?_
     rotate_left
     ·simp only [Act.put, List.setIfInBounds_toArray, List.set_cons_zero, List.set_cons_succ, Zd, Zf]
      rfl
     refine Yb (i := 29) (N := some 219) (v := undef) (a' := ?_) #[true, true, true, true, true, true, true, true, true, true, true, true, true, true, true, true, true, true, true, true, true, true, true, true, true, true, true, true, true, true, false, false, false, false, false, false, false, false, false, false] rfl rfl (Xf HT_.out (by kernel_rfl)) (fun _ _ _ h => h) (Or.inr ⟨by rfl, rfl⟩) ?_ ?_
     rotate_left
     ·simp only [Act.put, List.setIfInBounds_toArray, List.set_cons_zero, List.set_cons_succ, Zd, Zf]
      rfl
     refine Yb (i := 30) (N := some 220) (v := undef) (a' := ?_) #[true, true, true, true, true, true, true, true, true, true, true, true, true, true, true, true, true, true, true, true, true, true, true, true, true, true, true, true, true, true, true, false, false, false, false, false, false, false, false, false] rfl rfl (Xf HT_.out (by kernel_rfl)) (fun _ _ _ h => h) (Or.inr ⟨by rfl, rfl⟩) ?_ ?_
     rotate_left
     ·simp only [Act.put, List.setIfInBounds_toArray, List.set_cons_zero, List.set_cons_succ, Zd, Zf]
      rfl
     refine Yb (i := 31) (N := some 221) (v := undef) (a' := ?_) #[true, true, true, true, true, true, true, true, true, true, true, true, true, true, true, true, true, true, true, true, true, true, true, true, true, true, true, true, true, true, true, true, false, false, false, false, false, false, false, false] rfl rfl (Xf HT_.out (by kernel_rfl)) (fun _ _ _ h => h) (Or.inr ⟨by rfl, rfl⟩) ?_ ?_
     rotate_left
     ·simp only [Act.put, List.setIfInBounds_toArray, List.set_cons_zero, List.set_cons_succ, Zd, Zf]
      rfl
     refine Yb (i := 32) (N := some 222) (v := undef) (a' := ?_) #[true, true, true, true, true, true, true, true, true, true, true, true, true, true, true, true, true, true, true, true, true, true, true, true, true, true, true, true, true, true, true, true, true, false, false, false, false, false, false, false] rfl rfl (Xf HT_.out (by kernel_rfl)) (fun _ _ _ h => h) (Or.inr ⟨by rfl, rfl⟩) ?_ ?_
     rotate_left
     ·simp only [Act.put, List.setIfInBounds_toArray, List.set_cons_zero, List.set_cons_succ, Zd, Zf]
      rfl
     refine Yb (i := 33) (N := some 223) (v := undef) (a' := ?_) #[true, true, true, true, true, true, true, true, true, true, true, true, true, true, true, true, true, true, true, true, true, true, true, true, true, true, true, true, true, true, true, true, true, true, false, false, false, false, false, false] rfl rfl (Xf HT_.out (by kernel_rfl)) (fun _ _ _ h => h) (Or.inr ⟨by rfl, rfl⟩) ?_ ?_
     rotate_left
     ·simp only [Act.put, List.setIfInBounds_toArray, List.set_cons_zero, List.set_cons_succ, Zd, Zf]
      rfl
     refine Yb (i := 34) (N := some 224) (v := undef) (a' := ?_) #[true, true, true, true, true, true, true, true, true, true, true, true, true, true, true, true, true, true, true, true, true, true, true, true, true, true, true, true, true, true, true, true, true, true, true, false, false, false, false, false] rfl rfl (Xf HT_.out (by kernel_rfl)) (fun _ _ _ h => h) (Or.inr ⟨by rfl, rfl⟩) ?_ ?_
     rotate_left
     ·simp only [Act.put, List.setIfInBounds_toArray, List.set_cons_zero, List.set_cons_succ, Zd, Zf]
      rfl
     refine Yb (i := 35) (N := some 225) (v := undef) (a' := ?_) #[true, true, true, true, true, true, true, true, true, true, true, true, true, true, true, true, true, true, true, true, true, true, true, true, true, true, true, true, true, true, true, true, true, true, true, true, false, false, false, false] rfl rfl (Xf HT_.out (by kernel_rfl)) (fun _ _ _ h => h) (Or.inr ⟨by rfl, rfl⟩) ?_ ?_
     rotate_left
     ·simp only [Act.put, List.setIfInBounds_toArray, List.set_cons_zero, List.set_cons_succ, Zd, Zf]
      rfl
     refine Yb (i := 36) (N := some 226) (v := undef) (a' := ?_) #[true, true, true, true, true, true, true, true, true, true, true, true, true, true, true, true, true, true, true, true, true, true, true, true, true, true, true, true, true, true, true, true, true, true, true, true, true, false, false, false] rfl rfl (Xf HT_.out (by kernel_rfl)) (fun _ _ _ h => h) (Or.inr ⟨by rfl, rfl⟩) ?_ ?_
     rotate_left
     ·simp only [Act.put, List.setIfInBounds_toArray, List.set_cons_zero, List.set_cons_succ, Zd, Zf]
      rfl
     refine Yb (i := 37) (N := some 227) (v := undef) (a' := ?_) #[true, true, true, true, true, true, true, true, true, true, true, true, true, true, true, true, true, true, true, true, true, true, true, true, true, true, true, true, true, true, true, true, true, true, true, true, true, true, false, false] rfl rfl (Xf HT_.out (by kernel_rfl)) (fun _ _ _ h => h) (Or.inr ⟨by rfl, rfl⟩) ?_ ?_
     rotate_left
     ·simp only [Act.put, List.setIfInBounds_toArray, List.set_cons_zero, List.set_cons_succ, Zd, Zf]
      rfl
     refine zP 38 (some 228) rfl rfl ?_
     refine zP 39 (some 229) rfl rfl ?_
     refine Ya (Zj HT_.out (by kernel_rfl)) ?_
     try go_wp2
     go_roundg k4
     case measure => have := eZ.out; have := eF.out; have := eQ.out; have := kI.out; omega
     case rel => exact ⟨(wrap64 (bA + 1)), zF, H', ⟨by have := eZ.out; have := eF.out; have := eQ.out; have := kI.out; omega⟩, ⟨zR aT.out⟩, ⟨zR aQ.out⟩, ⟨zR aZ.out⟩, ⟨zK aA.out⟩, ⟨zK aC.out⟩, ⟨zK aD.out⟩, ⟨zG3 aH.out aI.out aJ.out⟩⟩
    exact absurd H (by simp)
   exact absurd H (by simp)
  exact absurd H (by simp)
 have H' := Qa.mk H; clear H
 obtain ⟨sP, sQ, mZ⟩ := Kd.R_slice aZ.out
 subst mZ
 go_wp2
 go_loopg [25] k4 (fun kq v25 w' => ∃ (bS : Int), v25 = .int .i64 bS ∧ Qa (Qc.l1 kq aN bG dD bS = some r) ∧ Qa (kq ≤ k4) ∧ Qa (Kd.R k48 48 w' w.heap.size (fun k_ => some k_ ≠ (cO : Value).ownBlock ∧ k_ ≠ aV ∧ k_ ≠ aW ∧ k_ ≠ aX) (.slice dF aN.length dG) aN) ∧ Qa (Kd.R k48 48 w' w.heap.size (fun k_ => some k_ ≠ ((.slice dF aN.length dG) : Value).ownBlock ∧ k_ ≠ aV ∧ k_ ≠ aW ∧ k_ ≠ aX) cO bG) ∧ Qa (w'.heap[aV]? = some (.cells #[.int .i64 bI, .int .i64 bJ] 48 (0, 0))) ∧ Qa (w'.heap[aW]? = some (.cells #[.int .i64 bK, .int .i64 bL] 48 (0, 0))) ∧ Qa (w'.heap[aX]? = some (.cells #[.int .i64 bM, .int .i64 bN] 48 (0, 0))) ∧ Qa (Below w.heap.size w w'))
 case atStart => exact ⟨(2), zF, H', ⟨Nat.le_refl _⟩, ⟨by (with_reducible repeat (first | apply Kd.R_alloc | apply Kd.R_drewN | apply Kd.R_drew)); exact Kd.R_mono aT.out (fun _ hk => ⟨hk.1, ⟨hk.2.2.1, ⟨hk.2.2.2.1, hk.2.2.2.2⟩⟩⟩)⟩, ⟨by (with_reducible repeat (first | apply Kd.R_alloc | apply Kd.R_drewN | apply Kd.R_drew)); exact Kd.R_mono aQ.out (fun _ hk => ⟨hk.1, ⟨hk.2.2.1, ⟨hk.2.2.2.1, hk.2.2.2.2⟩⟩⟩)⟩, ⟨zK aA.out⟩, ⟨zK aC.out⟩, ⟨zK aD.out⟩, ⟨zG3 aH.out aI.out aJ.out⟩⟩
 case round =>
 clear H'
 try clear qC
 try clear gP
 obtain ⟨bS, rfl, HA, oD, aT, aQ, aA, aC, aD, HB⟩ := hrel
 cases gk with
 | zero => exact absurd HA.out (by simp [Qc.l1])
 | succ k5 =>
 have H := HA.out
 clear HA
 simp only [Qc.l1] at H
 have jH := Qa.mk H
 clear H
 go_upto_region 27 with (fail)
 go_cut [236] (fun v236 wc => ∃ (kq : Nat) (eH : Bool), v236 = .bool eH ∧ Qa (Qc.j5 kq aN bG dD bS eH = some r) ∧ Qa (kq ≤ k5) ∧ Qa (Kd.R k48 48 wc w.heap.size (fun k_ => some k_ ≠ (cO : Value).ownBlock ∧ k_ ≠ aV ∧ k_ ≠ aW ∧ k_ ≠ aX) (.slice dF aN.length dG) aN) ∧ Qa (Kd.R k48 48 wc w.heap.size (fun k_ => some k_ ≠ ((.slice dF aN.length dG) : Value).ownBlock ∧ k_ ≠ aV ∧ k_ ≠ aW ∧ k_ ≠ aX) cO bG) ∧ Qa (wc.heap[aV]? = some (.cells #[.int .i64 bI, .int .i64 bJ] 48 (0, 0))) ∧ Qa (wc.heap[aW]? = some (.cells #[.int .i64 bK, .int .i64 bL] 48 (0, 0))) ∧ Qa (wc.heap[aX]? = some (.cells #[.int .i64 bM, .int .i64 bN] 48 (0, 0))) ∧ Qa (Below w.heap.size w wc))
 case first => as_aux_lemma =>
  have H := jH.out
  clear jH
  by_cases jW : dD = true
  ·subst jW
   replace H := (if_pos rfl).symm.trans H
   have H' := Qa.mk H; clear H
   go_wp2
   go_meet
   case rel => exact ⟨_, (decide (bS < (aN.length : Int))), zF, H', ⟨by have := eZ.out; have := eF.out; have := eQ.out; have := kI.out; have := oD.out; first | omega | exact Nat.le_refl _⟩, ⟨zR aT.out⟩, ⟨zR aQ.out⟩, ⟨zK aA.out⟩, ⟨zK aC.out⟩, ⟨zK aD.out⟩, ⟨zG3 aH.out aI.out aJ.out⟩⟩
  replace jW := Bool.eq_false_iff.mpr jW
  subst jW
  replace H := (if_neg zFf).symm.trans H
  have H' := Qa.mk H; clear H
  go_wp2
  go_meet
  case rel => exact ⟨_, (false), zF, H', ⟨by have := eZ.out; have := eF.out; have := eQ.out; have := kI.out; have := oD.out; first | omega | exact Nat.le_refl _⟩, ⟨zR aT.out⟩, ⟨zR aQ.out⟩, ⟨zK aA.out⟩, ⟨zK aC.out⟩, ⟨zK aD.out⟩, ⟨zG3 aH.out aI.out aJ.out⟩⟩
 case rest => as_aux_lemma =>
 clear jH
 try clear qC
 try clear gP
 obtain ⟨kq, eH, rfl, HA, kJ, aT, aQ, aA, aC, aD, HB⟩ := hcut
 cases kq with
 | zero => exact absurd HA.out (by simp [Qc.j5])
 | succ nA =>
 have H := HA.out
 clear HA
 simp only [Qc.j5] at H
 by_cases jX : eH = true
 ·subst jX
  replace H := (if_pos rfl).symm.trans H
  replace H := Yc H
  rcases H with ⟨nC, qD, H⟩ | ⟨nC, H⟩
  ·have qE : decide (0 < aN.length) = true := decide_eq_true (by omega)
   clear nC
   replace H := Yc H
   rcases H with ⟨nD, qF, H⟩ | ⟨nD, H⟩
   ·have qG : decide (1 < aN.length) = true := decide_eq_true (by omega)
    clear nD
    replace H := J9 H
    rcases H with ⟨qH, H⟩ | ⟨uS, H⟩
    ·replace H := J9 H
     rcases H with ⟨qI, H⟩ | ⟨uT, H⟩
     ·obtain ⟨nE, qJ, H⟩ := zO H
      replace H := Yc H
      rcases H with ⟨c194, qK, H⟩ | ⟨c194, H⟩
      ·have qL : decide (0 < bG.length) = true := decide_eq_true (by omega)
       clear c194
       replace H := Yc H
       rcases H with ⟨nG, qM, H⟩ | ⟨nG, H⟩
       ·have qN : decide (1 < bG.length) = true := decide_eq_true (by omega)
        clear nG
        replace H := J9 H
        rcases H with ⟨qO, H⟩ | ⟨c196, H⟩
        ·obtain ⟨nH, qP, H⟩ := zO H
         replace H := Zb H
         rcases H with ⟨kV, kW, H⟩ | ⟨c198, kV, kW, H⟩
         ·have H' := Qa.mk H; clear H
          try go_wp2
          replace aT := Qa.mk (Kd.R_drew aT.out)
          replace aQ := Qa.mk (Kd.R_drew aQ.out)
          replace aA := Qa.mk (Q8 aA.out)
          replace aC := Qa.mk (Q8 aC.out)
          replace aD := Qa.mk (Q8 aD.out)
          replace HB := Qa.mk (Qp HB.out)
          have jI : 0 ≤ (0 : Int) := (by omega)
          have jJ : 0 < (aN.length : Int) := zA
          obtain ⟨dA, nI, dR, dS⟩ := Jj (Kd.R_reads' aT.out).2.2 0 jI jJ
          cases nI
          have qQ : (0 < aN.length) = True := eq_true (by omega)
          (try rw [show ((0 : Int)).toNat = 0 from rfl] at dR)
          (try rw [show 0 * 2 = 0 from rfl] at dR)
          (try rw [Addr.add_zero'] at dR)
          (try rw [show ((0 : Int)).toNat = 0 from rfl] at dS)
          (try rw [show 0 * 2 = 0 from rfl] at dS)
          (try rw [Addr.add_zero'] at dS)
          replace jI := eq_true jI
          replace jJ := eq_true jJ
          have jK : 0 ≤ (1 : Int) := (by omega)
          have jL : 1 < (aN.length : Int) := zA
          obtain ⟨kX, nJ, dU, dV⟩ := Jj (Kd.R_reads' aT.out).2.2 1 jK jL
          obtain rfl : dA = kX := (by injection nJ)
          (try simp only [show (1 : Int).toNat = 1 from rfl, Nat.reduceMul, Nat.reduceEqDiff, Go.Addr.add, ↓reduceIte] at dU)
          (try simp only [show (1 : Int).toNat = 1 from rfl, Nat.reduceMul, Nat.reduceEqDiff, Go.Addr.add, ↓reduceIte] at dV)
          have qR : (1 < aN.length) = True := eq_true (by omega)
          (try rw [show ((1 : Int)).toNat = 1 from rfl] at dU)
          (try rw [show 1 * 2 = 2 from rfl] at dU)
          (try rw [show ((1 : Int)).toNat = 1 from rfl] at dV)
          (try rw [show 1 * 2 = 2 from rfl] at dV)
          replace jK := eq_true jK
          replace jL := eq_true jL
          have jM : 0 ≤ (bS : Int) := zA
          have jN : bS < (aN.length : Int) := zA
          obtain ⟨kY, nK, gK, gL⟩ := Jj (Kd.R_reads' aT.out).2.2 bS jM jN
          obtain rfl : dA = kY := (by injection nK)
          replace jM := eq_true jM
          replace jN := eq_true jN
          obtain ⟨sU, sV, kK⟩ := Kd.R_slice aQ.out
          (first | subst kK | (injection kK with eO fU eP; have fV := eO.symm; have fZ := eP.symm; clear eO fU eP; subst fV; subst fZ))
          have jO : 0 ≤ (0 : Int) := (by omega)
          have jP : 0 < (bG.length : Int) := zA
          obtain ⟨dB, nL, dW, dX⟩ := Jj (Kd.R_reads' aQ.out).2.2 0 jO jP
          cases nL
          have qU : (0 < bG.length) = True := eq_true (by omega)
          (try rw [show ((0 : Int)).toNat = 0 from rfl] at dW)
          (try rw [show 0 * 2 = 0 from rfl] at dW)
          (try rw [Addr.add_zero'] at dW)
          (try rw [show ((0 : Int)).toNat = 0 from rfl] at dX)
          (try rw [show 0 * 2 = 0 from rfl] at dX)
          (try rw [Addr.add_zero'] at dX)
          replace jO := eq_true jO
          replace jP := eq_true jP
          have jQ : 0 ≤ (1 : Int) := (by omega)
          have jR : 1 < (bG.length : Int) := zA
          obtain ⟨kZ, nM, dY, dZ⟩ := Jj (Kd.R_reads' aQ.out).2.2 1 jQ jR
          obtain rfl : dB = kZ := (by injection nM)
          (try simp only [show (1 : Int).toNat = 1 from rfl, Nat.reduceMul, Nat.reduceEqDiff, Go.Addr.add, ↓reduceIte] at dY)
          (try simp only [show (1 : Int).toNat = 1 from rfl, Nat.reduceMul, Nat.reduceEqDiff, Go.Addr.add, ↓reduceIte] at dZ)
          have qV : (1 < bG.length) = True := eq_true (by omega)
          (try rw [show ((1 : Int)).toNat = 1 from rfl] at dY)
          (try rw [show 1 * 2 = 2 from rfl] at dY)
          (try rw [show ((1 : Int)).toNat = 1 from rfl] at dZ)
          (try rw [show 1 * 2 = 2 from rfl] at dZ)
          replace jQ := eq_true jQ
          replace jR := eq_true jR
          have jS : 0 ≤ (bS : Int) := zA
          have jT : bS < (bG.length : Int) := zA
          obtain ⟨lC, nN, gM, gN⟩ := Jj (Kd.R_reads' aQ.out).2.2 bS jS jT
          obtain rfl : dB = lC := (by injection nN)
          replace jS := eq_true jS
          replace jT := eq_true jT
          refine Zy (n := 23) (S := fun w' => w'.cell? dA = some (.int .i64 ((Qb aN 0).f0)) ∧ w'.cell? ⟨dA.block, dA.off + 1, none⟩ = some (.int .i64 ((Qb aN 0).f1)) ∧ w'.cell? ⟨dA.block, dA.off + 2, none⟩ = some (.int .i64 ((Qb aN 1).f0)) ∧ w'.cell? ⟨dA.block, dA.off + 2 + 1, none⟩ = some (.int .i64 ((Qb aN 1).f1)) ∧ w'.cell? (dA.add ((bS).toNat * 2)) = some (.int .i64 ((Qb aN bS).f0)) ∧ w'.cell? ⟨(dA.add ((bS).toNat * 2)).block, (dA.add ((bS).toNat * 2)).off + 1, none⟩ = some (.int .i64 ((Qb aN bS).f1)) ∧ w'.cell? dB = some (.int .i64 ((Qb bG 0).f0)) ∧ w'.cell? ⟨dB.block, dB.off + 1, none⟩ = some (.int .i64 ((Qb bG 0).f1)) ∧ w'.cell? ⟨dB.block, dB.off + 2, none⟩ = some (.int .i64 ((Qb bG 1).f0)) ∧ w'.cell? ⟨dB.block, dB.off + 2 + 1, none⟩ = some (.int .i64 ((Qb bG 1).f1)) ∧ w'.cell? (dB.add ((bS).toNat * 2)) = some (.int .i64 ((Qb bG bS).f0)) ∧ w'.cell? ⟨(dB.add ((bS).toNat * 2)).block, (dB.add ((bS).toNat * 2)).off + 1, none⟩ = some (.int .i64 ((Qb bG bS).f1))) (ds := []) #[false, false, false, false, false, false, false, false, false, false, false, false, false, false, false, false, false, false, false, false, false, false, false] (by kernel_rfl) rfl rfl ⟨dR, dS, dU, dV, gK, gL, dW, dX, dY, dZ, gM, gN⟩ (fun hHeld => ?_); refine Jr Qc.tab29 Qc.bits29 (fun HT_ HW_ => ?_)
          generalize wc.drew = uU at aT aQ aA aC aD HB dR dS dU dV gK gL dW dX dY dZ gM gN hHeld ⊢
          refine zP 0 (some 239) rfl rfl ?_
          refine zP 1 (some 240) rfl rfl ?_
          refine zP 3 (some 242) rfl rfl ?_
          refine zP 4 (some 243) rfl rfl ?_
          refine zP 6 (some 245) rfl rfl ?_
          refine zP 7 (some 246) rfl rfl ?_
          refine zP 8 (some 247) rfl rfl ?_
          refine zP 11 (some 250) rfl rfl ?_
          refine zP 12 (some 251) rfl rfl ?_
          refine zP 14 (some 253) rfl rfl ?_
          refine zP 15 (some 254) rfl rfl ?_
          refine zP 17 (some 256) rfl rfl ?_
          refine zP 18 (some 257) rfl rfl ?_
          refine zP 19 (some 258) rfl rfl ?_
          refine jDq 2 (some 241) rfl rfl hHeld ?_
          refine jDq 5 (some 244) rfl rfl hHeld ?_
          refine jDq 9 (some 248) rfl rfl hHeld ?_
          refine jDq 13 (some 252) rfl rfl hHeld ?_
          refine jDq 16 (some 255) rfl rfl hHeld ?_
          refine jDq 20 (some 259) rfl rfl hHeld ?_
          refine zU 10 (some 249) rfl rfl (fun K hK => ?_)
          refine Xq Tryz.func40 (by kernel_rfl) rfl #[.agg #[.int .i64 ((Qb aN 0).f0), .int .i64 ((Qb aN 0).f1)], .agg #[.int .i64 ((Qb aN 1).f0), .int .i64 ((Qb aN 1).f1)], .agg #[.int .i64 ((Qb aN bS).f0), .int .i64 ((Qb aN bS).f1)]] (by rfl) rfl rfl zM ?_
          with_reducible refine (Zm.calls ((Qb aN 0).f0) ((Qb aN 0).f1) ((Qb aN 1).f0) ((Qb aN 1).f1) ((Qb aN bS).f0) ((Qb aN bS).f1) nE _ qJ.out).mono ?_
          rintro e uV ⟨rfl, hb⟩
          have lD := (hb.cell (World.block_lt_of_cell? _ _ (hHeld.1))).trans (hHeld.1)
          have lF := (hb.cell (World.block_lt_of_cell? _ _ (hHeld.2.1))).trans (hHeld.2.1)
          have lG := (hb.cell (World.block_lt_of_cell? _ _ (hHeld.2.2.1))).trans (hHeld.2.2.1)
          have lH := (hb.cell (World.block_lt_of_cell? _ _ (hHeld.2.2.2.1))).trans (hHeld.2.2.2.1)
          have lI := (hb.cell (World.block_lt_of_cell? _ _ (hHeld.2.2.2.2.1))).trans (hHeld.2.2.2.2.1)
          have lJ := (hb.cell (World.block_lt_of_cell? _ _ (hHeld.2.2.2.2.2.1))).trans (hHeld.2.2.2.2.2.1)
          have lK := (hb.cell (World.block_lt_of_cell? _ _ (hHeld.2.2.2.2.2.2.1))).trans (hHeld.2.2.2.2.2.2.1)
          have lL := (hb.cell (World.block_lt_of_cell? _ _ (hHeld.2.2.2.2.2.2.2.1))).trans (hHeld.2.2.2.2.2.2.2.1)
          have lM := (hb.cell (World.block_lt_of_cell? _ _ (hHeld.2.2.2.2.2.2.2.2.1))).trans (hHeld.2.2.2.2.2.2.2.2.1)
          have lN := (hb.cell (World.block_lt_of_cell? _ _ (hHeld.2.2.2.2.2.2.2.2.2.1))).trans (hHeld.2.2.2.2.2.2.2.2.2.1)
          have jU := (hb.cell (World.block_lt_of_cell? _ _ (hHeld.2.2.2.2.2.2.2.2.2.2.1))).trans (hHeld.2.2.2.2.2.2.2.2.2.2.1)
          have jV := (hb.cell (World.block_lt_of_cell? _ _ (hHeld.2.2.2.2.2.2.2.2.2.2.2))).trans (hHeld.2.2.2.2.2.2.2.2.2.2.2)
          refine ⟨_, rfl, ?_⟩
          replace aT := zW aT.out hb
          replace aQ := zW aQ.out hb
          replace aA := zV aA.out hb
          replace aC := zV aC.out hb
          replace aD := zV aD.out hb
          replace HB := Qa.mk (Qk (zG3 aH.out aI.out aJ.out) hb)
          (try clear hb)
          refine hK.out _ _ ⟨lD, lF, lG, lH, lI, lJ, lK, lL, lM, lN, jU, jV⟩ (fun hHeld => ?_)
          clear hK K
          refine zN ?_
          refine zU 21 (some 260) rfl rfl (fun K hK => ?_)
          refine Xq Tryz.func40 (by kernel_rfl) rfl #[.agg #[.int .i64 ((Qb bG 0).f0), .int .i64 ((Qb bG 0).f1)], .agg #[.int .i64 ((Qb bG 1).f0), .int .i64 ((Qb bG 1).f1)], .agg #[.int .i64 ((Qb bG bS).f0), .int .i64 ((Qb bG bS).f1)]] (by rfl) rfl rfl zM ?_
          with_reducible refine (Zm.calls ((Qb bG 0).f0) ((Qb bG 0).f1) ((Qb bG 1).f0) ((Qb bG 1).f1) ((Qb bG bS).f0) ((Qb bG bS).f1) nH _ qP.out).mono ?_
          rintro e uW ⟨rfl, hb⟩
          have lD := (hb.cell (World.block_lt_of_cell? _ _ (hHeld.1))).trans (hHeld.1)
          have lF := (hb.cell (World.block_lt_of_cell? _ _ (hHeld.2.1))).trans (hHeld.2.1)
          have lG := (hb.cell (World.block_lt_of_cell? _ _ (hHeld.2.2.1))).trans (hHeld.2.2.1)
          have lH := (hb.cell (World.block_lt_of_cell? _ _ (hHeld.2.2.2.1))).trans (hHeld.2.2.2.1)
          have lI := (hb.cell (World.block_lt_of_cell? _ _ (hHeld.2.2.2.2.1))).trans (hHeld.2.2.2.2.1)
          have lJ := (hb.cell (World.block_lt_of_cell? _ _ (hHeld.2.2.2.2.2.1))).trans (hHeld.2.2.2.2.2.1)
          have lK := (hb.cell (World.block_lt_of_cell? _ _ (hHeld.2.2.2.2.2.2.1))).trans (hHeld.2.2.2.2.2.2.1)
          have lL := (hb.cell (World.block_lt_of_cell? _ _ (hHeld.2.2.2.2.2.2.2.1))).trans (hHeld.2.2.2.2.2.2.2.1)
          have lM := (hb.cell (World.block_lt_of_cell? _ _ (hHeld.2.2.2.2.2.2.2.2.1))).trans (hHeld.2.2.2.2.2.2.2.2.1)
          have lN := (hb.cell (World.block_lt_of_cell? _ _ (hHeld.2.2.2.2.2.2.2.2.2.1))).trans (hHeld.2.2.2.2.2.2.2.2.2.1)
          have jU := (hb.cell (World.block_lt_of_cell? _ _ (hHeld.2.2.2.2.2.2.2.2.2.2.1))).trans (hHeld.2.2.2.2.2.2.2.2.2.2.1)
          have jV := (hb.cell (World.block_lt_of_cell? _ _ (hHeld.2.2.2.2.2.2.2.2.2.2.2))).trans (hHeld.2.2.2.2.2.2.2.2.2.2.2)
          refine ⟨_, rfl, ?_⟩
          replace aT := zW aT.out hb
          replace aQ := zW aQ.out hb
          replace aA := zV aA.out hb
          replace aC := zV aC.out hb
          replace aD := zV aD.out hb
          replace HB := Qa.mk (Qk (zG3 aH.out aI.out aJ.out) hb)
          (try clear hb)
          refine hK.out _ _ ⟨lD, lF, lG, lH, lI, lJ, lK, lL, lM, lN, jU, jV⟩ (fun hHeld => ?_)
          clear hK K
          refine zN ?_
          refine zP 22 (some 261) rfl rfl ?_
          refine Ya (Zj HT_.out (by kernel_rfl)) ?_
          try go_wp2
          go_roundg nA
          case measure => have := eZ.out; have := eF.out; have := eQ.out; have := kI.out; have := oD.out; have := kJ.out; omega
          case rel => exact ⟨(wrap64 (bS + 1)), zF, H', ⟨by have := eZ.out; have := eF.out; have := eQ.out; have := kI.out; have := oD.out; have := kJ.out; omega⟩, ⟨zR aT.out⟩, ⟨zR aQ.out⟩, ⟨zK aA.out⟩, ⟨zK aC.out⟩, ⟨zK aD.out⟩, ⟨zG3 aH.out aI.out aJ.out⟩⟩
         obtain rfl := Option.some.inj H
         cases hr_
        exact absurd H (by simp)
       exact absurd H (by simp)
      exact absurd H (by simp)
     exact absurd H (by simp)
    exact absurd H (by simp)
   exact absurd H (by simp)
  exact absurd H (by simp)
 replace jX := Bool.eq_false_iff.mpr jX
 subst jX
 replace H := (if_neg zFf).symm.trans H
 obtain rfl := Option.some.inj H
 go_wp2
 go_ret
 exact ⟨zE, zG3 aH.out aI.out aJ.out⟩
end Go.Proofs.YtckkfjdkaimmhaaGreatDoor.PX
namespace Go.Proofs.YtckkfjdkaimmhaaGreatDoor.M
open Go.RowKit Go.Proofs.YtckkfjdkaimmhaaGreatDoorW.PrintWords
section
variable {α β : Type} {r : α} {r' : β}
theorem Qr {c : Prop} [Decidable c] {a b : Nat → Option α} (h : c) (k : Ev a r) : Ev (fun n => if c then a n else b n) r := Ev.congr (fun _ => if_pos h) k
theorem Jb {c : Prop} [Decidable c] {a b : Nat → Option α} (h : ¬ c) (k : Ev b r) : Ev (fun n => if c then a n else b n) r := Ev.congr (fun _ => if_neg h) k
theorem Jl {x : Option α} {a : α} {f : Nat → α → Option β} (h : x = some a) (k : Ev (fun n => f n a) r') : Ev (fun n => x.bind (f n)) r' := Ev.congr (fun n => by rw [h]; rfl) k
theorem Zr {g : Nat → Option α} {a b : α} (h : Ev g a) (e : a = b) : Ev g b := e ▸ h
theorem Jh {g : Nat → Option α} (k : Ev (fun n => g (n + 1)) r) : Ev g r := Ev.step (fun _ => rfl) k
end
theorem Jg {x : Int} (h0 : -9223372036854775808 ≤ x) (h1 : x ≤ 9223372036854775807) : wrap64 x = x := by unfold wrap64; omega
theorem Xu (t : ByteArray) : t.size = t.data.toList.length := rfl
theorem U4 {t : ByteArray} {i : Nat} (h : i < t.data.toList.length) : bt t (i : Int) = ((t.data.toList[i]).toNat : Int) := by
 have h' : i < t.size := h
 unfold bt
 simp only [Int.toNat_natCast, h', dite_true]
 rfl
section
variable {σ τ ρ α β : Type}
def Goes (z : Except ρ σ) (K : σ → Nat → Option ρ) (g : Nat → Option ρ) : Prop :=
 match z with
 | .error v => Ev g v
 | .ok s => ∀ r, Ev (K s) r → Ev g r
variable {z : Except ρ σ} {K : σ → Nat → Option ρ}
theorem Goes.ok (s : σ) : Goes (.ok s) K (K s) := fun _ h => h
theorem Goes.error {g : Nat → Option ρ} {v : ρ} (h : Ev g v) : Goes (.error v) K g := h
theorem Goes.ret (v : ρ) : Goes (.error v) K (fun _ => some v) := Ev.now v
theorem Goes.map {g g' : Nat → Option ρ} (hg : ∀ r, Ev g' r → Ev g r) (h : Goes z K g') : Goes z K g := by
 cases z with
 | error v => exact hg _ h
 | ok s => exact fun r hr => hg _ (h r hr)
theorem Goes.step {g : Nat → Option ρ} (h : Goes z K (fun k => g (k + 1))) : Goes z K g := Goes.map (fun _ => Jh) h
theorem Goes.pos {c : Prop} [Decidable c] {a b : Nat → Option ρ} (hc : c) (h : Goes z K a) : Goes z K (fun k => if c then a k else b k) := Goes.map (fun _ => Qr hc) h
theorem Goes.neg {c : Prop} [Decidable c] {a b : Nat → Option ρ} (hc : ¬ c) (h : Goes z K b) : Goes z K (fun k => if c then a k else b k) := Goes.map (fun _ => Jb hc) h
theorem Goes.call {x : Option α} {a : α} {f : Nat → α → Option ρ} (hx : x = some a) (h : Goes z K (fun k => f k a)) : Goes z K (fun k => x.bind (f k)) := Goes.map (fun _ => Jl hx) h
theorem Goes.ev {x : Nat → Option α} {a : α} {f : Nat → α → Option ρ} (hx : Ev x a) (h : Goes z K (fun k => f k a)) : Goes z K (fun k => (x k).bind (f k)) := Goes.map (fun _ => Ev.bind hx) h
theorem Goes.bind {y : Except ρ τ} {f : τ → Except ρ σ} {K' : τ → Nat → Option ρ} {g : Nat → Option ρ} (h : Goes y K' g) (h' : ∀ s, Goes (f s) K (K' s)) : Goes (y >>= f) K g := by
 cases y with
 | error v => exact h
 | ok s => exact Goes.map (h ·) (h' s)
theorem Goes.cast {z' : Except ρ σ} {g : Nat → Option ρ} (h : Goes z K g) (e : z = z') : Goes z' K g := e ▸ h
theorem Goes.out {g : Nat → Option ρ} {r : ρ} (h : Goes z K g) (he : ∀ v, z = .error v → v = r) (ho : ∀ s, z = .ok s → Ev (K s) r) : Ev g r := by
 cases z with
 | error v => exact he v rfl ▸ h
 | ok s => exact h r (ho s rfl)
theorem U2 {lo n : Nat} {L : Int → σ → Nat → Option ρ} (dec : σ → Nat → Except ρ σ) (hf : ∀ s, Goes (.ok s) K (L (n : Int) s))
  (hb : ∀ i, lo ≤ i → i < n → ∀ s, Goes (dec s i) (fun s => L ((i + 1 : Nat) : Int) s) (L (i : Int) s)) (hlo : lo ≤ n) (s : σ) : Goes ((List.range' lo (n - lo)).foldlM dec s) K (L (lo : Int) s) := by
 have key : ∀ d i, lo ≤ i → i + d = n → ∀ s, Goes ((List.range' i d).foldlM dec s) K (L (i : Int) s) := by
  intro d
  induction d with
  | zero =>
   intro i _ hi s
   obtain rfl : i = n := by omega
   exact hf s
  | succ d ih =>
   intro i hl hi s
   rw [List.range'_succ, List.foldlM_cons]
   exact Goes.bind (hb i hl (by omega) s) (fun s => ih (i + 1) (by omega) (by omega) s)
 exact key (n - lo) lo (Nat.le_refl _) (by omega) s
theorem Vu {lo n : Nat} {L : Int → σ → Nat → Option ρ} (I : Nat → σ → Prop) (dec : σ → Nat → Except ρ σ) (hf : ∀ s, I n s → Goes (.ok s) K (L (n : Int) s))
  (hb : ∀ i, lo ≤ i → i < n → ∀ s, I i s → Goes (dec s i) (fun s => L ((i + 1 : Nat) : Int) s) (L (i : Int) s)) (hi : ∀ i, lo ≤ i → i < n → ∀ s, I i s → ∀ s', dec s i = .ok s' → I (i + 1) s') (hlo : lo ≤ n) (s : σ) (hs : I lo s) :
  Goes ((List.range' lo (n - lo)).foldlM dec s) K (L (lo : Int) s) := by
 have key : ∀ d i, lo ≤ i → i + d = n → ∀ s, I i s → Goes ((List.range' i d).foldlM dec s) K (L (i : Int) s) := by
  intro d
  induction d with
  | zero =>
   intro i _ hid s hs
   obtain rfl : i = n := by omega
   exact hf s hs
  | succ d ih =>
   intro i hl hid s hs
   rw [List.range'_succ, List.foldlM_cons]
   have h := hb i hl (by omega) s hs
   have h' := hi i hl (by omega) s hs
   cases hd : dec s i with
   | error v => rw [hd] at h; exact h
   | ok s' =>
    rw [hd] at h
    exact Goes.map (h ·) (ih (i + 1) (by omega) (by omega) s' (h' s' hd))
 exact key (n - lo) lo (Nat.le_refl _) (by omega) s hs
theorem Ki (g : σ → α → σ) (l : List α) : ∀ s, (l.foldlM (fun s a => (.ok (g s a) : Except ρ σ)) s) = .ok (l.foldl g s) := by
 induction l with
 | nil => intro s; rfl
 | cons x l ih => intro s; exact ih (g s x)
theorem jCm (c : α → Bool) (v : α → ρ) (l : List α) : l.foldlM (fun (_ : Unit) a => if c a then (.error (v a) : Except ρ Unit) else .ok ()) () = match l.find? c with | some a => .error (v a) | none => .ok () := by
 induction l with
 | nil => rfl
 | cons x l ih =>
  rw [List.foldlM_cons, List.find?_cons]
  cases hx : c x with
  | true => rfl
  | false => exact ih
theorem Yu (c : α → Bool) (v : ρ) (l : List α) : l.foldlM (fun (_ : Unit) a => if c a then (.error v : Except ρ Unit) else .ok ()) () = if l.any c then .error v else .ok () := by
 rw [jCm c (fun _ => v) l]
 cases h : l.find? c with
 | none =>
  have : l.any c = false := by simpa using h
  rw [this]; rfl
 | some a =>
  have : l.any c = true := List.any_eq_true.2 ⟨a, List.mem_of_find?_eq_some h, List.find?_some h⟩
  rw [this]; rfl
end
theorem jA3 {σ ρ α : Type} (d : α) (f : σ → α → Except ρ σ) (l : List α) (s : σ) : (List.range' 0 (l.length - 0)).foldlM (fun s i => f s (l.getD i d)) s = l.foldlM f s := by
 have key : ∀ (l' pre : List α) (s : σ), pre ++ l' = l → (List.range' pre.length l'.length).foldlM (fun s i => f s (l.getD i d)) s = l'.foldlM f s := by
  intro l'
  induction l' with
  | nil => intro pre s _; rfl
  | cons x l' ih =>
   intro pre s h
   have hx : l.getD pre.length d = x := by
    rw [← h, List.getD_eq_getElem?_getD, List.getElem?_append_right (Nat.le_refl _), Nat.sub_self]
    rfl
   rw [List.length_cons, List.range'_succ, List.foldlM_cons, List.foldlM_cons, hx]
   congr 1
   funext s
   have := ih (pre ++ [x]) s (by rw [← h, List.append_assoc]; rfl)
   rw [List.length_append] at this
   exact this
 rw [Nat.sub_zero]
 exact key l [] s rfl
def jBv (n a : Nat) : List Nat := List.range' (a + 1) (n - (a + 1))
def Ym (n : Nat) : List (Nat × Nat × Nat) := (List.range' 0 n).flatMap fun a => (jBv n a).flatMap fun b => (jBv n b).map fun c => (a, b, c)
theorem W9 {n a b : Nat} (h : b ∈ jBv n a) : a < b ∧ b < n := by
 simp only [jBv, List.mem_range'_1] at h
 omega
theorem Vq {n a b c : Nat} (h : (a, b, c) ∈ Ym n) : a < b ∧ b < c ∧ c < n := by
 simp only [Ym, List.mem_flatMap, List.mem_map, Prod.mk.injEq] at h
 obtain ⟨x, _, y, hy, z, hz, rfl, rfl, rfl⟩ := h
 have := W9 hy
 have := W9 hz
 omega
theorem jBk {n a b c : Nat} (h1 : a < b) (h2 : b < c) (h3 : c < n) : (a, b, c) ∈ Ym n := by
 simp only [Ym, List.mem_flatMap, List.mem_map, Prod.mk.injEq, jBv, List.mem_range'_1]
 exact ⟨a, by omega, b, by omega, c, by omega, rfl, rfl, rfl⟩
section
variable {σ ρ : Type} {n : Nat} {K : σ → Nat → Option ρ}
end
end Go.Proofs.YtckkfjdkaimmhaaGreatDoor.M
namespace Go.Proofs.YtckkfjdkaimmhaaGreatDoor.M
open Go.RowKit Go.Proofs.YtckkfjdkaimmhaaGreatDoorW.PrintWords Go.Proofs.YtckkfjdkaimmhaaGreatDoor.PX
abbrev IP := S48
theorem jFh {l : List IP} {i : Nat} (h : i < l.length) : Qb l (i : Int) = l[i] := by
 unfold Qb
 rw [Int.toNat_natCast, List.getD_eq_getElem?_getD, List.getElem?_eq_getElem h]
 rfl
def Ve (n : Nat) : List S77 := (List.range n).flatMap fun (i : Nat) => (List.range n).flatMap fun (j : Nat) => (List.range n).flatMap fun (k : Nat) => if i < j ∧ j < k then [(⟨(i : Int), (j : Int), (k : Int)⟩ : S77)] else []
theorem Wo : (Qi.f 200 3 = some (Ve 3) ∧ Qi.f 200 4 = some (Ve 4) ∧ Qi.f 200 5 = some (Ve 5)) ∧ Qi.f 200 6 = some (Ve 6) ∧ Qi.f 200 7 = some (Ve 7) := by
 refine ⟨⟨?_, ?_, ?_⟩, ?_, ?_⟩ <;> kernel_rfl
theorem five {n : Nat} (h0 : 3 ≤ n) (h1 : n ≤ 7) {p : Nat → Prop} (a : p 3) (b : p 4) (c : p 5) (d : p 6) (e : p 7) : p n := by
 have : n = 3 ∨ n = 4 ∨ n = 5 ∨ n = 6 ∨ n = 7 := by omega
 rcases this with rfl | rfl | rfl | rfl | rfl <;> assumption
theorem jC8 {n : Nat} (h0 : 3 ≤ n) (h1 : n ≤ 7) : Ev (fun k => Qi.f k (n : Int)) (Ve n) := by
 obtain ⟨⟨h3, h4, h5⟩, h6, h7⟩ := Wo
 refine five (p := fun n => Ev (fun k => Qi.f k (n : Int)) (Ve n)) h0 h1 ?_ ?_ ?_ ?_ ?_
 ·exact Ev.of (Qi.mono 3) h3
 ·exact Ev.of (Qi.mono 4) h4
 ·exact Ev.of (Qi.mono 5) h5
 ·exact Ev.of (Qi.mono 6) h6
 ·exact Ev.of (Qi.mono 7) h7
theorem jCg {n : Nat} (h0 : 3 ≤ n) (h1 : n ≤ 7) : Ve n = (Ym n).map fun q => ⟨(q.1 : Int), (q.2.1 : Int), (q.2.2 : Int)⟩ := by
 refine five (p := fun n => Ve n = (Ym n).map fun q => ⟨(q.1 : Int), (q.2.1 : Int), (q.2.2 : Int)⟩) h0 h1 ?_ ?_ ?_ ?_ ?_ <;> kernel_rfl
theorem jB9 : ∀ n, n ≤ 7 → (Ym n).length ≤ 35 := by decide +kernel
theorem jGa {n : Nat} (h0 : 3 ≤ n) (h1 : n ≤ 7) : (Ve n).length ≤ 35 := by
 rw [jCg h0 h1, List.length_map]
 exact jB9 n h1
theorem jHb {ts : List S77} {i : Nat} (h : i < ts.length) : Qt ts (i : Int) = ts[i] := by
 unfold Qt
 rw [Int.toNat_natCast, List.getD_eq_getElem?_getD, List.getElem?_eq_getElem h]
 rfl
theorem jGb {n p : Nat} (h0 : 3 ≤ n) (h1 : n ≤ 7) (hp : p < (Ve n).length) : ∃ a b c : Nat, (Ve n)[p] = ⟨(a : Int), (b : Int), (c : Int)⟩ ∧ a < b ∧ b < c ∧ c < n := by
 have e := jCg h0 h1
 have hm : (Ve n)[p] ∈ (Ym n).map fun q => (⟨(q.1 : Int), (q.2.1 : Int), (q.2.2 : Int)⟩ : S77) := by rw [← e]; exact List.getElem_mem _
 obtain ⟨⟨a, b, c⟩, hq, he⟩ := List.mem_map.1 hm
 obtain ⟨h2, h3, h4⟩ := Vq hq
 exact ⟨a, b, c, he.symm, h2, h3, h4⟩
end Go.Proofs.YtckkfjdkaimmhaaGreatDoor.M
namespace Go.Proofs.YtckkfjdkaimmhaaGreatDoor.M
open Go.RowKit Go.Proofs.YtckkfjdkaimmhaaGreatDoorW.PrintWords Go.Proofs.YtckkfjdkaimmhaaGreatDoor.PX Go.Proofs.YtckkfjdkaimmhaaGreatDoor.G
def Jw (most : Int) (p : IP) : Bool := (decide (-most ≤ p.f0) && decide (p.f0 ≤ most)) && (decide (-most ≤ p.f1) && decide (p.f1 ≤ most))
def X4 (a b c : IP) : Int := (b.f0 - a.f0) * (c.f1 - a.f1) - (b.f1 - a.f1) * (c.f0 - a.f0)
def jBx (x : Int) : Int := if x < 0 then -1 else if x > 0 then 1 else 0
theorem Vm {most : Int} {p : IP} : Jw most p = true ↔ (-most ≤ p.f0 ∧ p.f0 ≤ most) ∧ (-most ≤ p.f1 ∧ p.f1 ≤ most) := by
 unfold Jw
 simp only [Bool.and_eq_true, decide_eq_true_eq]
theorem jCb (most : Int) (l : List IP) : ∀ (d i : Nat), i + d = l.length → decide (0 ≤ Yo most l d (i : Int)) = (l.drop i).any fun p => jCu p.f0 most || jCu p.f1 most := by
 intro d
 induction d with
 | zero =>
  intro i hi
  rw [List.drop_of_length_le (by omega)]
  rfl
 | succ d ih =>
  intro i hi
  rw [Yo, List.drop_eq_getElem_cons (by omega), List.any_cons, jFh (by omega)]
  cases g : (jCu (l[i]'(by omega)).f0 most || jCu (l[i]'(by omega)).f1 most) with
  | true =>
   rw [if_pos rfl, Bool.true_or]
   exact decide_eq_true (by omega)
  | false =>
   rw [if_neg (by decide), Bool.false_or]
   exact ih (i + 1) (by omega)
theorem U8 (most : Int) (h0 : 0 ≤ most) (h1 : most ≤ 1000000) (l : List IP) : Jy.f most l = some (l.all (Jw most)) := by
 unfold Jy.f
 have h := jCb most l l.length 0 (by omega)
 rw [List.drop_zero] at h
 have h' : decide (0 ≤ Yo most l l.length 0) = l.any fun p => jCu p.f0 most || jCu p.f1 most := h
 rw [h', List.not_any_eq_all_not]
 congr 2
 funext p
 unfold jCu Jw
 rw [Jg (by omega) (by omega), Bool.eq_iff_iff]
 simp
theorem Vp (p : IP) (most : Int) (h0 : 0 ≤ most) (h1 : most ≤ 1000000) : Jn.f p.f0 p.f1 most = some (Jw most p) := by
 have one : ∀ x : Int, Zi.f x (-most) most = some (decide (-most ≤ x) && decide (x ≤ most)) := by
  intro x
  unfold Zi.f
  by_cases h : x ≥ -most
  ·rw [if_pos h, decide_eq_true (show -most ≤ x from h), Bool.true_and]
  ·rw [if_neg h, decide_eq_false (show ¬ -most ≤ x from h), Bool.false_and]
 unfold Jn.f Jw
 rw [Jg (by omega) (by omega), one, one]
 cases decide (-most ≤ p.f0) && decide (p.f0 ≤ most) <;> rfl
theorem jEv {x y : Int} (h1 : -2000 ≤ x) (h2 : x ≤ 2000) (h3 : -2000 ≤ y) (h4 : y ≤ 2000) : -4000000 ≤ x * y ∧ x * y ≤ 4000000 := by
 have h := Int.natAbs_mul x y
 have h' : x.natAbs * y.natAbs ≤ 2000 * 2000 := Nat.mul_le_mul (by omega) (by omega)
 omega
theorem jE6 {a b c : IP} (ha : Jw 1000 a = true) (hb : Jw 1000 b = true) (hc : Jw 1000 c = true) :
  wrap64 ((wrap64 ((wrap64 (b.f0 - a.f0)) * (wrap64 (c.f1 - a.f1)))) - (wrap64 ((wrap64 (b.f1 - a.f1)) * (wrap64 (c.f0 - a.f0))))) = X4 a b c ∧ -8000000 ≤ X4 a b c ∧ X4 a b c ≤ 8000000 := by
 obtain ⟨⟨a1, a2⟩, a3, a4⟩ := Vm.1 ha
 obtain ⟨⟨b1, b2⟩, b3, b4⟩ := Vm.1 hb
 obtain ⟨⟨c1, c2⟩, c3, c4⟩ := Vm.1 hc
 have m1 := jEv (x := b.f0 - a.f0) (y := c.f1 - a.f1) (by omega) (by omega) (by omega) (by omega)
 have m2 := jEv (x := b.f1 - a.f1) (y := c.f0 - a.f0) (by omega) (by omega) (by omega) (by omega)
 rw [Jg (x := b.f0 - a.f0) (by omega) (by omega), Jg (x := c.f1 - a.f1) (by omega) (by omega), Jg (x := b.f1 - a.f1) (by omega) (by omega), Jg (x := c.f0 - a.f0) (by omega) (by omega)]
 rw [Jg (x := (b.f0 - a.f0) * (c.f1 - a.f1)) (by omega) (by omega), Jg (x := (b.f1 - a.f1) * (c.f0 - a.f0)) (by omega) (by omega)]
 unfold X4
 exact ⟨Jg (by omega) (by omega), by omega, by omega⟩
def Vh (a b c : IP) : Bool := Jw 1000 a && (Jw 1000 b && Jw 1000 c)
theorem Yl {a b c : IP} : Vh a b c = true ↔ Jw 1000 a = true ∧ Jw 1000 b = true ∧ Jw 1000 c = true := by
 unfold Vh
 simp only [Bool.and_eq_true]
theorem jBh {a b c : IP} (h : Vh a b c = true) : Ze.f a.f0 a.f1 b.f0 b.f1 c.f0 c.f1 = some (X4 a b c) := by
 obtain ⟨ha, hb, hc⟩ := Yl.1 h
 unfold Ze.f
 rw [(jE6 ha hb hc).1]
theorem Xb {a b c : IP} (h : Vh a b c = true) : Xb.f a.f0 a.f1 b.f0 b.f1 c.f0 c.f1 = some (X4 a b c) := by
 obtain ⟨ha, hb, hc⟩ := Yl.1 h
 unfold Xb.f
 rw [(jE6 ha hb hc).1]
theorem jHj (x : Int) : Xv.f x = some (jBx x) := by
 unfold Xv.f cmp_Compare_int.f cmp_isNaN_int.f jBx
 by_cases h : x < 0
 ·simp [h]
 ·by_cases h' : x > 0 <;> simp [h, h']
def Uh (a b c : IP) : Int := if Vh a b c = true then jBx (X4 a b c) else 0
theorem jIx (a b c : IP) : Jy.f 1000 [a, b, c] = some (Vh a b c) := by
 rw [U8 1000 (by decide) (by decide)]
 simp [Vh]
theorem Y1 (a b c : IP) : Jo.f a.f0 a.f1 b.f0 b.f1 c.f0 c.f1 = some (Uh a b c) := by
 unfold Jo.f Uh
 have e : ([(⟨a.f0, a.f1⟩ : IP), (⟨b.f0, b.f1⟩ : IP), (⟨c.f0, c.f1⟩ : IP)] : List IP) = [a, b, c] := rfl
 rw [e, jIx]
 by_cases h : Vh a b c = true
 ·simp only [Option.bind_some, h, if_true]
  rw [Xb h]
  simp only [Option.bind_some]
  rw [jHj]
  rfl
 ·simp [h]
def jAz (a b c : IP) : Int := if Vh a b c = true then X4 a b c else 0
theorem Un (a b c : IP) : Zw.f a.f0 a.f1 b.f0 b.f1 c.f0 c.f1 = some (jAz a b c) := by
 unfold Zw.f jAz
 rw [Vp a 1000 (by decide) (by decide), Vp b 1000 (by decide) (by decide), Vp c 1000 (by decide) (by decide)]
 by_cases h : Vh a b c = true
 ·obtain ⟨ha, hb, hc⟩ := Yl.1 h
  simp only [Option.bind_some, ha, hb, hc, h, if_true]
  rw [jBh h]
  rfl
 ·rw [if_neg h]
  have h' : ¬ (Jw 1000 a = true ∧ Jw 1000 b = true ∧ Jw 1000 c = true) := fun e => h (Yl.2 e)
  cases ha : Jw 1000 a <;> cases hb : Jw 1000 b <;> cases hc : Jw 1000 c <;> simp [ha, hb, hc] at h' ⊢
theorem V6 (a b c : IP) : Zm.f a.f0 a.f1 b.f0 b.f1 c.f0 c.f1 = some (jAz a b c) := by
 unfold Zm.f jAz
 rw [Y1]
 unfold Uh
 by_cases h : Vh a b c = true
 ·rw [if_pos h, if_pos h]
  simp only [Option.bind_some]
  rw [Xb h]
  by_cases e : jBx (X4 a b c) = 0
  ·rw [if_pos e]
   unfold jBx at e
   congr 1
   split at e
   ·cases e
   ·split at e
    ·cases e
    ·omega
  ·rw [if_neg e]
   rfl
 ·rw [if_neg h, if_neg h]
  simp
theorem jFc (a b c : IP) : Xi.f a.f0 a.f1 b.f0 b.f1 c.f0 c.f1 = some (Uh a b c) := by
 unfold Xi.f Uh
 rw [Un]
 have key : ∀ x : Int, Xy.f x = some (jBx x) := by
  intro x
  unfold Xy.f X3.f jBx
  by_cases h : x < 0
  ·have : ¬ x > 0 := by omega
   simp [h, this]
   decide +kernel
  ·by_cases h' : x > 0 <;> simp [h, h'] <;> decide +kernel
 simp only [Option.bind_some, key]
 unfold jAz
 split
 ·rfl
 ·simp [jBx]
def pt (l : List IP) (i : Nat) : IP := Qb l (i : Int)
theorem Vy {l : List IP} {i : Nat} (h : i < l.length) : pt l i = l[i] := jFh h
def Vz (l : List IP) (q : Nat × Nat × Nat) : Bool := decide (X4 (pt l q.1) (pt l q.2.1) (pt l q.2.2) = 0)
def Zn (l : List IP) : Bool := (decide (3 ≤ l.length) && decide (l.length ≤ 7)) && (l.all (Jw 50) && !((Ym l.length).any (Vz l)))
theorem X9 {p : IP} (h : Jw 50 p = true) : Jw 1000 p = true := by
 rw [Vm] at h ⊢
 omega
theorem Xd {l : List IP} : Zn l = true ↔ (3 ≤ l.length ∧ l.length ≤ 7) ∧ (∀ p ∈ l, Jw 50 p = true) ∧ ∀ a b c, a < b → b < c → c < l.length → X4 (pt l a) (pt l b) (pt l c) ≠ 0 := by
 unfold Zn
 simp only [Bool.and_eq_true, decide_eq_true_eq, List.all_eq_true, Bool.not_eq_true', List.any_eq_false, Vz]
 constructor
 ·rintro ⟨h1, h2, h3⟩
  exact ⟨h1, h2, fun a b c hab hbc hc => h3 (a, b, c) (jBk hab hbc hc)⟩
 ·rintro ⟨h1, h2, h3⟩
  exact ⟨h1, h2, fun ⟨a, b, c⟩ hq => h3 a b c (Vq hq).1 (Vq hq).2.1 (Vq hq).2.2⟩
theorem jE1 {l : List IP} (h : l.all (Jw 50) = true) {a b c : Nat} (ha : a < l.length) (hb : b < l.length) (hc : c < l.length) : Vh (pt l a) (pt l b) (pt l c) = true := by
 have key : ∀ {i : Nat}, i < l.length → Jw 1000 (pt l i) = true := fun {i} hi => by
  rw [Vy hi]
  exact X9 (List.all_eq_true.1 h _ (List.getElem_mem hi))
 exact Yl.2 ⟨key ha, key hb, key hc⟩
theorem jAe (x lo hi : Int) : Zi.f x lo hi = some (decide (lo ≤ x) && decide (x ≤ hi)) := by
 unfold Zi.f
 by_cases h : x ≥ lo
 ·rw [if_pos h, decide_eq_true (show lo ≤ x from h), Bool.true_and]
 ·rw [if_neg h, decide_eq_false (show ¬ lo ≤ x from h), Bool.false_and]
def Ke (l : List IP) (k : Nat) : Bool := !Jw 50 (pt l k) || (List.range' 0 (k - 0)).any fun j => (List.range' 0 (j - 0)).any fun i => Vz l (i, j, k)
theorem jDh (l : List IP) : (!((List.range' 0 (l.length - 0)).any (Ke l))) = (l.all (Jw 50) && !((Ym l.length).any (Vz l))) := by
 rw [Bool.eq_iff_iff]
 simp only [Bool.not_eq_true', List.any_eq_false, Bool.and_eq_true, List.all_eq_true, Ke, Bool.or_eq_true, not_or, Bool.not_eq_false, List.any_eq_true, not_exists, not_and, List.mem_range'_1]
 constructor
 ·intro h
  refine ⟨fun p hp => ?_, fun ⟨a, b, c⟩ hq => ?_⟩
  ·obtain ⟨i, hi, rfl⟩ := List.getElem_of_mem hp
   have := (h i (by omega)).1
   rw [Vy hi] at this
   simpa using this
  ·obtain ⟨h1, h2, h3⟩ := Vq hq
   exact (h c (by omega)).2 b (by omega) a (by omega)
 ·rintro ⟨h1, h2⟩ k hk
  refine ⟨?_, fun j hj i hi => h2 (i, j, k) (jBk (by omega) (by omega) (by omega))⟩
  rw [Vy (show k < l.length by omega)]
  simpa using h1 _ (List.getElem_mem _)
theorem Xx (l : List IP) (hl : l.length ≤ 10000000) : Ev (fun q => Qh.f q l) (Zn l) := by
 unfold Qh.f
 refine Jl (jAe _ _ _) ?_
 by_cases hn : 3 ≤ l.length ∧ l.length ≤ 7
 ·refine Qr (by simp; omega) (Zr ?_ (show (!((List.range' 0 (l.length - 0)).any (Ke l))) = Zn l from ?_))
  ·have key := Vu (σ := Unit) (ρ := Bool) (lo := 0) (n := l.length) (K := fun _ _ => some true) (L := fun x _ q => Qh.l0 q l x) (fun k _ => ∀ i, i < k → Jw 50 (pt l i) = true) (fun _ k => if Ke l k then .error false else .ok ()) (fun u _ => ?_) (fun k _ hk u hI => ?_) (fun k _ hk u hI u' e => ?_) (by omega) () (fun i hi => absurd hi (Nat.not_lt_zero _))
   ·rw [Yu (Ke l)] at key
    cases hq : (List.range' 0 (l.length - 0)).any (Ke l) with
    | true => rw [hq] at key; exact key
    | false => rw [hq] at key; exact key _ (Ev.now _)
   ·refine Goes.step ?_
    simp only [Qh.l0]
    exact Goes.neg (by omega) (Goes.ok (K := fun _ _ => some true) u)
   ·refine Goes.step ?_
    simp only [Qh.l0]
    refine Goes.pos (by omega) (Goes.pos (by omega) (Goes.call (Vp (pt l k) 50 (by decide) (by decide)) ?_))
    cases hf : Jw 50 (pt l k) with
    | false => exact Goes.neg (by decide) (Goes.cast (Goes.ret _) (by simp [Ke, hf]))
    | true =>
     refine Goes.pos rfl ?_
     have one := U2 (σ := Unit) (ρ := Bool) (lo := 0) (n := k) (K := fun _ q => Qh.l0 q l ((k + 1 : Nat) : Int)) (L := fun x _ q => Qh.l1 q l (k : Int) x) (fun _ j => if (List.range' 0 (j - 0)).any (fun i => Vz l (i, j, k)) then .error false else .ok ()) (fun u => ?_) (fun j _ hj u => ?_) (by omega) ()
     ·rw [Yu (fun j => (List.range' 0 (j - 0)).any fun i => Vz l (i, j, k))] at one
      refine one.cast ?_
      simp [Ke, hf]
     ·refine Goes.step ?_
      simp only [Qh.l1]
      rw [Jg (by omega) (by omega)]
      exact Goes.neg (by omega) (Goes.ok (K := fun (_ : Unit) q => Qh.l0 q l ((k + 1 : Nat) : Int)) u)
     ·refine Goes.step ?_
      simp only [Qh.l1]
      refine Goes.pos (by omega) ?_
      have two := U2 (σ := Unit) (ρ := Bool) (lo := 0) (n := j) (K := fun _ q => Qh.l1 q l (k : Int) ((j + 1 : Nat) : Int)) (L := fun x _ q => Qh.l2 q l (k : Int) (j : Int) x) (fun _ i => if Vz l (i, j, k) then .error false else .ok ()) (fun u => ?_) (fun i _ hi u => ?_) (by omega) ()
      ·rw [Yu (fun i => Vz l (i, j, k))] at two
       exact two
      ·refine Goes.step ?_
       simp only [Qh.l2]
       rw [Jg (by omega) (by omega)]
       exact Goes.neg (by omega) (Goes.ok (K := fun (_ : Unit) q => Qh.l1 q l (k : Int) ((j + 1 : Nat) : Int)) u)
      ·refine Goes.step ?_
       simp only [Qh.l2]
       rw [Jg (x := (i : Int) + 1) (by omega) (by omega)]
       refine Goes.pos (by omega) (Goes.pos (by omega) (Goes.pos (by omega) (Goes.pos (by omega) (Goes.pos (by omega) (Goes.pos (by omega) (Goes.pos (by omega) ?_))))))
       have nn : ∀ x, x ≤ k → Jw 1000 (pt l x) = true := fun x hx => by
        by_cases e : x = k
        ·subst e; exact X9 hf
        ·exact X9 (hI x (by omega))
       refine Goes.call (jBh (a := pt l i) (b := pt l j) (c := pt l k) (Yl.2 ⟨nn i (by omega), nn j (by omega), nn k (by omega)⟩)) ?_
       by_cases g : X4 (pt l i) (pt l j) (pt l k) = 0
       ·exact Goes.pos g (Goes.cast (Goes.ret _) (by simp [Vz, g]))
       ·exact Goes.neg g (Goes.cast (Goes.ok (K := fun (_ : Unit) q => Qh.l2 q l (k : Int) (j : Int) ((i + 1 : Nat) : Int)) u) (by simp [Vz, g]))
   ·intro i hi
    by_cases ei : i = k
    ·subst ei
     cases hf : Jw 50 (pt l i) with
     | true => rfl
     | false => simp [Ke, hf] at e
    ·exact hI i (by omega)
  ·unfold Zn
   rw [jDh]
   simp [hn.1, hn.2]
 ·refine Jb (by simp; omega) (Zr (Ev.now _) ?_)
  unfold Zn
  have : (decide (3 ≤ l.length) && decide (l.length ≤ 7)) = false := by simp; omega
  rw [this]
  rfl
theorem Y2 (l : List IP) (hl : l.length ≤ 10000000) : Ev (fun q => Qf.f q l) (Zn l) := by
 unfold Qf.f
 have no : (decide (3 ≤ l.length) && decide (l.length ≤ 7)) = false → Ev (fun q => Qf.j0 q l true) (Zn l) := fun h => by
  refine Jh ?_
  simp only [Qf.j0]
  refine Qr (by trivial) (Zr (Ev.now _) ?_)
  unfold Zn
  rw [h]
  rfl
 by_cases h3 : (l.length : Int) < 3
 ·exact Qr h3 (no (by simp; omega))
 refine Jb h3 ?_
 by_cases h7 : (l.length : Int) > 7
 ·exact Qr h7 (no (by simp; omega))
 refine Jb h7 (Jl (U8 50 (by decide) (by decide) l) (Jh ?_))
 simp only [Qf.j0]
 have e0 : (decide (3 ≤ l.length) && decide (l.length ≤ 7)) = true := by simp; omega
 unfold Zn
 rw [e0, Bool.true_and]
 cases hn : l.all (Jw 50) with
 | false => exact Qr (by trivial) (Ev.now _)
 | true =>
  refine Jb (by decide) (Ev.bind (jC8 (n := l.length) (by omega) (by omega)) ?_)
  rw [Bool.true_and]
  have eT := jCg (n := l.length) (by omega) (by omega)
  have lT := jGa (n := l.length) (by omega) (by omega)
  have el : (Ve l.length).length = (Ym l.length).length := by rw [eT, List.length_map]
  have key := U2 (σ := Unit) (ρ := Bool) (lo := 0) (n := (Ve l.length).length) (K := fun _ _ => some true) (L := fun x _ q => Qf.l0 q l (Ve l.length) ((Ve l.length).length : Int) x)
   (fun _ i => if Vz l ((Ym l.length).getD i (0, 0, 0)) then .error false else .ok ()) (fun u => ?_) (fun i _ hi u => ?_) (by omega) ()
  ·rw [el, jA3 (0, 0, 0) (fun (_ : Unit) q => if Vz l q then (.error false : Except Bool Unit) else .ok ()), Yu (Vz l)] at key
   rw [el]
   cases hq : (Ym l.length).any (Vz l) with
   | true => rw [hq] at key; exact key
   | false => rw [hq] at key; exact key _ (Ev.now _)
  ·refine Goes.step ?_
   simp only [Qf.l0]
   exact Goes.neg (by omega) (Goes.ok (K := fun _ _ => some true) u)
  ·obtain ⟨a, b, c, e, hab, hbc, hc⟩ := jGb (n := l.length) (by omega) (by omega) hi
   have eq : (Ym l.length).getD i (0, 0, 0) = (a, b, c) := by
    have hi' : i < (Ym l.length).length := by omega
    rw [List.getD_eq_getElem?_getD, List.getElem?_eq_getElem hi']
    simp only [eT, List.getElem_map] at e
    show (Ym l.length)[i] = _
    generalize (Ym l.length)[i] = z at e
    obtain ⟨x, y, w⟩ := z
    simp only at e
    injection e with e1 e2 e3
    rw [Int.ofNat_inj.1 e1, Int.ofNat_inj.1 e2, Int.ofNat_inj.1 e3]
   refine Goes.step ?_
   simp only [Qf.l0, jHb hi, e]
   refine Goes.pos (by omega) (Goes.pos (by omega) (Goes.pos (by omega) (Goes.pos (by omega) (Goes.pos (by omega) (Goes.pos (by omega) (Goes.pos (by omega) (Goes.pos (by omega) (Goes.pos (by omega) (Goes.call (Y1 (pt l a) (pt l b) (pt l c)) ?_)))))))))
   have n3 := jE1 hn (show a < l.length by omega) (show b < l.length by omega) hc
   have et : Uh (pt l a) (pt l b) (pt l c) = jBx (X4 (pt l a) (pt l b) (pt l c)) := if_pos n3
   rw [et, eq, Jg (by omega) (by omega)]
   by_cases g : X4 (pt l a) (pt l b) (pt l c) = 0
   ·exact Goes.pos (by rw [g]; rfl) (Goes.cast (Goes.ret _) (by simp [Vz, g]))
   ·refine Goes.neg ?_ (Goes.cast (Goes.ok (K := fun (_ : Unit) q => Qf.l0 q l (Ve l.length) ((Ve l.length).length : Int) ((i + 1 : Nat) : Int)) u) (by simp [Vz, g]))
    unfold jBx
    split
    ·decide
    ·rw [if_pos (by omega)]; decide
end Go.Proofs.YtckkfjdkaimmhaaGreatDoor.M
namespace Go.Proofs.YtckkfjdkaimmhaaGreatDoor.M
open Go.RowKit Go.Proofs.YtckkfjdkaimmhaaGreatDoorW.PrintWords Go.Proofs.YtckkfjdkaimmhaaGreatDoor.PX
theorem jE0 (n : Int) : Go.bits .and .i64 n 255 = n % 256 := by
 have aA : (BitVec.ofInt 64 255).toNat = 2 ^ 8 - 1 := by decide
 have key : (BitVec.ofInt 64 n &&& BitVec.ofInt 64 255).toNat = (n % ((2 ^ 64 : Nat) : Int)).toNat % 2 ^ 8 := by
  rw [BitVec.toNat_and, BitVec.toNat_ofInt, aA, Nat.and_two_pow_sub_one_eq_mod]
 show IntKind.i64.wrap ((BitVec.ofInt 64 n &&& BitVec.ofInt 64 255).toNat : Nat) = n % 256
 rw [key, IntKind.wrap_i64]
 omega
def Cur (l : List Int) (i : Int) : Prop := 0 ≤ i ∧ i ≤ (l.length : Int)
theorem U9 {l : List Int} (hl : l.length ≤ 1048576) {i : Int} (hc : Cur l i) (h : Int) : ∃ x i' h', J8.f l i h = some (x, i', h') ∧ (0 ≤ x ∧ x ≤ 255) ∧ Cur l i' := by
 obtain ⟨h0, h1⟩ := hc
 unfold J8.f
 by_cases g : i < (l.length : Int)
 ·rw [if_pos g, if_pos h0, jE0, jE0]
  refine ⟨_, _, _, rfl, by omega, ?_, ?_⟩
  ·rw [Jg (by omega) (by omega)]; omega
  ·rw [Jg (by omega) (by omega)]; omega
 ·rw [if_neg g, jE0]
  exact ⟨_, _, _, rfl, by omega, h0, h1⟩
theorem Yj {l : List Int} (hl : l.length ≤ 1048576) {i : Int} (hc : Cur l i) (h n : Int) : ∃ x i' h', Q3.f l i h n = some (x, i', h') ∧ (n ≤ 0 → x = 0) ∧ (0 < n → 0 ≤ x ∧ x < n) ∧ Cur l i' := by
 unfold Q3.f
 by_cases g : n ≤ 0
 ·rw [if_pos g]
  exact ⟨_, _, _, rfl, fun _ => rfl, fun h => by omega, hc⟩
 ·rw [if_neg g]
  have tm : ∀ x : Int, 0 ≤ x → 0 ≤ Int.tmod x n ∧ Int.tmod x n < n := fun x hx => by
   rw [Int.tmod_eq_emod_of_nonneg hx]
   exact ⟨Int.emod_nonneg _ (by omega), Int.emod_lt_of_pos _ (by omega)⟩
  by_cases g' : n ≤ 256
  ·rw [if_pos g']
   obtain ⟨x, i1, h1, e1, b1, c1⟩ := U9 hl hc h
   rw [e1]
   simp only [Option.bind_some]
   rw [if_neg (by omega)]
   exact ⟨_, _, _, rfl, fun h => by omega, fun _ => tm x b1.1, c1⟩
  ·rw [if_neg g']
   obtain ⟨x, i1, h1, e1, b1, c1⟩ := U9 hl hc h
   obtain ⟨y, i2, h2, e2, b2, c2⟩ := U9 hl c1 h1
   obtain ⟨z, i3, h3, e3, b3, c3⟩ := U9 hl c2 h2
   obtain ⟨w, i4, h4, e4, b4, c4⟩ := U9 hl c3 h3
   rw [e1]
   simp only [Option.bind_some]
   rw [e2]
   simp only [Option.bind_some]
   rw [e3]
   simp only [Option.bind_some]
   rw [e4]
   simp only [Option.bind_some]
   rw [if_neg (by omega)]
   refine ⟨_, _, _, rfl, fun h => by omega, fun _ => tm _ ?_, c4⟩
   rw [Jg (x := x * 16777216) (by omega) (by omega), Jg (x := y * 65536) (by omega) (by omega), Jg (x := z * 256) (by omega) (by omega), Jg (x := x * 16777216 + y * 65536) (by omega) (by omega)]
   rw [Jg (x := x * 16777216 + y * 65536 + z * 256) (by omega) (by omega), Jg (by omega) (by omega)]
   omega
theorem jAx (l : List Int) (_ : l.length ≤ 1048576) : ∃ h, Ev (fun k => Jm.f k l) (l, 0, h) := by
 have key : ∀ (d i : Nat) (x : Int), i + d = l.length → ∃ h, Ev (fun k => Jm.l0 k l x (i : Int)) (l, 0, h) := by
  intro d
  induction d with
  | zero =>
   intro i x hi
   refine ⟨x, Jh ?_⟩
   simp only [Jm.l0]
   exact Jb (by omega) (Ev.now _)
  | succ d ih =>
   intro i x hi
   by_cases g : (i : Int) < 4000
   ·obtain ⟨h, hh⟩ := ih (i + 1) (Go.bits .and .i64 (wrap64 ((wrap64 ((wrap64 (x * 131)) + (wrap64 (rd l (i : Int))))) + 7)) 1073741823) (by omega)
    refine ⟨h, Jh ?_⟩
    simp only [Jm.l0]
    rw [Jg (x := (i : Int) + 1) (by omega) (by omega)]
    exact Qr (by omega) (Qr g (Qr (by omega) hh))
   ·refine ⟨x, Jh ?_⟩
    simp only [Jm.l0]
    exact Qr (by omega) (Jb g (Ev.now _))
 unfold Jm.f
 exact key l.length 0 _ (by omega)
theorem jH7 (l : List Int) : Cur l 0 := ⟨Int.le_refl 0, by omega⟩
theorem jHa {l : List Int} (hl : l.length ≤ 1048576) {i : Int} (hc : Cur l i) (h : Int) (ts : List ByteArray) (ht : ts ≠ []) : ∃ x i' h', Xz.f l i h ts = some (x, i', h') ∧ x ∈ ts ∧ Cur l i' := by
 have hp : 0 < ts.length := List.length_pos_iff.2 ht
 obtain ⟨x, i', h', e, _, b, c⟩ := Yj hl hc h (ts.length : Int)
 have b := b (by omega)
 unfold Xz.f
 rw [e]
 simp only [Option.bind_some]
 rw [if_pos b.1, if_pos b.2]
 refine ⟨_, _, _, rfl, ?_, c⟩
 obtain ⟨j, rfl⟩ := Int.eq_ofNat_of_zero_le b.1
 have hj : j < ts.length := by omega
 unfold Yr
 rw [Int.toNat_natCast, List.getD_eq_getElem?_getD, List.getElem?_eq_getElem hj]
 exact List.getElem_mem hj
theorem Kt {l : List Int} (hl : l.length ≤ 1048576) {i : Int} (hc : Cur l i) (h : Int) (ts : List Int) (ht : ts ≠ []) : ∃ x i' h', J7.f l i h ts = some (x, i', h') ∧ x ∈ ts ∧ Cur l i' := by
 have hp : 0 < ts.length := List.length_pos_iff.2 ht
 obtain ⟨x, i', h', e, _, b, c⟩ := Yj hl hc h (ts.length : Int)
 have b := b (by omega)
 unfold J7.f
 rw [e]
 simp only [Option.bind_some]
 rw [if_pos b.1, if_pos b.2]
 refine ⟨_, _, _, rfl, ?_, c⟩
 obtain ⟨j, rfl⟩ := Int.eq_ofNat_of_zero_le b.1
 have hj : j < ts.length := by omega
 unfold rd
 rw [Int.toNat_natCast, List.getD_eq_getElem?_getD, List.getElem?_eq_getElem hj]
 exact List.getElem_mem hj
theorem jHh {l : List Int} (hl : l.length ≤ 1048576) {i : Int} (hc : Cur l i) (h n : Int) : ∃ b i' h', Xj.f l i h n = some (b, i', h') ∧ Cur l i' := by
 obtain ⟨x, i', h', e, _, _, c⟩ := Yj hl hc h n
 unfold Xj.f
 rw [e]
 exact ⟨_, _, _, rfl, c⟩
end Go.Proofs.YtckkfjdkaimmhaaGreatDoor.M
namespace Go.Proofs.YtckkfjdkaimmhaaGreatDoor.M
open Go.RowKit Go.Proofs.YtckkfjdkaimmhaaGreatDoorW.PrintWords Go.Proofs.YtckkfjdkaimmhaaGreatDoor.PX Go.Proofs.YtckkfjdkaimmhaaGreatDoor.G
theorem jF2 {x3 x5 : Int} {ps : List IP} {l : List Int} {i h p q : Int} {x8 : Nat} (h8 : x8 < ps.length) (hps : ps.length ≤ 100) (d : Nat) : ∀ (x9 : Nat) (x7 : Bool), x9 + d = x8 →
  ∃ aA, ∀ r, Ev (fun k => Qj.l1 k x3 ps x5 aA ((x8 + 1 : Nat) : Int) l i h p q) r → Ev (fun k => Qj.l2 k x3 ps x5 x7 (x8 : Int) (x9 : Int) l i h p q) r := by
 induction d with
 | zero =>
  intro x9 x7 hd
  refine ⟨x7, fun r hr => Jh ?_⟩
  simp only [Qj.l2]
  rw [Jg (x := (x8 : Int) + 1) (by omega) (by omega)]
  exact Jb (by omega) hr
 | succ d ih =>
  intro x9 x7 hd
  cases x7 with
  | false =>
   refine ⟨false, fun r hr => Jh ?_⟩
   simp only [Qj.l2]
   rw [Jg (x := (x8 : Int) + 1) (by omega) (by omega)]
   exact Qr (by omega) (Jb (by decide) hr)
  | true =>
   obtain ⟨v, hv⟩ : ∃ v, Ze.f ((Qb ps (x9 : Int)).f0) ((Qb ps (x9 : Int)).f1) ((Qb ps (x8 : Int)).f0) ((Qb ps (x8 : Int)).f1) p q = some v := ⟨_, rfl⟩
   obtain ⟨aA, h'⟩ := ih (x9 + 1) (v != 0) (by omega)
   refine ⟨aA, fun r hr => Jh ?_⟩
   simp only [Qj.l2]
   rw [Jg (x := (x9 : Int) + 1) (by omega) (by omega)]
   exact Qr (by omega) (Qr (by trivial) (Qr (by omega) (Qr (by omega) (Qr (by omega) (Qr (by omega) (Jl hv (h' r hr)))))))
theorem jFv {x3 : Int} {x5 : Nat} (h5 : x5 ≤ 12) {ps : List IP} {l : List Int} {i h p q : Int} (hps : ps.length ≤ 100) (d : Nat) : ∀ (x8 : Nat) (x7 : Bool), x8 + d = ps.length →
  ∃ ps' : List IP, ps'.length ≤ ps.length + 1 ∧ ∀ r, Ev (fun k => Qj.l0 k x3 ps' ((x5 + 1 : Nat) : Int) l i h) r → Ev (fun k => Qj.l1 k x3 ps (x5 : Int) x7 (x8 : Int) l i h p q) r := by
 have fin : ∀ (x8 : Nat) (x7 : Bool), ∃ ps' : List IP, ps'.length ≤ ps.length + 1 ∧ ∀ r, Ev (fun k => Qj.l0 k x3 ps' ((x5 + 1 : Nat) : Int) l i h) r → Ev (fun k => Qj.j3 k x3 ps (x5 : Int) x7 (x8 : Int) false l i h p q) r := by
  intro x8 x7
  cases x7 with
  | true =>
   refine ⟨ps ++ [(⟨p, q⟩ : IP)], by simp, fun r hr => Jh ?_⟩
   simp only [Qj.j3]
   rw [Jg (x := (x5 : Int) + 1) (by omega) (by omega)]
   exact Jb (by decide) (Qr (by trivial) (Qr (by omega) hr))
  | false =>
   refine ⟨ps, by omega, fun r hr => Jh ?_⟩
   simp only [Qj.j3]
   rw [Jg (x := (x5 : Int) + 1) (by omega) (by omega)]
   exact Jb (by decide) (Jb (by decide) hr)
 induction d with
 | zero =>
  intro x8 x7 hd
  obtain ⟨ps', hl, hr⟩ := fin x8 x7
  refine ⟨ps', hl, fun r h => Jh ?_⟩
  simp only [Qj.l1]
  exact Jb (by omega) (hr r h)
 | succ d ih =>
  intro x8 x7 hd
  cases x7 with
  | false =>
   obtain ⟨ps', hl, hr⟩ := fin x8 false
   refine ⟨ps', hl, fun r h => Jh ?_⟩
   simp only [Qj.l1]
   exact Qr (by omega) (hr r h)
  | true =>
   obtain ⟨aA, hi⟩ := jF2 (x3 := x3) (x5 := (x5 : Int)) (l := l) (i := i) (h := h) (p := p) (q := q) (ps := ps) (x8 := x8) (by omega) hps x8 0 (!(((Qb ps (x8 : Int)).f0) == p) || (!(((Qb ps (x8 : Int)).f1) == q))) (by omega)
   obtain ⟨ps', hl, hr⟩ := ih (x8 + 1) aA (by omega)
   refine ⟨ps', hl, fun r h => Jh ?_⟩
   simp only [Qj.l1]
   refine Qr (by omega) (Jh ?_)
   simp only [Qj.j3]
   exact Qr (by trivial) (Qr (by omega) (Qr (by omega) (hi r (hr r h))))
theorem Wi {l : List Int} (hl : l.length ≤ 1048576) {i : Int} (hc : Cur l i) (h : Int) : ∃ (ps : List IP) (i' h' : Int), Ev (fun k => Qj.f k l i h) (ps, i', h') ∧ 3 ≤ ps.length ∧ ps.length ≤ 20 ∧ Cur l i' := by
 have done : ∀ (x5 : Nat) (ps : List IP) (i h x3 : Int), ps.length ≤ 12 → Cur l i → ∃ (ps' : List IP) (i' h' : Int), Ev (fun k => Qj.j1 k x3 ps (x5 : Int) false l i h) (ps', i', h') ∧ 3 ≤ ps'.length ∧ ps'.length ≤ 20 ∧ Cur l i' := by
  intro x5 ps i h x3 hp hc
  by_cases g : (ps.length : Int) < 3
  ·refine ⟨[(⟨0, 0⟩ : IP), (⟨4, 1⟩ : IP), (⟨1, 3⟩ : IP), (⟨2, 2⟩ : IP)], i, h, Jh ?_, by simp, by simp, hc⟩
   simp only [Qj.j1]
   exact Jb (by decide) (Qr g (Ev.now _))
  ·refine ⟨ps, i, h, Jh ?_, by omega, by omega, hc⟩
   simp only [Qj.j1]
   exact Jb (by decide) (Jb g (Ev.now _))
 have key : ∀ (d x5 : Nat) (ps : List IP) (i h x3 : Int), x5 + d = 12 → ps.length ≤ x5 → Cur l i → ∃ (ps' : List IP) (i' h' : Int), Ev (fun k => Qj.l0 k x3 ps (x5 : Int) l i h) (ps', i', h') ∧ 3 ≤ ps'.length ∧ ps'.length ≤ 20 ∧ Cur l i' := by
  intro d
  induction d with
  | zero =>
   intro x5 ps i h x3 hd hp hc
   obtain ⟨ps', i', h', e, r⟩ := done x5 ps i h x3 (by omega) hc
   refine ⟨ps', i', h', Jh ?_, r⟩
   simp only [Qj.l0]
   exact Jb (by omega) e
  | succ d ih =>
   intro x5 ps i h x3 hd hp hc
   by_cases g : (ps.length : Int) < x3
   ·obtain ⟨x, i1, h1, e1, _, _, c1⟩ := Yj hl hc h 13
    obtain ⟨y, i2, h2, e2, _, _, c2⟩ := Yj hl c1 h1 13
    obtain ⟨aA, hl1, hr1⟩ := jFv (x3 := x3) (x5 := x5) (by omega) (l := l) (i := i2) (h := h2) (p := wrap64 (x - 6)) (q := wrap64 (y - 6)) (ps := ps) (by omega) ps.length 0 true (by omega)
    obtain ⟨ps', i', h', e, r⟩ := ih (x5 + 1) aA i2 h2 x3 (by omega) (by omega) c2
    refine ⟨ps', i', h', Jh ?_, r⟩
    simp only [Qj.l0]
    refine Qr (by omega) (Jh ?_)
    simp only [Qj.j1]
    exact Qr (decide_eq_true g) (Jl e1 (Jl e2 (hr1 _ e)))
   ·obtain ⟨ps', i', h', e, r⟩ := done x5 ps i h x3 (by omega) hc
    refine ⟨ps', i', h', Jh ?_, r⟩
    simp only [Qj.l0]
    rw [decide_eq_false g]
    exact Qr (by omega) e
 obtain ⟨x, i1, h1, e1, _, _, c1⟩ := Yj hl hc h 4
 obtain ⟨ps', i', h', e, r⟩ := key 12 0 [] i1 h1 (wrap64 (3 + x)) rfl (Nat.le_refl _) c1
 refine ⟨ps', i', h', ?_, r⟩
 unfold Qj.f
 exact Jl e1 e
theorem Kl {l : List Int} (hl : l.length ≤ 1048576) {i : Int} (hc : Cur l i) (h : Int) : ∃ (ps : List IP) (i' h' : Int), Ev (fun k => J4.f k l i h) (ps, i', h') ∧ 3 ≤ ps.length ∧ ps.length ≤ 21 ∧ Cur l i' := by
 obtain ⟨ps, i1, h1, e1, m1, m2, c1⟩ := Wi hl hc h
 obtain ⟨x, i2, h2, e2, _, _, c2⟩ := Yj hl c1 h1 14
 by_cases g : x = 0
 ·obtain ⟨y, i3, h3, e3, _, c3⟩ := Kt hl c2 h2 [50, 51, -51] (by decide)
  refine ⟨ps.set (0 : Int).toNat (⟨y, (Qb ps 0).f1⟩ : IP), i3, h3, ?_, ?_, ?_, c3⟩
  ·unfold J4.f
   exact Ev.bind e1 (Jl e2 (Qr g (Jl e3 (Qr (by simp only; omega) (Ev.now _)))))
  ·rw [List.length_set]; omega
  ·rw [List.length_set]; omega
 ·by_cases g1 : x = 1
  ·refine ⟨ps ++ [(⟨(Qb ps 0).f0, (Qb ps 0).f1⟩ : IP)], i2, h2, ?_, ?_, ?_, c2⟩
   ·unfold J4.f
    exact Ev.bind e1 (Jl e2 (Jb g (Qr g1 (Qr (by simp only; omega) (Qr (by simp only; omega) (Ev.now _))))))
   ·rw [List.length_append]; omega
   ·rw [List.length_append, List.length_singleton]; omega
  ·refine ⟨ps, i2, h2, ?_, m1, by omega, c2⟩
   unfold J4.f
   exact Ev.bind e1 (Jl e2 (Jb g (Jb g1 (Ev.now _))))
def jDg (a b : List IP) (i : Nat) : Bool := !(((Qb a (i : Int)).f0) == ((Qb b (i : Int)).f0)) || !(((Qb a (i : Int)).f1) == ((Qb b (i : Int)).f1))
def Kv (a b : List IP) : Bool := if (a.length : Int) = (b.length : Int) then !((List.range' 0 (a.length - 0)).any (jDg a b)) else false
theorem jDd (a b : List IP) (ha : a.length ≤ 10000000) : Ev (fun k => Zc.f k a b) (Kv a b) := by
 unfold Zc.f
 refine Ev.bind ?_ (Ev.now _)
 unfold Jp.f Kv
 by_cases h : (a.length : Int) = (b.length : Int)
 ·rw [if_pos h]
  refine Qr h ?_
  have key := U2 (σ := Unit) (ρ := Bool) (lo := 0) (n := a.length) (K := fun _ _ => some true) (L := fun i _ k => Jp.l0 k a b (a.length : Int) i)
   (fun _ i => if jDg a b i then .error false else .ok ()) (fun u => ?_) (fun i _ hi u => ?_) (by omega) ()
  ·rw [Yu (jDg a b)] at key
   cases hq : (List.range' 0 (a.length - 0)).any (jDg a b) with
   | true => rw [hq] at key; exact key
   | false => rw [hq] at key; exact key _ (Ev.now _)
  ·refine Goes.step ?_
   simp only [Jp.l0]
   exact Goes.neg (by omega) (Goes.ok (K := fun _ _ => some true) u)
  ·refine Goes.step ?_
   simp only [Jp.l0]
   rw [Jg (x := (i : Int) + 1) (by omega) (by omega)]
   refine Goes.pos (by omega) (Goes.pos (by omega) (Goes.pos (by omega) (Goes.pos (by omega) ?_)))
   cases g : jDg a b i with
   | true => exact Goes.pos g (Goes.ret _)
   | false => exact Goes.neg (fun e => by rw [show jDg a b i = true from e] at g; cases g) (Goes.ok (K := fun (_ : Unit) k => Jp.l0 k a b (a.length : Int) ((i + 1 : Nat) : Int)) u)
 ·rw [if_neg h]
  exact Jb h (Ev.now _)
end Go.Proofs.YtckkfjdkaimmhaaGreatDoor.M
namespace Go.Proofs.YtckkfjdkaimmhaaGreatDoor.M
open Go.RowKit Go.Proofs.YtckkfjdkaimmhaaGreatDoorW.PrintWords Go.Proofs.YtckkfjdkaimmhaaGreatDoor.PX
theorem jCf {l : List ByteArray} {i : Nat} (h : i < l.length) : Yr ByteArray.empty l (i : Int) = l[i] := by
 unfold Yr
 rw [Int.toNat_natCast, List.getD_eq_getElem?_getD, List.getElem?_eq_getElem h]
 rfl
end Go.Proofs.YtckkfjdkaimmhaaGreatDoor.M
namespace Go.Proofs.YtckkfjdkaimmhaaGreatDoor.M
open Go.RowKit Go.Proofs.YtckkfjdkaimmhaaGreatDoorW.PrintWords Go.Proofs.YtckkfjdkaimmhaaGreatDoor.PX Go.Proofs.YtckkfjdkaimmhaaGreatDoor.G
def Vr (l : List ByteArray) : List (List UInt8) := l.map (·.data.toList)
def lens (l : List ByteArray) : Nat := (l.map (·.size)).sum
theorem Kr {L : List (List UInt8)} {sep : List UInt8} {i : Nat} {y : List UInt8} (h : L[i]? = some y) : Lib.join (L.take (i + 1)) sep = Lib.join (L.take i) sep ++ (if i = 0 then [] else sep) ++ y := by
 cases L with
 | nil => simp at h
 | cons x r =>
  cases i with
  | zero =>
   simp only [List.getElem?_cons_zero, Option.some.injEq] at h
   subst h
   rw [List.take_succ_cons, List.take_zero, List.take_zero, Lib.join_one, Lib.join_nil]
   rfl
  | succ i =>
   rw [List.getElem?_cons_succ] at h
   rw [List.take_succ_cons, List.take_succ_cons, Lib.join_cons, Lib.join_cons, Lib.joinTail_take_succ sep r i y h, if_neg (Nat.succ_ne_zero i)]
   simp only [List.append_assoc]
theorem jAu (l : List ByteArray) (s : ByteArray) (i : Nat) (hi : i ≤ l.length) : (Lib.join ((Vr l).take i) s.data.toList).length ≤ i * s.size + lens l := by
 have key : ∀ i, i ≤ l.length → (Lib.join ((Vr l).take i) s.data.toList).length ≤ i * s.size + ((l.take i).map (·.size)).sum := by
  intro i
  induction i with
  | zero => intro _; rw [List.take_zero, Lib.join_nil]; exact Nat.zero_le _
  | succ i ih =>
   intro hi
   have e : (Vr l)[i]? = some l[i].data.toList := by
    rw [Vr, List.getElem?_map, List.getElem?_eq_getElem (by omega)]
    rfl
   rw [Kr e, List.length_append, List.length_append, List.take_succ_eq_append_getElem (by omega), List.map_append, List.sum_append, Nat.succ_mul]
   have h1 := ih (by omega)
   have h2 : (if i = 0 then [] else s.data.toList).length ≤ s.size := by
    split
    ·exact Nat.zero_le _
    ·exact Nat.le_refl _
   have h3 : l[i].data.toList.length = l[i].size := rfl
   simp only [List.map_cons, List.map_nil, List.sum_cons, List.sum_nil]
   omega
 have h1 := key i hi
 have h2 : ((l.take i).map (·.size)).sum ≤ lens l := by
  have : lens l = ((l.take i).map (·.size)).sum + ((l.drop i).map (·.size)).sum := by
   unfold lens
   rw [← List.sum_append, ← List.map_append, List.take_append_drop]
  omega
 omega
theorem jBq (u : List UInt8) : strOfNums (u.map fun b => (b.toNat : Int)) = (⟨u.toArray⟩ : ByteArray) := by
 unfold strOfNums
 congr 2
 rw [List.map_map]
 refine (List.map_congr_left fun b _ => ?_).trans (List.map_id _)
 show UInt8.ofNat ((b.toNat : Int)).toNat = b
 rw [Int.toNat_natCast]
 exact UInt8.ofNat_toNat
theorem jEb (l : List ByteArray) (s : ByteArray) (hl : l.length ≤ 1048576) (hs : s.size ≤ 1048576) (hz : lens l ≤ 1048576) : Ev (fun k => Za.f k l s) (K8 l s) := by
 unfold Za.f
 have bound : ∀ i, i ≤ l.length → (Lib.join ((Vr l).take i) s.data.toList).length ≤ 1099512676352 := fun i hi => by
  have h1 := jAu l s i hi
  have h2 : i * s.size ≤ 1048576 * 1048576 := Nat.mul_le_mul (by omega) hs
  omega
 have key := Vu (σ := List UInt8) (ρ := ByteArray) (lo := 0) (n := l.length) (K := fun u _ => some (⟨u.toArray⟩ : ByteArray)) (L := fun i u k => Za.l0 k l s (u.map fun b => (b.toNat : Int)) i)
  (fun i u => u = Lib.join ((Vr l).take i) s.data.toList) (fun u i => .ok (u ++ (if i = 0 then [] else s.data.toList) ++ (Yr ByteArray.empty l (i : Int)).data.toList)) (fun u hu => ?_) (fun i _ hi u hu => ?_) (fun i _ hi u hu u' e => ?_) (by omega) [] rfl
 ·rw [Ki] at key
  refine key _ ?_
  have inv : ∀ (d i : Nat) (u : List UInt8), i + d = l.length → u = Lib.join ((Vr l).take i) s.data.toList → (List.range' i d).foldl (fun (u : List UInt8) (i : Nat) => u ++ (if i = 0 then [] else s.data.toList) ++ (Yr ByteArray.empty l (i : Int)).data.toList) u = Lib.join (Vr l) s.data.toList := by
   intro d
   induction d with
   | zero =>
    intro i u hi hu
    rw [hu, List.take_of_length_le (by rw [Vr, List.length_map]; omega)]
    rfl
   | succ d ih =>
    intro i u hi hu
    rw [List.range'_succ, List.foldl_cons]
    refine ih (i + 1) _ (by omega) ?_
    rw [jCf (show i < l.length by omega), hu]
    exact (Kr (by rw [Vr, List.getElem?_map, List.getElem?_eq_getElem (by omega)]; rfl)).symm
  rw [Nat.sub_zero, inv l.length 0 [] (by omega) rfl]
  exact Ev.now _
 ·refine Goes.step ?_
  simp only [Za.l0]
  rw [jBq]
  exact Goes.neg (by omega) (Goes.ok (K := fun u (_ : Nat) => some (⟨u.toArray⟩ : ByteArray)) u)
 ·have e := jCf (l := l) hi
  have hb := bound i (by omega)
  have hb2 := bound (i + 1) (by omega)
  have e2 : (Vr l)[i]? = some l[i].data.toList := by
   rw [Vr, List.getElem?_map, List.getElem?_eq_getElem (by omega)]
   rfl
  rw [Kr e2, ← hu, List.length_append, List.length_append] at hb2
  have h3 : l[i].data.toList.length = l[i].size := rfl
  refine Goes.step ?_
  simp only [Za.l0, e]
  refine Goes.pos (by omega) ?_
  rw [Jg (by omega) (by omega)]
  have fin : ∀ u', u' = u ++ (if i = 0 then [] else s.data.toList) ++ l[i].data.toList → Goes (.ok (u ++ (if i = 0 then [] else s.data.toList) ++ l[i].data.toList)) (fun (u : List UInt8) k => Za.l0 k l s (u.map fun b => (b.toNat : Int)) ((i + 1 : Nat) : Int)) (fun k => Za.l0 k l s (u'.map fun b => (b.toNat : Int)) ((i : Int) + 1)) := by
   rintro u' rfl
   exact Goes.ok (K := fun (u : List UInt8) k => Za.l0 k l s (u.map fun b => (b.toNat : Int)) ((i + 1 : Nat) : Int)) _
  by_cases h0 : i = 0
  ·subst h0
   rw [if_pos rfl, List.length_nil] at hb2
   refine Goes.neg (by omega) (Goes.pos (by omega) (Goes.pos (by rw [List.length_map]; omega) ?_))
   have := fin (u ++ l[0].data.toList) (by simp)
   rw [List.map_append] at this
   exact this
  ·rw [if_neg h0] at hb2
   have h4 : s.data.toList.length = s.size := rfl
   refine Goes.pos (by omega) (Goes.pos (by rw [List.length_map]; omega) (Goes.call rfl (Goes.pos (by omega) (Goes.pos (by rw [List.length_append, List.length_map, bytesOf_length]; omega) ?_))))
   have := fin (u ++ s.data.toList ++ l[i].data.toList) (by rw [if_neg h0])
   rw [List.map_append, List.map_append] at this
   exact this
 ·cases e
  rw [jCf (show i < l.length by omega), hu]
  exact (Kr (by rw [Vr, List.getElem?_map, List.getElem?_eq_getElem (by omega)]; rfl)).symm
theorem jDu (l : List ByteArray) (s : ByteArray) (hl : l.length ≤ 1048576) (hs : s.size ≤ 1048576) (hz : lens l ≤ 1048576) : Y0.f l s = some (K8 l s) := by
 unfold Y0.f
 have h1 := jAu l s l.length (Nat.le_refl _)
 have h2 : l.length * s.size ≤ 1048576 * 1048576 := Nat.mul_le_mul hl hs
 rw [List.take_of_length_le (by rw [Vr, List.length_map]; omega)] at h1
 rw [if_pos ⟨by omega, by unfold Vr at h1; omega⟩]
end Go.Proofs.YtckkfjdkaimmhaaGreatDoor.M
namespace Go.Proofs.YtckkfjdkaimmhaaGreatDoor.M
open Go.RowKit Go.Proofs.YtckkfjdkaimmhaaGreatDoorW.PrintWords Go.Proofs.YtckkfjdkaimmhaaGreatDoor.PX Go.Proofs.YtckkfjdkaimmhaaGreatDoor.G Go.Proofs.YtckkfjdkaimmhaaGreatDoorW.PrintMore
open Go.Lib (decDigits itoa parseUint10 parseMag atoiAll)
theorem Yy {u : Nat} (h : u < 10) : decDigits u = [UInt8.ofNat (48 + u)] := by rw [decDigits, dif_pos h]
theorem Vt {u : Nat} (h : ¬ u < 10) : decDigits u = decDigits (u / 10) ++ [UInt8.ofNat (48 + u % 10)] := by rw [decDigits, dif_neg h]
theorem Uy {d : Nat} (h : d < 10) : (UInt8.ofNat (48 + d)).toNat = 48 + d := by
 rw [UInt8.toNat_ofNat']
 exact Nat.mod_eq_of_lt (by omega)
theorem jEj (d : Nat) : ∀ u, u < 10 ^ (d + 1) → (decDigits u).length ≤ d + 1 := by
 induction d with
 | zero => intro u h; rw [Yy (by simpa using h)]; exact Nat.le_refl _
 | succ d ih =>
  intro u h
  by_cases g : u < 10
  ·rw [Yy g, List.length_singleton]; omega
  ·have := ih (u / 10) (by rw [Nat.pow_succ] at h; omega)
   rw [Vt g, List.length_append, List.length_singleton]; omega
theorem jCn (u : Nat) : 1 ≤ (decDigits u).length := by
 by_cases g : u < 10
 ·rw [Yy g]; exact Nat.le_refl _
 ·rw [Vt g, List.length_append, List.length_singleton]; omega
theorem jB3 (d : Nat) : ∀ u, u < 10 ^ (d + 1) → ∀ c ∈ decDigits u, 48 ≤ c.toNat ∧ c.toNat ≤ 57 := by
 induction d with
 | zero =>
  intro u h c hc
  have h : u < 10 := by simpa using h
  rw [Yy h, List.mem_singleton] at hc
  rw [hc, Uy h]
  omega
 | succ d ih =>
  intro u h c hc
  by_cases g : u < 10
  ·rw [Yy g, List.mem_singleton] at hc
   rw [hc, Uy g]
   omega
  ·rw [Vt g, List.mem_append, List.mem_singleton] at hc
   rcases hc with hc | hc
   ·exact ih (u / 10) (by rw [Nat.pow_succ] at h; omega) c hc
   ·rw [hc, Uy (Nat.mod_lt _ (by omega))]
    have := Nat.mod_lt u (show 0 < 10 by omega)
    omega
/-! ### the library's reading -/
theorem jD5 (l r : List UInt8) : ∀ acc a, parseUint10 acc l = .ok a → parseUint10 acc (l ++ r) = parseUint10 a r := by
 induction l with
 | nil => intro acc a h; simp only [parseUint10] at h; cases h; rfl
 | cons c l ih =>
  intro acc a h
  simp only [parseUint10, List.cons_append] at h ⊢
  split at h
  ·rename_i h1
   rw [if_pos h1]
   split at h
   ·cases h
   ·rename_i h2
    rw [if_neg h2]
    split at h
    ·cases h
    ·rename_i h3
     rw [if_neg h3]
     exact ih _ _ h
  ·cases h
theorem jEx (d : Nat) : ∀ u, u < 10 ^ (d + 1) → u < 18446744073709551616 → parseUint10 0 (decDigits u) = .ok u := by
 have one : ∀ a x : Nat, x < 10 → a < 1844674407370955162 → a * 10 + x < 18446744073709551616 → parseUint10 a [UInt8.ofNat (48 + x)] = .ok (a * 10 + x) := by
  intro a x hx h1 h2
  simp only [parseUint10, Uy hx]
  rw [if_pos (by omega), if_neg (by omega), if_neg (by omega)]
  congr 1
  omega
 induction d with
 | zero =>
  intro u h _
  have h : u < 10 := by simpa using h
  rw [Yy h, one 0 u h (by omega) (by omega), Nat.zero_mul, Nat.zero_add]
 | succ d ih =>
  intro u h h2
  by_cases g : u < 10
  ·rw [Yy g, one 0 u g (by omega) (by omega), Nat.zero_mul, Nat.zero_add]
  ·rw [Vt g, jD5 _ _ _ _ (ih (u / 10) (by rw [Nat.pow_succ] at h; omega) (by omega)), one (u / 10) (u % 10) (Nat.mod_lt _ (by omega)) (by omega) (by omega)]
   congr 1
   omega
theorem jGq (u : Nat) : decDigits u ≠ [] := fun h => by have := jCn u; rw [h] at this; exact absurd this (by decide)
theorem jIj {u : Nat} (h : u < 18446744073709551616) : u < 10 ^ (19 + 1) := by omega
theorem jDz {u : Nat} (h : u < 18446744073709551616) : parseMag (decDigits u) = .ok u := by
 unfold parseMag
 rw [if_neg (jGq u)]
 exact jEx 19 u (jIj h) h
theorem jCt {u : Nat} (h : u < 18446744073709551616) : ∃ c r, decDigits u = c :: r ∧ 48 ≤ c.toNat ∧ c.toNat ≤ 57 := by
 cases e : decDigits u with
 | nil => exact absurd e (jGq u)
 | cons c r =>
  have := jB3 19 u (jIj h) c (by rw [e]; exact List.mem_cons_self)
  exact ⟨c, r, rfl, this⟩
theorem jEl {n : Int} (h0 : -9223372036854775808 ≤ n) (h1 : n ≤ 9223372036854775807) : atoiAll (itoa n) = .ok n := by
 unfold itoa
 by_cases g : n < 0
 ·rw [if_pos g, Lib.atoiAll_minus, jDz (by omega)]
  unfold Lib.signed
  simp only
  rw [if_neg (by omega)]
  congr 1
  omega
 ·rw [if_neg g]
  obtain ⟨c, r, e, c1, c2⟩ := jCt (u := n.toNat) (by omega)
  have hm := jDz (u := n.toNat) (by omega)
  rw [e] at hm ⊢
  rw [Lib.atoiAll_plain c r (by omega) (by omega), hm]
  unfold Lib.signless
  simp only
  rw [if_neg (by omega)]
  congr 1
  omega
theorem Yv (n : Int) : (Zl n).data.toList = itoa n := rfl
/-! ### the reference's text -/
theorem Ul (a b : List UInt8) : (⟨a.toArray⟩ : ByteArray) ++ ⟨b.toArray⟩ = ⟨(a ++ b).toArray⟩ := by
 apply ByteArray.ext
 simp
theorem jF3 (neg : Bool) (d : Nat) : ∀ (x : Int) (l : List UInt8), x.natAbs < 10 ^ d → l.length + d ≤ 1000 → -9223372036854775808 ≤ x → x ≤ 9223372036854775807 →
  Ev (fun k => Q7.l0 k x neg ⟨l.toArray⟩) ⟨((if neg = true then [45] else []) ++ ((if x = 0 then [] else decDigits x.natAbs) ++ l)).toArray⟩ := by
 have exit : ∀ (l : List UInt8), l.length ≤ 1000 → Ev (fun k => Q7.l0 k 0 neg ⟨l.toArray⟩) ⟨((if neg = true then [45] else []) ++ ((if (0 : Int) = 0 then [] else decDigits (0 : Int).natAbs) ++ l)).toArray⟩ := by
  intro l hl
  refine Jh ?_
  simp only [Q7.l0]
  refine Qr (by first | rfl | trivial) ?_
  cases neg with
  | true =>
   refine Qr (by first | rfl | trivial) (Qr ?_ (Zr (Ev.now _) ?_))
   ·show 1 + l.length ≤ _
    omega
   ·exact Ul [45] l
  | false => exact Jb (by simp) (Ev.now _)
 induction d with
 | zero =>
  intro x l hx hl _ _
  have : x = 0 := by simp at hx; exact hx
  subst this
  exact exit l (by omega)
 | succ d ih =>
  intro x l hx hl h0 h1
  by_cases g : x = 0
  ·subst g
   exact exit l (by omega)
  ·have ml := Nat.mod_lt x.natAbs (show 0 < 10 by omega)
   have td : (Int.tdiv x 10).natAbs = x.natAbs / 10 := by
    rcases Int.natAbs_eq x with e | e
    ·rw [e]; exact Int.natAbs_natCast _
    ·rw [e, Int.neg_tdiv, Int.natAbs_neg, Int.natAbs_neg]; exact Int.natAbs_natCast _
   have tm : Int.tmod x 10 = if x < 0 then -((x.natAbs % 10 : Nat) : Int) else ((x.natAbs % 10 : Nat) : Int) := by
    rcases Int.natAbs_eq x with e | e
    ·rw [if_neg (by omega)]
     conv => lhs; rw [e]
     rfl
    ·rw [if_pos (by omega)]
     conv => lhs; rw [e, Int.neg_tmod]
     rfl
   have tz : Int.tdiv x 10 = 0 ↔ x.natAbs < 10 := by omega
   have tb : -9223372036854775808 ≤ Int.tdiv x 10 ∧ Int.tdiv x 10 ≤ 9223372036854775807 := by
    have : x.natAbs ≤ 9223372036854775808 := by omega
    omega
   have nx := ih (Int.tdiv x 10) (UInt8.ofNat (48 + x.natAbs % 10) :: l) (by rw [td]; rw [Nat.pow_succ] at hx; omega) (by rw [List.length_cons]; omega) tb.1 tb.2
   have fin : ((if neg = true then [45] else []) ++ ((if Int.tdiv x 10 = 0 then [] else decDigits (Int.tdiv x 10).natAbs) ++ UInt8.ofNat (48 + x.natAbs % 10) :: l) : List UInt8) = (if neg = true then [45] else []) ++ ((if x = 0 then [] else decDigits x.natAbs) ++ l) := by
    rw [if_neg g, td]
    by_cases s : x.natAbs < 10
    ·rw [if_pos (tz.2 s), Yy s, Nat.mod_eq_of_lt s]
     rfl
    ·rw [if_neg (fun e => s (tz.1 e)), Vt s, List.append_assoc]
     rfl
   rw [fin] at nx
   have go : ∀ y : Int, y = 48 + ((x.natAbs % 10 : Nat) : Int) → Ev (fun k => (some (([y % 256] : List Int) : List Int)).bind fun y101 => (if (strOfNums y101).size + (⟨l.toArray⟩ : ByteArray).size ≤ 9223372036854775807 then (Q7.l0 k (wrap64 (Int.tdiv x 10)) neg ((strOfNums y101) ++ ⟨l.toArray⟩)) else (none)))
     ⟨((if neg = true then [45] else []) ++ ((if x = 0 then [] else decDigits x.natAbs) ++ l)).toArray⟩ := by
    intro y hy
    have e : y % 256 = ((48 + x.natAbs % 10 : Nat) : Int) := by omega
    rw [e]
    refine Jl rfl (Qr ?_ ?_)
    ·show 1 + l.length ≤ _
     omega
    ·rw [Jg tb.1 tb.2]
     have e2 : strOfNums [((48 + x.natAbs % 10 : Nat) : Int)] ++ (⟨l.toArray⟩ : ByteArray) = ⟨(UInt8.ofNat (48 + x.natAbs % 10) :: l).toArray⟩ := Ul [UInt8.ofNat (48 + x.natAbs % 10)] l
     rw [e2]
     exact nx
   refine Jh ?_
   simp only [Q7.l0]
   refine Jb g ?_
   by_cases s : Int.tmod x 10 < 0
   ·refine Qr s (go _ ?_)
    rw [tm] at s ⊢
    split at s
    ·rename_i s'
     rw [if_pos s', Jg (x := -(-((x.natAbs % 10 : Nat) : Int))) (by omega) (by omega), Jg (by omega) (by omega)]
     omega
    ·omega
   ·refine Jb s (go _ ?_)
    rw [tm] at s ⊢
    split at s
    ·rename_i s'
     rw [if_pos s', Jg (by omega) (by omega)]
     omega
    ·rename_i s'
     rw [if_neg s', Jg (by omega) (by omega)]
theorem Ui {n : Int} (h0 : -9223372036854775808 ≤ n) (h1 : n ≤ 9223372036854775807) : Ev (fun k => Q7.f k n) (Zl n) := by
 unfold Q7.f
 by_cases g : n = 0
 ·subst g
  exact Qr rfl (Zr (Ev.now _) (show (⟨#[48]⟩ : ByteArray) = ⟨(decDigits 0).toArray⟩ by rw [Yy (by decide)]; rfl))
 ·refine Jb g (Zr (jF3 (decide (n < 0)) 19 n [] (by omega) (by decide) h0 h1) ?_)
  unfold Zl itoa
  rw [if_neg g, List.append_nil]
  by_cases s : n < 0
  ·rw [decide_eq_true s, if_pos rfl, if_pos s]
   rfl
  ·rw [decide_eq_false s, if_neg (by simp), if_neg s, show n.natAbs = n.toNat by omega]
   rfl
theorem jC2 {n : Int} (h0 : -9223372036854775808 ≤ n) (h1 : n ≤ 9223372036854775807) : Zp.f n = some (Zl n) := if_pos ⟨h0, h1⟩
end Go.Proofs.YtckkfjdkaimmhaaGreatDoor.M
namespace Go.Proofs.YtckkfjdkaimmhaaGreatDoor.M
open Go.RowKit Go.Proofs.YtckkfjdkaimmhaaGreatDoorW.PrintWords Go.Proofs.YtckkfjdkaimmhaaGreatDoor.PX Go.Proofs.YtckkfjdkaimmhaaGreatDoor.G Go.Proofs.YtckkfjdkaimmhaaGreatDoorW.PrintMore
open Go.Lib (decDigits itoa)
def ptT (p : IP) : ByteArray := (Zl p.f0 ++ (⟨#[44]⟩ : ByteArray)) ++ Zl p.f1
def jFg (l : List IP) : ByteArray := if Zn l = true then K8 (l.map ptT) ⟨#[32]⟩ else ⟨#[]⟩
theorem Vw {n : Int} (h0 : -100 < n) (h1 : n < 100) : (Zl n).size ≤ 3 := by
 have := jEj 1 n.natAbs (by omega)
 rw [Xu, Yv]
 unfold itoa
 by_cases g : n < 0
 ·rw [if_pos g, List.length_cons]; omega
 ·rw [if_neg g, show n.toNat = n.natAbs by omega]; omega
theorem jC1 {p : IP} (h : Jw 50 p = true) : (-100 < p.f0 ∧ p.f0 < 100) ∧ (-100 < p.f1 ∧ p.f1 < 100) := by
 simp only [Jw, Bool.and_eq_true, decide_eq_true_eq] at h
 omega
theorem jGe {p : IP} (h : Jw 50 p = true) : (ptT p).size ≤ 7 := by
 obtain ⟨a, b⟩ := jC1 h
 have h1 := Vw a.1 a.2
 have h2 := Vw b.1 b.2
 unfold ptT
 rw [ByteArray.size_append, ByteArray.size_append]
 show (Zl p.f0).size + 1 + (Zl p.f1).size ≤ 7
 omega
theorem jD9 {l : List ByteArray} {m : Nat} (h : ∀ x ∈ l, x.size ≤ m) : lens l ≤ l.length * m := by
 unfold lens
 induction l with
 | nil => simp
 | cons x l ih =>
  have h1 := h x List.mem_cons_self
  have h2 := ih fun y hy => h y (List.mem_cons_of_mem _ hy)
  rw [List.map_cons, List.sum_cons, List.length_cons, Nat.add_mul]
  omega
theorem jE4 {l : List IP} {i : Nat} (h : i < l.length) : (l.take (i + 1)).map ptT = (l.take i).map ptT ++ [ptT l[i]] := by
 rw [List.take_add_one, List.getElem?_eq_getElem h, List.map_append]
 rfl
section
variable {l : List IP} (h : Zn l = true)
include h
theorem jA8 : l.length ≤ 7 ∧ lens (l.map ptT) ≤ 1048576 ∧ ∀ p ∈ l, Jw 50 p = true := by
 obtain ⟨⟨_, h7⟩, hn, _⟩ := Xd.1 h
 refine ⟨h7, ?_, hn⟩
 have := jD9 (l := l.map ptT) (m := 7) fun x hx => by
  obtain ⟨p, hp, rfl⟩ := List.mem_map.1 hx
  exact jGe (hn p hp)
 rw [List.length_map] at this
 omega
theorem jAh (d : Nat) : ∀ i : Nat, i + d = l.length → Ev (fun k => Q4.l0 k ((l.take i).map ptT) l (l.length : Int) (i : Int)) (K8 (l.map ptT) ⟨#[32]⟩) := by
 obtain ⟨h7, hz, hn⟩ := jA8 h
 induction d with
 | zero =>
  intro i hi
  refine Jh ?_
  simp only [Q4.l0]
  rw [List.take_of_length_le (by omega)]
  exact Jb (by omega) (Jl (jDu _ _ (by rw [List.length_map]; omega) (by decide) hz) (Ev.now _))
 | succ d ih =>
  intro i hi
  have hil : i < l.length := by omega
  have nx := ih (i + 1) (by omega)
  have np := hn l[i] (List.getElem_mem _)
  obtain ⟨a, b⟩ := jC1 np
  have h1 := Vw a.1 a.2
  have h2 := Vw b.1 b.2
  rw [jE4 hil] at nx
  refine Jh ?_
  simp only [Q4.l0]
  rw [jFh hil, Jg (x := (i : Int) + 1) (by omega) (by omega)]
  refine Qr (by omega) (Qr (by omega) (Qr (by omega) (Jl (jC2 (by omega) (by omega)) (Qr (by omega) (Jl (jC2 (by omega) (by omega)) (Qr (by omega) (Qr ?_ nx)))))))
  rw [List.length_map, List.length_take]
  omega
theorem jAk (d : Nat) : ∀ i : Nat, i + d = l.length → Ev (fun k => Qx.l0 k l ((l.take i).map ptT) (i : Int)) (K8 (l.map ptT) ⟨#[32]⟩) := by
 obtain ⟨h7, hz, hn⟩ := jA8 h
 induction d with
 | zero =>
  intro i hi
  refine Jh ?_
  simp only [Qx.l0]
  rw [List.take_of_length_le (by omega)]
  exact Jb (by omega) (Ev.bind (jEb _ _ (by rw [List.length_map]; omega) (by decide) hz) (Ev.now _))
 | succ d ih =>
  intro i hi
  have hil : i < l.length := by omega
  have nx := ih (i + 1) (by omega)
  have np := hn l[i] (List.getElem_mem _)
  obtain ⟨a, b⟩ := jC1 np
  have h1 := Vw a.1 a.2
  have h2 := Vw b.1 b.2
  rw [jE4 hil] at nx
  refine Jh ?_
  simp only [Qx.l0]
  rw [jFh hil, Jg (x := (i : Int) + 1) (by omega) (by omega)]
  refine Qr (by omega) (Qr (by omega) (Ev.bind (Ui (by omega) (by omega)) (Qr (by omega) (Ev.bind (Ui (by omega) (by omega)) (Qr (by omega) (Qr ?_ nx))))))
  rw [List.length_map, List.length_take]
  omega
end
theorem jD1 (l : List IP) (hl : l.length ≤ 10000000) : Ev (fun k => Q4.f k l) (jFg l) := by
 unfold Q4.f jFg
 refine Ev.bind (Y2 l hl) ?_
 by_cases h : Zn l = true
 ·exact Zr (Qr h (jAh h l.length 0 (by omega))) (if_pos h).symm
 ·exact Zr (Jb h (Ev.now _)) (if_neg h).symm
theorem jBl (l : List IP) (hl : l.length ≤ 10000000) : Ev (fun k => Qx.f k l) (jFg l) := by
 unfold Qx.f jFg
 refine Ev.bind (Xx l hl) ?_
 by_cases h : Zn l = true
 ·exact Zr (Qr h (jAk h l.length 0 (by omega))) (if_pos h).symm
 ·exact Zr (Jb h (Ev.now _)) (if_neg h).symm
end Go.Proofs.YtckkfjdkaimmhaaGreatDoor.M
namespace Go.Proofs.YtckkfjdkaimmhaaGreatDoor.M
open Go.RowKit Go.Proofs.YtckkfjdkaimmhaaGreatDoorW.PrintWords Go.Proofs.YtckkfjdkaimmhaaGreatDoor.PX Go.Proofs.YtckkfjdkaimmhaaGreatDoor.G
theorem Uf (a b : List IP) (ha : a.length ≤ 10000000) : Ev (fun k => Qu.f k a b) (Kv a b) := by
 unfold Qu.f Kv
 by_cases h : (a.length : Int) = (b.length : Int)
 ·rw [if_pos h]
  refine Qr h ?_
  have key := U2 (σ := Unit) (ρ := Bool) (lo := 0) (n := a.length) (K := fun _ _ => some true) (L := fun i _ k => Qu.l0 k a b i)
   (fun _ i => if jDg a b i then .error false else .ok ()) (fun u => ?_) (fun i _ hi u => ?_) (by omega) ()
  ·rw [Yu (jDg a b)] at key
   cases hq : (List.range' 0 (a.length - 0)).any (jDg a b) with
   | true => rw [hq] at key; exact key
   | false => rw [hq] at key; exact key _ (Ev.now _)
  ·refine Goes.step ?_
   simp only [Qu.l0]
   exact Goes.neg (by omega) (Goes.ok (K := fun _ _ => some true) u)
  ·refine Goes.step ?_
   simp only [Qu.l0]
   rw [Jg (x := (i : Int) + 1) (by omega) (by omega)]
   refine Goes.pos (by omega) (Goes.pos (by omega) (Goes.pos (by omega) ?_))
   cases g : jDg a b i with
   | true => exact Goes.pos g (Goes.ret _)
   | false => exact Goes.neg (fun e => by rw [show jDg a b i = true from e] at g; cases g) (Goes.ok (K := fun (_ : Unit) k => Qu.l0 k a b ((i + 1 : Nat) : Int)) u)
 ·rw [if_neg h]
  exact Jb h (Ev.now _)
theorem jBd (a : List IP) : Kv a a = true := by
 unfold Kv
 rw [if_pos rfl]
 have : (List.range' 0 (a.length - 0)).any (jDg a a) = false := by
  rw [List.any_eq_false]
  intro i _
  simp [jDg]
 rw [this]
 rfl
theorem Kh (a : List IP) (ha : a.length ≤ 10000000) : Ev (fun k => Qu.f k a a) true := Zr (Uf a a ha) (jBd a)
theorem jDx {l : List Int} (hl : l.length ≤ 1048576) {i : Int} (hc : Cur l i) (h : Int) (t : ByteArray) (ht : t.size ≤ 100000) (ts : List ByteArray) (hts : ts ≠ []) (hz : ∀ x ∈ ts, x.size ≤ 100) :
  ∃ (u : ByteArray) (i' h' : Int), Jq.f l i h t ts = some (u, i', h') ∧ u.size ≤ 400000 := by
 obtain ⟨x, i1, h1, e1, _, b1, c1⟩ := Yj hl hc h (wrap64 ((t.size : Int) + 1))
 rw [Jg (by omega) (by omega)] at e1 b1
 have b1 := b1 (by omega)
 obtain ⟨y, i2, h2, e2, _, _, c2⟩ := Yj hl c1 h1 6
 obtain ⟨z, i3, h3, e3, mz, _⟩ := jHa hl c2 h2 ts hts
 have hz := hz z mz
 unfold Jq.f
 rw [Jg (x := (t.size : Int) + 1) (by omega) (by omega), e1]
 simp only [Option.bind_some]
 rw [e2]
 simp only [Option.bind_some]
 by_cases g0 : y = 0
 ·rw [if_pos g0, if_pos b1.1, if_pos (by omega), e3]
  simp only [Option.bind_some]
  have s1 : (t.extract 0 x.toNat).size ≤ t.size := by rw [ByteArray.size_extract]; omega
  have s2 : (t.extract x.toNat t.size).size ≤ t.size := by rw [ByteArray.size_extract]; omega
  rw [if_pos (by omega), if_pos (by omega)]
  exact ⟨_, _, _, rfl, by rw [ByteArray.size_append, ByteArray.size_append]; omega⟩
 ·rw [if_neg g0]
  by_cases g1 : y = 1
  ·rw [if_pos g1, if_pos b1.1, if_pos (by omega)]
   exact ⟨_, _, _, rfl, by rw [ByteArray.size_extract]; omega⟩
  ·rw [if_neg g1]
   exact ⟨_, _, _, rfl, by omega⟩
theorem jFt {l : List Int} (hl : l.length ≤ 1048576) : ∃ a b c : IP, Ev (fun k => Zh.f k l) (a.f0, a.f1, b.f0, b.f1, c.f0, c.f1) := by
 obtain ⟨h, hn⟩ := jAx l hl
 obtain ⟨ps, i1, h1, e1, n3, _, c1⟩ := Wi hl (jH7 l) h
 obtain ⟨y, i2, h2, e2, _, _, c2⟩ := Yj hl c1 h1 6
 obtain ⟨z, i3, h3, e3, mz, _⟩ := Kt hl c2 h2 [1000, 1001, (-1001)] (by simp)
 suffices hs : ∃ a b c : IP, Ev (fun k => Ja.f k l) (a.f0, a.f1, b.f0, b.f1, c.f0, c.f1) by
  obtain ⟨a, b, c, hs⟩ := hs
  refine ⟨a, b, c, ?_⟩
  unfold Zh.f
  exact Ev.bind hs (Ev.now _)
 unfold Ja.f
 by_cases g0 : y = 0
 ·exact ⟨Qb ps 0, Qb ps 1, ⟨z, (Qb ps 2).f1⟩, Ev.bind hn (Ev.bind e1 (Qr (by simp only; omega) (Jl e2 (Qr g0 (Jl e3 (Qr (by simp only; omega) (Qr (by simp only; omega) (Ev.now _))))))))⟩
 by_cases g1 : y = 1
 ·exact ⟨Qb ps 0, Qb ps 1, Qb ps 0, Ev.bind hn (Ev.bind e1 (Qr (by simp only; omega) (Jl e2 (Jb g0 (Qr g1 (Qr (by simp only; omega) (Qr (by simp only; omega) (Ev.now _))))))))⟩
 by_cases g2 : y = 2
 ·exact ⟨Qb ps 0, Qb ps 1, ⟨wrap64 ((wrap64 (2 * ((Qb ps 1).f0))) - ((Qb ps 0).f0)), wrap64 ((wrap64 (2 * ((Qb ps 1).f1))) - ((Qb ps 0).f1))⟩, Ev.bind hn (Ev.bind e1 (Qr (by simp only; omega) (Jl e2 (Jb g0 (Jb g1 (Qr g2 (Qr (by simp only; omega) (Qr (by simp only; omega) (Ev.now _)))))))))⟩
 ·exact ⟨Qb ps 0, Qb ps 1, Qb ps 2, Ev.bind hn (Ev.bind e1 (Qr (by simp only; omega) (Jl e2 (Jb g0 (Jb g1 (Jb g2 (Qr (by simp only; omega) (Qr (by simp only; omega) (Ev.now _)))))))))⟩
theorem jIy {l : List Int} (hl : l.length ≤ 1048576) : ∃ ps : List IP, Ev (fun k => Jz.f k l) ps ∧ ps.length ≤ 21 := by
 obtain ⟨h, hn⟩ := jAx l hl
 obtain ⟨ps, i, h', e, _, m, _⟩ := Kl hl (jH7 l) h
 exact ⟨ps, by unfold Jz.f; exact Ev.bind hn (Ev.bind e (Ev.now _)), m⟩
theorem jA1 (l : List IP) : (jFg l).size ≤ 100 := by
 unfold jFg
 split
 ·rename_i h
  obtain ⟨h1, h2, _⟩ := Xd.1 h
  have hj := jAu (l.map ptT) ⟨#[32]⟩ (l.map ptT).length (Nat.le_refl _)
  have hz : lens (l.map ptT) ≤ (l.map ptT).length * 7 := jD9 fun x hx => by
   obtain ⟨p, hp, rfl⟩ := List.mem_map.1 hx
   exact jGe (h2 p hp)
  have e : (K8 (l.map ptT) ⟨#[32]⟩).size = (Lib.join (Vr (l.map ptT)) ((⟨#[32]⟩ : ByteArray).data.toList)).length := rfl
  have hd : (Vr (l.map ptT)).length = (l.map ptT).length := List.length_map _
  rw [List.take_of_length_le (by omega)] at hj
  rw [e]
  have h7 : (l.map ptT).length ≤ 7 := by rw [List.length_map]; exact h1.2
  have h32 : (⟨#[32]⟩ : ByteArray).size = 1 := rfl
  rw [h32] at hj
  omega
 ·exact Nat.zero_le _
theorem jIw {l : List Int} (hl : l.length ≤ 1048576) : ∃ t : ByteArray, Ev (fun k => Jv.f k l) t ∧ t.size ≤ 400000 := by
 obtain ⟨h, hn⟩ := jAx l hl
 obtain ⟨ps, i1, h1, e1, _, m, c1⟩ := Wi hl (jH7 l) h
 obtain ⟨u, i2, h2, e2, s2⟩ := jDx hl c1 h1 (jFg ps) (by have := jA1 ps; omega) [(⟨#[32]⟩ : ByteArray), (⟨#[44]⟩ : ByteArray), (⟨#[49]⟩ : ByteArray), (⟨#[45]⟩ : ByteArray), (⟨#[57]⟩ : ByteArray), (⟨#[48, 44, 48]⟩ : ByteArray)] (by simp) (by decide)
 exact ⟨u, by unfold Jv.f; exact Ev.bind hn (Ev.bind e1 (Ev.bind (jBl ps (by omega)) (Jl e2 (Ev.now _)))), s2⟩
theorem jHx {l : List Int} (hl : l.length ≤ 1048576) : ∃ (ps : List IP) (k : Int), Ev (fun q => Ju.f q l) (ps, k) ∧ ps.length ≤ 21 ∧ (-9223372036854775808 ≤ k ∧ k ≤ 9223372036854775807) := by
 obtain ⟨h, hn⟩ := jAx l hl
 obtain ⟨ps, i1, h1, e1, _, m, c1⟩ := Kl hl (jH7 l) h
 obtain ⟨z, i3, h3, e3, mz, _⟩ := Kt hl c1 h1 [0, 1, (-1), 2, 5, 100, 101] (by simp)
 refine ⟨ps, z, by unfold Ju.f; exact Ev.bind hn (Ev.bind e1 (Jl e3 (Ev.now _))), m, ?_⟩
 simp at mz
 omega
theorem jIf {l : List Int} (hl : l.length ≤ 1048576) : ∃ (p q : List IP), Ev (fun k => Jt.f k l) (p, q) ∧ p.length ≤ 21 := by
 obtain ⟨h, hn⟩ := jAx l hl
 obtain ⟨ps, i1, h1, e1, _, m, c1⟩ := Kl hl (jH7 l) h
 obtain ⟨b, i2, h2, e2, c2⟩ := jHh hl c1 h1 2
 obtain ⟨qs, i3, h3, e3, _, m3, _⟩ := Kl hl c2 h2
 unfold Jt.f
 by_cases g : b = true
 ·exact ⟨ps, [] ++ ps, Ev.bind hn (Ev.bind e1 (Jl e2 (Qr g (Jl rfl (Qr (by simp only [List.length_nil]; omega) (Ev.now _)))))), m⟩
 ·exact ⟨ps, qs, Ev.bind hn (Ev.bind e1 (Jl e2 (Jb g (Ev.bind e3 (Ev.now _))))), m⟩
end Go.Proofs.YtckkfjdkaimmhaaGreatDoor.M
namespace Go.Proofs.YtckkfjdkaimmhaaGreatDoor.PX
open Go.RowKit Go.Proofs.YtckkfjdkaimmhaaGreatDoor.G Go.Proofs.YtckkfjdkaimmhaaGreatDoorW.PrintWords Go.Proofs.YtckkfjdkaimmhaaGreatDoorW.PrintLast Go.Proofs.YtckkfjdkaimmhaaGreatDoorW.PrintMore
attribute [local go_sem] max2_int min2_int Yi Yh Z4 Z7 Xk Xn   -- for this text's walks alone
set_option linter.unusedVariables false
set_option linter.unusedSimpArgs false
end Go.Proofs.YtckkfjdkaimmhaaGreatDoor.PX
namespace Go.Proofs.YtckkfjdkaimmhaaGreatDoor.M
open Go.RowKit Go.Proofs.YtckkfjdkaimmhaaGreatDoorW.PrintWords Go.Proofs.YtckkfjdkaimmhaaGreatDoor.PX Go.Proofs.YtckkfjdkaimmhaaGreatDoor.G Go.Proofs.YtckkfjdkaimmhaaGreatDoorW.PrintMore
open Go.Lib (decDigits itoa parseUint10 parseMag atoiAll)
def jAc : Nat → List UInt8 → Option Nat
 | acc, [] => some acc
 | acc, c :: r => if 48 ≤ c.toNat ∧ c.toNat ≤ 57 then jAc (10 * acc + (c.toNat - 48)) r else none
theorem jFi (l r : List UInt8) : ∀ acc a, jAc acc l = some a → jAc acc (l ++ r) = jAc a r := by
 induction l with
 | nil => intro acc a h; simp only [jAc, Option.some.injEq] at h; subst h; rfl
 | cons c l ih =>
  intro acc a h
  simp only [jAc, List.cons_append] at h ⊢
  split at h
  ·rename_i h1
   rw [if_pos h1]
   exact ih _ _ h
  ·cases h
theorem jFk (d : Nat) : ∀ u, u < 10 ^ (d + 1) → jAc 0 (decDigits u) = some u := by
 have one : ∀ a x : Nat, x < 10 → jAc a [UInt8.ofNat (48 + x)] = some (10 * a + x) := by
  intro a x hx
  simp only [jAc, Uy hx]
  rw [if_pos (by omega)]
  congr 1
  omega
 induction d with
 | zero =>
  intro u h
  have h : u < 10 := by simpa using h
  rw [Yy h, one 0 u h, Nat.mul_zero, Nat.zero_add]
 | succ d ih =>
  intro u h
  by_cases g : u < 10
  ·rw [Yy g, one 0 u g, Nat.mul_zero, Nat.zero_add]
  ·rw [Vt g, jFi _ _ _ _ (ih (u / 10) (by rw [Nat.pow_succ] at h; omega)), one (u / 10) (u % 10) (Nat.mod_lt _ (by omega))]
   congr 1
   omega
theorem jG0 (l : List UInt8) : ∀ acc v m, jAc acc l = some v → acc < 10 ^ m → v < 10 ^ (m + l.length) := by
 induction l with
 | nil => intro acc v m h ha; simp only [jAc, Option.some.injEq] at h; subst h; exact ha
 | cons c l ih =>
  intro acc v m h ha
  simp only [jAc] at h
  split at h
  ·have := ih _ v (m + 1) h (by rw [Nat.pow_succ]; omega)
   rw [List.length_cons, show m + (l.length + 1) = m + 1 + l.length by omega]
   exact this
  ·cases h
def jAr (s : ByteArray) (neg : Bool) : Option Nat → Int × Bool
 | none => (0, false)
 | some v => if (Zl (if neg = true then -(v : Int) else (v : Int))).toList = s.toList then ((if neg = true then -(v : Int) else (v : Int)), true) else (0, false)
def Ko (s : ByteArray) (neg : Bool) : ByteArray := if neg = true then s.extract 1 s.size else s
def jCj (s : ByteArray) : Bool := decide (0 < s.size) && (bt s 0 == 45)
def Wl (s : ByteArray) (m : Nat) : Int × Bool := if (Ko s (jCj s)).size < 1 ∨ (Ko s (jCj s)).size > m then (0, false) else jAr s (jCj s) (jAc 0 (Ko s (jCj s)).data.toList)
theorem p12 : ∀ i, i ≤ 12 → 10 ^ i ≤ 1000000000000 := fun i h => by
 have := Nat.pow_le_pow_right (n := 10) (by omega) h
 omega
theorem jE9 (s t : ByteArray) (neg : Bool) (ht : t.data.toList.length ≤ 12) (d : Nat) : ∀ i acc : Nat, i + d = t.data.toList.length → acc < 10 ^ i → Ev (fun k => Qz.l0 k s neg t (acc : Int) (i : Int)) (jAr s neg (jAc acc (t.data.toList.drop i))) := by
 induction d with
 | zero =>
  intro i acc hi ha
  have := p12 i (by omega)
  refine Jh ?_
  simp only [Qz.l0]
  rw [List.drop_of_length_le (by omega)]
  refine Jb (by rw [Xu]; omega) ?_
  simp only [jAc, jAr]
  cases neg with
  | true =>
   simp only [if_true]
   rw [Jg (x := -(acc : Int)) (by omega) (by omega)]
   refine Ev.bind (Ui (by omega) (by omega)) ?_
   by_cases g : (Zl (-(acc : Int))).toList = s.toList
   ·exact Zr (Qr g (Ev.now _)) (if_pos g).symm
   ·exact Zr (Jb g (Ev.now _)) (if_neg g).symm
  | false =>
   simp only [Bool.false_eq_true, if_false]
   refine Ev.bind (Ui (by omega) (by omega)) ?_
   by_cases g : (Zl (acc : Int)).toList = s.toList
   ·exact Zr (Qr g (Ev.now _)) (if_pos g).symm
   ·exact Zr (Jb g (Ev.now _)) (if_neg g).symm
 | succ d ih =>
  intro i acc hi ha
  have hil : i < t.data.toList.length := by omega
  have pb := p12 i (by omega)
  have pb' := p12 (i + 1) (by omega)
  refine Jh ?_
  simp only [Qz.l0]
  rw [List.drop_eq_getElem_cons hil, U4 hil]
  simp only [jAc]
  have hc := UInt8.toNat_lt (t.data.toList[i])
  generalize t.data.toList[i] = c at hc
  refine Qr (by rw [Xu]; omega) (Qr (by omega) ?_)
  by_cases g1 : (c.toNat : Int) < 48
  ·rw [if_neg (by omega)]
   exact Qr g1 (Ev.now _)
  ·refine Jb g1 ?_
   by_cases g2 : (c.toNat : Int) > 57
   ·rw [if_neg (by omega)]
    exact Qr g2 (Ev.now _)
   ·rw [if_pos (by omega)]
    refine Jb g2 ?_
    have nx := ih (i + 1) (10 * acc + (c.toNat - 48)) (by omega) (by rw [Nat.pow_succ]; omega)
    rw [Nat.pow_succ] at pb'
    rw [Jg (x := 10 * (acc : Int)) (by omega) (by omega), Jg (x := 10 * (acc : Int) + ((c.toNat : Int) - 48) % 256) (by omega) (by omega), Jg (x := (i : Int) + 1) (by omega) (by omega), show 10 * (acc : Int) + ((c.toNat : Int) - 48) % 256 = ((10 * acc + (c.toNat - 48) : Nat) : Int) by omega]
    exact nx
theorem jEn (s : ByteArray) (m : Nat) (hm : m ≤ 12) (hs : s.size ≤ 1048576) : Ev (fun k => Qz.f k s (m : Int)) (Wl s m) := by
 have j2 : ∀ (neg : Bool) (t : ByteArray), t = Ko s neg → Ev (fun k => Qz.j1 k s (m : Int) neg t) (if t.size < 1 ∨ t.size > m then (0, false) else jAr s neg (jAc 0 t.data.toList)) := by
  intro neg t _
  have two : ∀ b : Bool, b = decide (t.size < 1 ∨ t.size > m) → Ev (fun k => Qz.j2 k s neg t b) (if t.size < 1 ∨ t.size > m then (0, false) else jAr s neg (jAc 0 t.data.toList)) := by
   intro b hb
   refine Jh ?_
   simp only [Qz.j2]
   by_cases g : t.size < 1 ∨ t.size > m
   ·rw [if_pos g]
    rw [decide_eq_true g] at hb
    exact Qr hb (Ev.now _)
   ·rw [if_neg g]
    rw [decide_eq_false g] at hb
    refine Jb (by rw [hb]; simp) ?_
    have r := jE9 s t neg (by rw [← Xu]; omega) t.data.toList.length 0 0 (by omega) (by simp)
    rw [List.drop_zero] at r
    exact r
  refine Jh ?_
  simp only [Qz.j1]
  by_cases g : t.size < 1
  ·exact Qr (by omega) (two true (by rw [decide_eq_true (Or.inl g)]))
  ·refine Jb (by omega) (two _ ?_)
   rw [decide_eq_decide]
   omega
 have j0 : ∀ neg : Bool, (neg = true → 0 < s.size) → Ev (fun k => Qz.j0 k s (m : Int) neg) (if (Ko s neg).size < 1 ∨ (Ko s neg).size > m then (0, false) else jAr s neg (jAc 0 (Ko s neg).data.toList)) := by
  intro neg hn
  refine Jh ?_
  simp only [Qz.j0]
  cases neg with
  | true =>
   have := hn rfl
   exact Qr (by first | rfl | trivial) (Qr (by omega) (j2 true _ rfl))
  | false => exact Jb (by simp) (j2 false _ rfl)
 unfold Qz.f Wl
 by_cases g : 0 < s.size
 ·have e : jCj s = (bt s 0 == 45) := by unfold jCj; rw [decide_eq_true g, Bool.true_and]
  rw [e]
  exact Qr (by omega) (Qr (by omega) (j0 _ fun _ => g))
 ·have e : jCj s = false := by unfold jCj; rw [decide_eq_false g, Bool.false_and]
  rw [e]
  exact Jb (by omega) (j0 false (by simp))
theorem jE7 {a b : ByteArray} : a.toList = b.toList ↔ a = b := by
 constructor
 ·intro h
  rw [ByteArray.toList_eq, ByteArray.toList_eq] at h
  exact ByteArray.ext (Array.ext' h)
 ·rintro rfl; rfl
theorem jEp {s : ByteArray} {c : UInt8} {r : List UInt8} (h : s.data.toList = c :: r) : (s.extract 1 s.size).data.toList = r := by
 rw [ByteArray.data_extract, Array.toList_extract, h, Xu, h]
 simp [List.extract]
theorem jAi {v : Int} {m : Nat} (hm1 : 1 ≤ m) (hm : m ≤ 12) (hv : v.natAbs < 10 ^ m) : Wl (Zl v) m = (v, true) := by
 have pb := p12 m hm
 have hmp : m ≠ 0 := by omega
 obtain ⟨m', rfl⟩ := Nat.exists_eq_succ_of_ne_zero hmp
 have hl := jEj m' v.natAbs hv
 have hp := jCn v.natAbs
 have hv' := jFk m' v.natAbs hv
 obtain ⟨c, r, e, c1, c2⟩ := jCt (u := v.natAbs) (by omega)
 by_cases g : v < 0
 ·have d : (Zl v).data.toList = 45 :: decDigits v.natAbs := by rw [Yv]; unfold itoa; rw [if_pos g]
  have hz : 0 < (Zl v).size := by rw [Xu, d]; simp
  have hn : jCj (Zl v) = true := by
   unfold jCj
   rw [decide_eq_true hz, Bool.true_and, beq_iff_eq]
   have := U4 (t := Zl v) (i := 0) (by rw [d]; simp)
   rw [show ((0 : Nat) : Int) = 0 from rfl] at this
   rw [this]
   simp [d]
  have ht : (Ko (Zl v) true).data.toList = decDigits v.natAbs := by unfold Ko; rw [if_pos rfl]; exact jEp d
  unfold Wl
  rw [hn, Xu, ht, if_neg (by omega), hv']
  unfold jAr
  simp only [if_true]
  rw [show -((v.natAbs : Nat) : Int) = v by omega, if_pos rfl]
 ·have d : (Zl v).data.toList = decDigits v.natAbs := by rw [Yv]; unfold itoa; rw [if_neg g, show v.toNat = v.natAbs by omega]
  have hn : jCj (Zl v) = false := by
   unfold jCj
   rw [Bool.and_eq_false_iff]
   right
   have := U4 (t := Zl v) (i := 0) (by rw [d]; omega)
   rw [show ((0 : Nat) : Int) = 0 from rfl] at this
   rw [this, beq_eq_false_iff_ne]
   have e2 : (Zl v).data.toList[0]'(by rw [d]; omega) = c := by simp [d, e]
   rw [e2]
   omega
  have ht : (Ko (Zl v) false).data.toList = decDigits v.natAbs := by unfold Ko; rw [if_neg (by simp)]; exact d
  unfold Wl
  rw [hn, Xu, ht, if_neg (by omega), hv']
  unfold jAr
  simp only [Bool.false_eq_true, if_false]
  rw [show ((v.natAbs : Nat) : Int) = v by omega, if_pos rfl]
theorem jBf {s : ByteArray} {m : Nat} (h : ∀ v : Int, v.natAbs < 10 ^ m → Zl v ≠ s) : Wl s m = (0, false) := by
 unfold Wl
 by_cases g : (Ko s (jCj s)).size < 1 ∨ (Ko s (jCj s)).size > m
 ·rw [if_pos g]
 ·rw [if_neg g]
  cases e : jAc 0 (Ko s (jCj s)).data.toList with
  | none => rfl
  | some v =>
   have hv := jG0 _ 0 v 0 e (by decide)
   rw [← Xu, Nat.zero_add] at hv
   have hv2 : v < 10 ^ m := Nat.lt_of_lt_of_le hv (Nat.pow_le_pow_right (by omega) (by omega))
   simp only [jAr]
   rw [if_neg]
   rw [jE7]
   refine h _ ?_
   split <;> omega
theorem jFr {v least most : Int} (h0 : -9223372036854775808 ≤ v) (h1 : v ≤ 9223372036854775807) (g0 : least ≤ v) (g1 : v ≤ most) (hs : (Zl v).size ≤ 1048576) : Xo.f (Zl v) least most = some (v, true) := by
 unfold Xo.f
 rw [if_pos (by omega), Yv, jEl h0 h1]
 simp only
 rw [if_neg (by omega), if_neg (by omega), if_pos trivial]
theorem jEd {s : ByteArray} {least most : Int} (hs : s.size ≤ 1048576) (h : ∀ v : Int, -9223372036854775808 ≤ v → v ≤ 9223372036854775807 → least ≤ v → v ≤ most → Zl v ≠ s) : Xo.f s least most = some (0, false) := by
 unfold Xo.f
 rw [if_pos (by omega)]
 cases e : atoiAll s.data.toList
 ·rename_i v
  have vb := Lib.atoiAll_bounds e
  simp only
  by_cases c1 : v < least
  ·rw [if_pos c1]
  ·rw [if_neg c1]
   by_cases c2 : v > most
   ·rw [if_pos c2]
   ·rw [if_neg c2, if_neg]
    rw [jE7]
    exact h v vb.1 vb.2 (by omega) (by omega)
 ·rfl
 ·rfl
noncomputable def Kw (s : ByteArray) : Int × Bool := Wl s 12
theorem jC0 (s : ByteArray) (hs : s.size ≤ 1048576) : Js.f s = some (Kw s) := by
 unfold Js.f Kw
 by_cases h : ∃ v : Int, v.natAbs < 10 ^ 12 ∧ Zl v = s
 ·obtain ⟨v, hv, rfl⟩ := h
  rw [jFr (by omega) (by omega) (by omega) (by omega) hs, jAi (by omega) (by omega) hv]
  rfl
 ·rw [jEd hs fun v _ _ h1 h2 e => h ⟨v, by omega, e⟩, jBf fun v hv e => h ⟨v, hv, e⟩]
  rfl
theorem jCv (s : ByteArray) (hs : s.size ≤ 1048576) : Ev (fun k => J3.f k s) (Kw s) := by
 unfold J3.f Kw
 exact Ev.bind (jEn s 12 (by omega) hs) (Ev.now _)
end Go.Proofs.YtckkfjdkaimmhaaGreatDoor.M
namespace Go.Proofs.YtckkfjdkaimmhaaGreatDoor.PX
open Go.RowKit Go.Proofs.YtckkfjdkaimmhaaGreatDoor.G Go.Proofs.YtckkfjdkaimmhaaGreatDoorW.PrintWords Go.Proofs.YtckkfjdkaimmhaaGreatDoorW.PrintLast Go.Proofs.YtckkfjdkaimmhaaGreatDoorW.PrintMore
attribute [local go_sem] max2_int min2_int Yi Yh Z4 Z7 Xk Xn   -- for this text's walks alone
set_option linter.unusedVariables false
set_option linter.unusedSimpArgs false
end Go.Proofs.YtckkfjdkaimmhaaGreatDoor.PX
namespace Go.Proofs.YtckkfjdkaimmhaaGreatDoor.M
open Go.RowKit Go.Proofs.YtckkfjdkaimmhaaGreatDoorW.PrintWords Go.Proofs.YtckkfjdkaimmhaaGreatDoor.PX
def Zx (t : ByteArray) (by_ : Int) (s : List ByteArray × Nat) (i : Nat) : List ByteArray × Nat := if i = t.size ∨ bt t (i : Int) = by_ then (s.1 ++ [t.extract s.2 i], i + 1) else s
def Zo (t : ByteArray) (by_ : Int) : List ByteArray := ((List.range' 0 (t.size + 1)).foldl (Zx t by_) ([], 0)).1
theorem Um {t : ByteArray} {by_ : Int} {s : List ByteArray × Nat} {i : Nat} (h : s.1.length ≤ i ∧ s.2 ≤ i) : (Zx t by_ s i).1.length ≤ i + 1 ∧ (Zx t by_ s i).2 ≤ i + 1 := by
 unfold Zx
 split
 ·simp only [List.length_append, List.length_singleton]; omega
 ·omega
theorem Kq (t : ByteArray) (by_ : Int) : (Zo t by_).length ≤ t.size + 1 := by
 have key : ∀ d i s, (s : List ByteArray × Nat).1.length ≤ i ∧ s.2 ≤ i → ((List.range' i d).foldl (Zx t by_) s).1.length ≤ i + d := by
  intro d
  induction d with
  | zero => intro i s h; exact h.1
  | succ d ih =>
   intro i s h
   rw [List.range'_succ, List.foldl_cons]
   have := ih (i + 1) _ (Um (t := t) (by_ := by_) h)
   omega
 have := key (t.size + 1) 0 ([], 0) ⟨Nat.le_refl _, Nat.le_refl _⟩
 unfold Zo
 omega
theorem jB5 (t : ByteArray) (by_ : Int) (ht : t.size ≤ 1048576) : Ev (fun k => Jf.f k t by_) (Zo t by_) := by
 unfold Jf.f
 have key := Vu (σ := List ByteArray × Nat) (ρ := List ByteArray) (lo := 0) (n := t.size + 1) (K := fun s _ => some s.1) (L := fun x s k => Jf.l0 k t by_ s.1 (s.2 : Int) x) (fun x s => s.1.length ≤ x ∧ s.2 ≤ x)
  (fun s x => .ok (Zx t by_ s x)) (fun s _ => ?_) (fun x _ hx s hs => ?_) (fun x _ hx s hs s' e => ?_) (by omega) ([], 0) ⟨Nat.le_refl _, Nat.le_refl _⟩
 ·rw [Ki, Nat.sub_zero] at key
  exact key _ (Ev.now _)
 ·refine Goes.step ?_
  simp only [Jf.l0]
  exact Goes.neg (by omega) (Goes.ok (K := fun s _ => some s.1) s)
 ·have cut : Goes (.ok (s.1 ++ [t.extract s.2 x], x + 1)) (fun (s : List ByteArray × Nat) k => Jf.l0 k t by_ s.1 (s.2 : Int) ((x + 1 : Nat) : Int))
    (fun k => if 0 ≤ (s.2 : Int) then (if (s.2 : Int) ≤ (x : Int) then (if s.1.length < 8796093022208 then (Jf.l0 k t by_ (s.1 ++ [t.extract (s.2 : Int).toNat (x : Int).toNat]) (wrap64 ((x : Int) + 1)) (wrap64 ((x : Int) + 1))) else none) else none) else none) := by
   rw [Jg (x := (x : Int) + 1) (by omega) (by omega), Int.toNat_natCast, Int.toNat_natCast]
   exact Goes.pos (by omega) (Goes.pos (by omega) (Goes.pos (by omega) (Goes.ok (K := fun (s : List ByteArray × Nat) k => Jf.l0 k t by_ s.1 (s.2 : Int) ((x + 1 : Nat) : Int)) (s.1 ++ [t.extract s.2 x], x + 1))))
  refine Goes.step ?_
  simp only [Jf.l0]
  refine Goes.pos (by omega) ?_
  unfold Zx
  by_cases e1 : x = t.size
  ·rw [if_pos (.inl e1)]
   exact Goes.pos (by omega) cut
  ·refine Goes.neg (by omega) (Goes.pos (by omega) (Goes.pos (by omega) ?_))
   by_cases e2 : bt t (x : Int) = by_
   ·rw [if_pos (.inr e2)]
    exact Goes.pos e2 cut
   ·rw [if_neg (fun h => h.elim e1 e2)]
    rw [Jg (x := (x : Int) + 1) (by omega) (by omega)]
    exact Goes.neg e2 (Goes.ok (K := fun (s : List ByteArray × Nat) k => Jf.l0 k t by_ s.1 (s.2 : Int) ((x + 1 : Nat) : Int)) s)
 ·cases e
  exact Um hs
theorem U6 (t : ByteArray) (by_ : Int) (ht : t.size ≤ 1048576) : Ev (fun k => Q6.f k t by_) (Zo t by_) := by
 unfold Q6.f
 have key := Vu (σ := List ByteArray × Nat) (ρ := List ByteArray) (lo := 0) (n := t.size + 1) (K := fun s _ => some s.1) (L := fun x s k => Q6.l0 k t by_ s.1 (s.2 : Int) x) (fun x s => s.1.length ≤ x ∧ s.2 ≤ x)
  (fun s x => .ok (Zx t by_ s x)) (fun s _ => ?_) (fun x _ hx s hs => ?_) (fun x _ hx s hs s' e => ?_) (by omega) ([], 0) ⟨Nat.le_refl _, Nat.le_refl _⟩
 ·rw [Ki, Nat.sub_zero] at key
  exact key _ (Ev.now _)
 ·refine Goes.step ?_
  simp only [Q6.l0]
  exact Goes.neg (by omega) (Goes.ok (K := fun s _ => some s.1) s)
 ·have cut : Goes (.ok (s.1 ++ [t.extract s.2 x], x + 1)) (fun (s : List ByteArray × Nat) k => Q6.l0 k t by_ s.1 (s.2 : Int) ((x + 1 : Nat) : Int))
    (fun k => if 0 ≤ (s.2 : Int) then (if (s.2 : Int) ≤ (x : Int) then (if s.1.length < 8796093022208 then (Q6.l0 k t by_ (s.1 ++ [t.extract (s.2 : Int).toNat (x : Int).toNat]) (wrap64 ((x : Int) + 1)) (wrap64 ((x : Int) + 1))) else none) else none) else none) := by
   rw [Jg (x := (x : Int) + 1) (by omega) (by omega), Int.toNat_natCast, Int.toNat_natCast]
   exact Goes.pos (by omega) (Goes.pos (by omega) (Goes.pos (by omega) (Goes.ok (K := fun (s : List ByteArray × Nat) k => Q6.l0 k t by_ s.1 (s.2 : Int) ((x + 1 : Nat) : Int)) (s.1 ++ [t.extract s.2 x], x + 1))))
  refine Goes.step ?_
  simp only [Q6.l0]
  refine Goes.pos (by omega) ?_
  unfold Zx
  by_cases e1 : x = t.size
  ·rw [if_pos (.inl e1)]
   exact Goes.pos (by omega) cut
  ·refine Goes.neg (by omega) (Goes.pos (by omega) (Goes.pos (by omega) ?_))
   by_cases e2 : bt t (x : Int) = by_
   ·rw [if_pos (.inr e2)]
    exact Goes.pos e2 cut
   ·rw [if_neg (fun h => h.elim e1 e2)]
    rw [Jg (x := (x : Int) + 1) (by omega) (by omega)]
    exact Goes.neg e2 (Goes.ok (K := fun (s : List ByteArray × Nat) k => Q6.l0 k t by_ s.1 (s.2 : Int) ((x + 1 : Nat) : Int)) s)
 ·cases e
  exact Um hs
end Go.Proofs.YtckkfjdkaimmhaaGreatDoor.M
namespace Go.Proofs.YtckkfjdkaimmhaaGreatDoor.PX
open Go.RowKit Go.Proofs.YtckkfjdkaimmhaaGreatDoor.G Go.Proofs.YtckkfjdkaimmhaaGreatDoorW.PrintWords Go.Proofs.YtckkfjdkaimmhaaGreatDoorW.PrintLast Go.Proofs.YtckkfjdkaimmhaaGreatDoorW.PrintMore
attribute [local go_sem] max2_int min2_int Yi Yh Z4 Z7 Xk Xn   -- for this text's walks alone
set_option linter.unusedVariables false
set_option linter.unusedSimpArgs false
end Go.Proofs.YtckkfjdkaimmhaaGreatDoor.PX
namespace Go.Proofs.YtckkfjdkaimmhaaGreatDoor.M
open Go.RowKit Go.Proofs.YtckkfjdkaimmhaaGreatDoorW.PrintWords Go.Proofs.YtckkfjdkaimmhaaGreatDoor.PX Go.Proofs.YtckkfjdkaimmhaaGreatDoor.G Go.Proofs.YtckkfjdkaimmhaaGreatDoorW.PrintMore
open Go.Lib (decDigits itoa)
theorem jD0 {s : ByteArray} {m : Nat} (hm1 : 1 ≤ m) (hm : m ≤ 12) (h : (Wl s m).2 = true) : ∃ v : Int, v.natAbs < 10 ^ m ∧ Zl v = s ∧ Wl s m = (v, true) := by
 by_cases g : ∃ v : Int, v.natAbs < 10 ^ m ∧ Zl v = s
 ·obtain ⟨v, hv, rfl⟩ := g
  exact ⟨v, hv, rfl, jAi hm1 hm hv⟩
 ·rw [jBf fun v hv e => g ⟨v, hv, e⟩] at h
  cases h
theorem jEr {t : ByteArray} {by_ : Int} {s : List ByteArray × Nat} {i : Nat} (h : ∀ x ∈ s.1, x.size ≤ t.size) : ∀ x ∈ (Zx t by_ s i).1, x.size ≤ t.size := by
 intro x hx
 unfold Zx at hx
 split at hx
 ·rw [List.mem_append, List.mem_singleton] at hx
  rcases hx with hx | rfl
  ·exact h x hx
  ·rw [ByteArray.size_extract]; omega
 ·exact h x hx
theorem Ur (t : ByteArray) (by_ : Int) : ∀ x ∈ Zo t by_, x.size ≤ t.size := by
 have key : ∀ (l : List Nat) (s : List ByteArray × Nat), (∀ x ∈ s.1, x.size ≤ t.size) → ∀ x ∈ (l.foldl (Zx t by_) s).1, x.size ≤ t.size := by
  intro l
  induction l with
  | nil => intro s h; exact h
  | cons i l ih => intro s h; rw [List.foldl_cons]; exact ih _ (jEr h)
 exact key _ ([], 0) (fun x hx => by cases hx)
theorem jB2 {l : List ByteArray} {i : Nat} (h : i < l.length) : Yr ByteArray.empty l (i : Int) = l[i] := by
 unfold Yr
 rw [Int.toNat_natCast, List.getD_eq_getElem?_getD, List.getElem?_eq_getElem h]
 rfl
theorem jGd {t : ByteArray} {by_ : Int} {i : Nat} (h : i < (Zo t by_).length) : (Yr ByteArray.empty (Zo t by_) (i : Int)).size ≤ t.size := by
 rw [jB2 h]
 exact Ur t by_ _ (List.getElem_mem _)
end Go.Proofs.YtckkfjdkaimmhaaGreatDoor.M
namespace Go.Proofs.YtckkfjdkaimmhaaGreatDoor.M
open Go.RowKit Go.Proofs.YtckkfjdkaimmhaaGreatDoorW.PrintWords Go.Proofs.YtckkfjdkaimmhaaGreatDoor.PX Go.Proofs.YtckkfjdkaimmhaaGreatDoor.G Go.Proofs.YtckkfjdkaimmhaaGreatDoorW.PrintMore
open Go.Lib (decDigits itoa index occAt)
theorem jCw (P : Nat → Prop) : ∀ n : Nat, (∀ q, q < n → ¬ P q) ∨ ∃ j, j < n ∧ P j ∧ ∀ q, q < j → ¬ P q := by
 intro n
 induction n with
 | zero => exact .inl fun q h => absurd h (Nat.not_lt_zero _)
 | succ n ih =>
  rcases ih with h | ⟨j, hj, hp, hq⟩
  ·by_cases g : P n
   ·exact .inr ⟨n, by omega, g, h⟩
   ·refine .inl fun q hq => ?_
    by_cases e : q = n
    ·subst e; exact g
    ·exact h q (by omega)
  ·exact .inr ⟨j, by omega, hp, hq⟩
section
variable (s : ByteArray) (b : Int)
theorem jHk (d : Nat) : ∀ (i : Nat) (out : List ByteArray) (fr : Nat), 1 ≤ d → i + d = s.size + 1 → (∀ j : Nat, i ≤ j → j < s.size → bt s (j : Int) ≠ b) → (List.range' i d).foldl (Zx s b) (out, fr) = (out ++ [s.extract fr s.size], s.size + 1) := by
 induction d with
 | zero => intro i out fr h; omega
 | succ d ih =>
  intro i out fr _ hi hn
  rw [List.range'_succ, List.foldl_cons]
  by_cases g : i = s.size
  ·have : d = 0 := by omega
   subst this
   unfold Zx
   rw [if_pos (Or.inl g), List.range'_zero, List.foldl_nil, g]
  ·have e : Zx s b (out, fr) i = (out, fr) := by
    unfold Zx
    rw [if_neg (fun h => h.elim g (hn i (Nat.le_refl _) (by omega)))]
   rw [e]
   exact ih (i + 1) out fr (by omega) (by omega) fun j h1 h2 => hn j (by omega) h2
theorem jGx (j : Nat) (hj : j < s.size) (hb : bt s (j : Int) = b) (d : Nat) : ∀ (i : Nat) (out : List ByteArray) (fr : Nat), i + d = s.size + 1 → i ≤ j → (∀ q : Nat, i ≤ q → q < j → bt s (q : Int) ≠ b) →
  (List.range' i d).foldl (Zx s b) (out, fr) = (List.range' (j + 1) (s.size - j)).foldl (Zx s b) (out ++ [s.extract fr j], j + 1) := by
 induction d with
 | zero => intro i out fr h; omega
 | succ d ih =>
  intro i out fr hi hij hn
  rw [List.range'_succ, List.foldl_cons]
  by_cases g : i = j
  ·subst g
   have e : Zx s b (out, fr) i = (out ++ [s.extract fr i], i + 1) := by
    unfold Zx
    rw [if_pos (Or.inr hb)]
   rw [e, show d = s.size - i by omega]
  ·have e : Zx s b (out, fr) i = (out, fr) := by
    unfold Zx
    rw [if_neg (fun h => h.elim (fun h => by omega) (hn i (Nat.le_refl _) (by omega)))]
   rw [e]
   exact ih (i + 1) out fr (by omega) (by omega) fun q h1 h2 => hn q (by omega) h2
theorem jCl : ((∀ q : Nat, q < s.size → bt s (q : Int) ≠ b) ∧ Zo s b = [s.extract 0 s.size]) ∨
  ∃ j : Nat, j < s.size ∧ bt s (j : Int) = b ∧ (∀ q : Nat, q < j → bt s (q : Int) ≠ b) ∧
   (((∀ q : Nat, j < q → q < s.size → bt s (q : Int) ≠ b) ∧ Zo s b = [s.extract 0 j, s.extract (j + 1) s.size]) ∨ ((∃ q : Nat, j < q ∧ q < s.size ∧ bt s (q : Int) = b) ∧ (Zo s b).length ≠ 2)) := by
 rcases jCw (fun q => bt s (q : Int) = b) s.size with h | ⟨j, hj, hp, hq⟩
 ·refine .inl ⟨h, ?_⟩
  unfold Zo
  rw [jHk s b (s.size + 1) 0 [] 0 (by omega) (by omega) fun j _ h2 => h j h2]
  rfl
 ·refine .inr ⟨j, hj, hp, hq, ?_⟩
  have e : Zo s b = ((List.range' (j + 1) (s.size - j)).foldl (Zx s b) ([s.extract 0 j], j + 1)).1 := by
   unfold Zo
   rw [jGx s b j hj hp (s.size + 1) 0 [] 0 (by omega) (by omega) fun q _ h => hq q h]
   rfl
  rcases jCw (fun q => j < q ∧ bt s (q : Int) = b) s.size with h | ⟨j2, hj2, ⟨hjj, hp2⟩, hq2⟩
  ·refine .inl ⟨fun q h1 h2 h3 => h q h2 ⟨h1, h3⟩, ?_⟩
   rw [e, jHk s b (s.size - j) (j + 1) _ _ (by omega) (by omega) fun q h1 h2 h3 => h q h2 ⟨by omega, h3⟩]
   rfl
  ·refine .inr ⟨⟨j2, hjj, hj2, hp2⟩, ?_⟩
   rw [e, jGx s b j2 hj2 hp2 (s.size - j) (j + 1) _ _ (by omega) (by omega) fun q h1 h2 h3 => hq2 q h2 ⟨by omega, h3⟩]
   have mono : ∀ (l : List Nat) (x : List ByteArray × Nat), x.1.length ≤ (l.foldl (Zx s b) x).1.length := by
    intro l
    induction l with
    | nil => intro x; exact Nat.le_refl _
    | cons i l ih =>
     intro x
     rw [List.foldl_cons]
     refine Nat.le_trans ?_ (ih _)
     unfold Zx
     split
     ·rw [List.length_append]; omega
     ·exact Nat.le_refl _
   rw [show s.size - j2 = (s.size - j2 - 1) + 1 by omega, List.range'_concat, List.foldl_append]
   simp only [List.foldl_cons, List.foldl_nil, Nat.one_mul]
   have m := mono (List.range' (j2 + 1) (s.size - j2 - 1)) ([s.extract 0 j] ++ [s.extract (j + 1) j2], j2 + 1)
   generalize (List.range' (j2 + 1) (s.size - j2 - 1)).foldl (Zx s b) ([s.extract 0 j] ++ [s.extract (j + 1) j2], j2 + 1) = X at m
   simp only [List.length_append, List.length_singleton] at m
   unfold Zx
   rw [if_pos (Or.inl (by omega)), List.length_append, List.length_singleton]
   omega
end
theorem V9 (s : ByteArray) (a b : Nat) : (s.extract a b).data.toList = (s.data.toList.drop a).take (b - a) := by
 rw [ByteArray.data_extract, Array.toList_extract]
theorem occ_one (l : List UInt8) (c : UInt8) (i : Nat) : occAt l [c] i = true ↔ ∃ h : i < l.length, l[i] = c := by
 unfold occAt
 by_cases h : i < l.length
 ·rw [List.drop_eq_getElem_cons h]
  simp only [List.isPrefixOf, Bool.and_true, beq_iff_eq]
  exact ⟨fun e => ⟨h, e.symm⟩, fun ⟨_, e⟩ => e.symm⟩
 ·rw [List.drop_of_length_le (by omega)]
  simp only [List.isPrefixOf, Bool.false_eq_true, false_iff]
  exact fun ⟨h', _⟩ => h h'
theorem jF1 {s : ByteArray} {q : Nat} (h : q < s.data.toList.length) : bt s (q : Int) = 44 ↔ s.data.toList[q] = 44 := by
 rw [U4 h]
 constructor
 ·intro e
  apply UInt8.toNat_inj.1
  show _ = 44
  omega
 ·intro e
  rw [e]
  rfl
theorem jAg {s : ByteArray} (h : ∀ q : Nat, q < s.size → bt s (q : Int) ≠ 44) : Lib.cut s.data.toList [44] = (s.data.toList, [], false) := by
 unfold Lib.cut
 rw [Lib.index_none, if_neg (by omega)]
 intro j _
 rw [Bool.eq_false_iff]
 intro e
 obtain ⟨hj, e⟩ := (occ_one _ _ _).1 e
 exact h j hj ((jF1 hj).2 e)
theorem jIt {s : ByteArray} {j : Nat} (hj : j < s.size) (hb : bt s (j : Int) = 44) (h : ∀ q : Nat, q < j → bt s (q : Int) ≠ 44) : Lib.cut s.data.toList [44] = (s.data.toList.take j, s.data.toList.drop (j + 1), true) := by
 unfold Lib.cut
 rw [Lib.index_first (i := j) (Nat.le_of_lt hj) ((occ_one _ _ _).2 ⟨hj, (jF1 hj).1 hb⟩) fun q hq => ?_, if_pos (by omega), Int.toNat_natCast]
 ·rfl
 ·rw [Bool.eq_false_iff]
  intro e
  obtain ⟨hj', e⟩ := (occ_one _ _ _).1 e
  exact h q hq ((jF1 hj').2 e)
theorem jGu {s : ByteArray} (h : (Kw s).2 = true) : 1 ≤ s.size ∧ ∀ q : Nat, q < s.size → bt s (q : Int) ≠ 44 := by
 obtain ⟨v, hv, rfl, _⟩ := jD0 (m := 12) (by omega) (by omega) h
 have hd := jB3 11 v.natAbs hv
 have hp := jCn v.natAbs
 have all : ∀ c ∈ itoa v, c ≠ 44 := by
  intro c hc e
  subst e
  unfold itoa at hc
  split at hc
  ·rw [List.mem_cons] at hc
   rcases hc with hc | hc
   ·cases hc
   ·have := (hd _ hc).1
    exact absurd this (by decide)
  ·rename_i g
   rw [show v.toNat = v.natAbs by omega] at hc
   have := (hd _ hc).1
   exact absurd this (by decide)
 refine ⟨?_, fun q hq e => ?_⟩
 ·rw [Xu, Yv]
  unfold itoa
  split
  ·rw [List.length_cons]; omega
  ·rename_i g
   rw [show v.toNat = v.natAbs by omega]; omega
 ·exact all _ (List.getElem_mem hq) ((jF1 hq).1 e)
theorem jH1 {s : ByteArray} {a q : Nat} (h : a + q < s.size) : bt (s.extract a s.size) (q : Int) = bt s ((a + q : Nat) : Int) := by
 have e := V9 s a s.size
 have hl : q < (s.extract a s.size).data.toList.length := by
  rw [e, List.length_take, List.length_drop]
  have : s.data.toList.length = s.size := rfl
  omega
 rw [U4 hl, U4 (t := s) (i := a + q) h]
 congr 2
 simp only [e, List.getElem_take, List.getElem_drop]
noncomputable def Vx (s : ByteArray) : Option IP :=
 if (Zo s 44).length = 2 ∧ (Kw (Yr ByteArray.empty (Zo s 44) 0)).2 = true ∧ (Kw (Yr ByteArray.empty (Zo s 44) 1)).2 = true then some ⟨(Kw (Yr ByteArray.empty (Zo s 44) 0)).1, (Kw (Yr ByteArray.empty (Zo s 44) 1)).1⟩ else none
theorem jGc {s : ByteArray} (hs : s.size ≤ 1048576) : ∃ x y f, strings_Cut.f s ⟨#[44]⟩ = some (x, y, f) ∧ x.size ≤ s.size ∧ y.size ≤ s.size ∧
  ((((Kw x).2 = true ∧ (Kw y).2 = true) ∧ Vx s = some ⟨(Kw x).1, (Kw y).1⟩) ∨ (¬ ((Kw x).2 = true ∧ (Kw y).2 = true) ∧ Vx s = none)) := by
 have f : strings_Cut.f s ⟨#[44]⟩ = some (⟨(Lib.cut s.data.toList [44]).1.toArray⟩, ⟨(Lib.cut s.data.toList [44]).2.1.toArray⟩, (Lib.cut s.data.toList [44]).2.2) := if_pos (by omega)
 rcases jCl s 44 with ⟨hn, e⟩ | ⟨j, hj, hb, hq, h⟩
 ·refine ⟨_, _, _, f, ?_, ?_, .inr ⟨?_, ?_⟩⟩
  ·rw [jAg hn]; exact Nat.le_refl _
  ·rw [jAg hn]; exact Nat.zero_le _
  ·rw [jAg hn]
   intro g
   have := (jGu g.2).1
   exact absurd (show 1 ≤ 0 from this) (by decide)
  ·unfold Vx
   rw [if_neg]
   rw [e]
   rintro ⟨g, _⟩
   cases g
 ·have c := jIt hj hb hq
  have ex : (⟨(s.data.toList.take j).toArray⟩ : ByteArray) = s.extract 0 j := by
   apply ByteArray.ext
   apply Array.ext'
   rw [V9]
   simp
  have ey : (⟨(s.data.toList.drop (j + 1)).toArray⟩ : ByteArray) = s.extract (j + 1) s.size := by
   apply ByteArray.ext
   apply Array.ext'
   rw [V9, List.take_of_length_le (by rw [List.length_drop]; exact Nat.le_refl _)]
  rw [c] at f
  simp only [ex, ey] at f
  refine ⟨_, _, _, f, by rw [ByteArray.size_extract]; omega, by rw [ByteArray.size_extract]; omega, ?_⟩
  rcases h with ⟨hn, e⟩ | ⟨⟨q, h1, h2, h3⟩, e⟩
  ·unfold Vx
   rw [e]
   by_cases g : (Kw (s.extract 0 j)).2 = true ∧ (Kw (s.extract (j + 1) s.size)).2 = true
   ·exact .inl ⟨g, if_pos ⟨rfl, g⟩⟩
   ·exact .inr ⟨g, if_neg fun h => g h.2⟩
  ·refine .inr ⟨fun g => ?_, ?_⟩
   ·have := (jGu g.2).2 (q - (j + 1)) (by rw [ByteArray.size_extract]; omega)
    rw [jH1 (by omega), show j + 1 + (q - (j + 1)) = q by omega] at this
    exact this h3
   ·unfold Vx
    rw [if_neg fun h => e h.1]
noncomputable def paL : List ByteArray → List IP → List IP × Bool
 | [], out => if Zn out = true then (out, true) else ([], false)
 | s :: r, out => match Vx s with
  | none => ([], false)
  | some p => paL r (out ++ [p])
theorem jFw (L : List ByteArray) : ∀ out, 8 ≤ out.length → paL L out = ([], false) := by
 induction L with
 | nil =>
  intro out h
  rw [paL, if_neg]
  intro g
  have := (Xd.1 g).1
  omega
 | cons s r ih =>
  intro out h
  rw [paL]
  cases Vx s with
  | none => rfl
  | some p => exact ih _ (by rw [List.length_append]; omega)
theorem jHe (L : List ByteArray) : ∀ out, (paL L out).1.length ≤ 7 := by
 induction L with
 | nil =>
  intro out
  rw [paL]
  split
  ·rename_i g
   exact (Xd.1 g).1.2
  ·exact Nat.zero_le _
 | cons s r ih =>
  intro out
  rw [paL]
  cases Vx s with
  | none => exact Nat.zero_le _
  | some p => exact ih _
noncomputable def jG9 (t : ByteArray) : List IP × Bool := paL (Zo t 32) []
theorem jA7 (L : List ByteArray) (hz : ∀ x ∈ L, x.size ≤ 1048576) (hL : L.length ≤ 2000000) (d : Nat) : ∀ (i : Nat) (out : List IP), i + d = L.length → out.length ≤ i → Ev (fun k => Ji.l0 k out L (i : Int)) (paL (L.drop i) out) := by
 induction d with
 | zero =>
  intro i out hi ho
  refine Jh ?_
  simp only [Ji.l0]
  rw [List.drop_of_length_le (by omega), paL]
  refine Jb (by omega) (Ev.bind (Xx out (by omega)) ?_)
  by_cases g : Zn out = true
  ·exact Zr (Qr g (Ev.now _)) (if_pos g).symm
  ·exact Zr (Jb g (Ev.now _)) (if_neg g).symm
 | succ d ih =>
  intro i out hi ho
  have hil : i < L.length := by omega
  have hs := hz L[i] (List.getElem_mem _)
  refine Jh ?_
  simp only [Ji.l0]
  rw [List.drop_eq_getElem_cons hil, paL, jB2 hil, Jg (x := (i : Int) + 1) (by omega) (by omega)]
  refine Qr (by omega) (Qr (by omega) (Ev.bind (U6 L[i] 44 hs) ?_))
  by_cases g : (Zo L[i] 44).length = 2
  ·have z0 := jGd (t := L[i]) (by_ := 44) (i := 0) (by omega)
   have z1 := jGd (t := L[i]) (by_ := 44) (i := 1) (by omega)
   refine Qr (by omega) (Qr (by omega) (Ev.bind (jCv _ (Nat.le_trans z0 hs)) (Qr (by omega) (Ev.bind (jCv _ (Nat.le_trans z1 hs)) ?_))))
   by_cases g0 : (Kw (Yr ByteArray.empty (Zo L[i] 44) 0)).2 = true
   ·refine Qr g0 ?_
    by_cases g1 : (Kw (Yr ByteArray.empty (Zo L[i] 44) 1)).2 = true
    ·have e : Vx L[i] = some ⟨(Kw (Yr ByteArray.empty (Zo L[i] 44) 0)).1, (Kw (Yr ByteArray.empty (Zo L[i] 44) 1)).1⟩ := if_pos ⟨g, g0, g1⟩
     rw [e]
     exact Qr g1 (Qr (by omega) (ih (i + 1) _ (by omega) (by rw [List.length_append, List.length_singleton]; omega)))
    ·have e : Vx L[i] = none := if_neg fun h => g1 h.2.2
     rw [e]
     exact Jb g1 (Ev.now _)
   ·have e : Vx L[i] = none := if_neg fun h => g0 h.2.1
    rw [e]
    exact Jb g0 (Ev.now _)
  ·have e : Vx L[i] = none := if_neg fun h => g h.1
   rw [e]
   exact Jb (by omega) (Ev.now _)
theorem jA0 (L : List ByteArray) (hz : ∀ x ∈ L, x.size ≤ 1048576) (hL : L.length ≤ 2000000) (d : Nat) : ∀ (i : Nat) (out : List IP), i + d = L.length → out.length ≤ 7 → Ev (fun k => Jd.l0 k out L (L.length : Int) (i : Int)) (paL (L.drop i) out) := by
 induction d with
 | zero =>
  intro i out hi ho
  refine Jh ?_
  simp only [Jd.l0]
  rw [List.drop_of_length_le (by omega), paL]
  refine Jb (by omega) (Ev.bind (Y2 out (by omega)) ?_)
  by_cases g : Zn out = true
  ·exact Zr (Qr g (Ev.now _)) (if_pos g).symm
  ·exact Zr (Jb g (Ev.now _)) (if_neg g).symm
 | succ d ih =>
  intro i out hi ho
  have hil : i < L.length := by omega
  have hs := hz L[i] (List.getElem_mem _)
  obtain ⟨x, y, f, ef, zx, zy, h⟩ := jGc hs
  refine Jh ?_
  simp only [Jd.l0]
  rw [List.drop_eq_getElem_cons hil, paL, jB2 hil, Jg (x := (i : Int) + 1) (by omega) (by omega)]
  refine Qr (by omega) (Qr (by omega) (Qr (by omega) (Jl ef (Jl (jC0 x (Nat.le_trans zx hs)) (Jl (jC0 y (Nat.le_trans zy hs)) ?_)))))
  rcases h with ⟨⟨g0, g1⟩, e⟩ | ⟨g, e⟩
  ·rw [e]
   show Ev _ (paL (L.drop (i + 1)) (out ++ [(⟨(Kw x).1, (Kw y).1⟩ : IP)]))
   refine Qr g0 (Qr g1 ?_)
   by_cases o : out.length = 7
   ·rw [show paL (L.drop (i + 1)) (out ++ [(⟨(Kw x).1, (Kw y).1⟩ : IP)]) = ([], false) from jFw _ _ (by rw [List.length_append, List.length_singleton]; omega)]
    exact Qr (by omega) (Ev.now _)
   ·exact Jb (by omega) (Qr (by omega) (ih (i + 1) _ (by omega) (by rw [List.length_append, List.length_singleton]; omega)))
  ·rw [e]
   by_cases g0 : (Kw x).2 = true
   ·exact Qr g0 (Jb (fun g1 => g ⟨g0, g1⟩) (Ev.now _))
   ·exact Jb g0 (Ev.now _)
theorem jEk (t : ByteArray) (ht : t.size ≤ 1048576) : Ev (fun k => Ji.f k t) (jG9 t) := by
 unfold Ji.f jG9
 have hl := Kq t 32
 exact Ev.bind (U6 t 32 ht) (jA7 _ (fun x hx => Nat.le_trans (Ur t 32 x hx) ht) (by omega) (Zo t 32).length 0 [] (by omega) (Nat.le_refl _))
theorem jAy (t : ByteArray) (ht : t.size ≤ 1048576) : Ev (fun k => Jd.f k t) (jG9 t) := by
 unfold Jd.f jG9
 have hl := Kq t 32
 exact Ev.bind (jB5 t 32 ht) (jA0 _ (fun x hx => Nat.le_trans (Ur t 32 x hx) ht) (by omega) (Zo t 32).length 0 [] (by omega) (Nat.zero_le _))
end Go.Proofs.YtckkfjdkaimmhaaGreatDoor.M
namespace Go.Proofs.YtckkfjdkaimmhaaGreatDoor.M
open Go.RowKit Go.Proofs.YtckkfjdkaimmhaaGreatDoorW.PrintWords Go.Proofs.YtckkfjdkaimmhaaGreatDoor.PX Go.Proofs.YtckkfjdkaimmhaaGreatDoor.G Go.Proofs.YtckkfjdkaimmhaaGreatDoorW.PrintMore
open Go.Lib (decDigits itoa)
theorem jE3 {s : ByteArray} {q : Nat} {b : UInt8} (h : q < s.data.toList.length) : bt s (q : Int) = (b.toNat : Int) ↔ s.data.toList[q] = b := by
 rw [U4 h]
 constructor
 ·intro e
  apply UInt8.toNat_inj.1
  omega
 ·intro e
  rw [e]
theorem jCz (x y : List UInt8) (r : List (List UInt8)) (b : UInt8) : Lib.join (x :: y :: r) [b] = x ++ b :: Lib.join (y :: r) [b] := by
 rw [Lib.join_cons, Lib.join_cons]
 simp [Lib.joinTail]
theorem jAf (s : ByteArray) (b : UInt8) : ∀ (L : List ByteArray) (P : List UInt8) (out : List ByteArray), L ≠ [] → (∀ x ∈ L, ∀ c ∈ x.data.toList, c ≠ b) → s.data.toList = P ++ Lib.join (L.map (·.data.toList)) [b] →
  ((List.range' P.length (s.size + 1 - P.length)).foldl (Zx s (b.toNat : Int)) (out, P.length)).1 = out ++ L := by
 intro L
 induction L with
 | nil => intro P out h; exact absurd rfl h
 | cons x r ih =>
  intro P out _ hb hs
  have hlen : s.size = s.data.toList.length := rfl
  cases r with
  | nil =>
   rw [List.map_cons, List.map_nil, Lib.join_one] at hs
   have hsz : s.size = P.length + x.data.toList.length := by rw [hlen, hs, List.length_append]
   rw [jHk s _ _ P.length out P.length (by omega) (by omega) (fun j h1 h2 e => ?_)]
   ·have ex : s.extract P.length s.size = x := by
     apply ByteArray.ext
     apply Array.ext'
     rw [V9, hs, List.drop_left, List.take_of_length_le (by omega)]
    rw [ex]
   ·have hj : j < s.data.toList.length := h2
    have e2 := (jE3 hj).1 e
    have e3 : s.data.toList[j] = x.data.toList[j - P.length]'(by omega) := by
     simp only [hs]
     rw [List.getElem_append_right h1]
    exact hb x List.mem_cons_self _ (List.getElem_mem _) (e3.symm.trans e2)
  | cons y r' =>
   replace hs : s.data.toList = P ++ (x.data.toList ++ b :: Lib.join ((y :: r').map (·.data.toList)) [b]) := hs.trans (congrArg (P ++ ·) (jCz _ _ _ b))
   have hsz : s.size = P.length + (x.data.toList.length + (1 + (Lib.join ((y :: r').map (·.data.toList)) [b]).length)) := by
    rw [hlen, hs, List.length_append, List.length_append, List.length_cons]
    omega
   have hj : P.length + x.data.toList.length < s.size := by omega
   have hbj : bt s ((P.length + x.data.toList.length : Nat) : Int) = (b.toNat : Int) := by
    refine (jE3 (show P.length + x.data.toList.length < s.data.toList.length from hj)).2 ?_
    simp only [hs]
    rw [List.getElem_append_right (by omega), List.getElem_append_right (by omega)]
    simp
   rw [jGx s _ _ hj hbj _ P.length out P.length (by omega) (by omega) (fun q h1 h2 e => ?_)]
   ·have ex : s.extract P.length (P.length + x.data.toList.length) = x := by
     apply ByteArray.ext
     apply Array.ext'
     rw [V9, hs, List.drop_left, show P.length + x.data.toList.length - P.length = x.data.toList.length by omega, List.take_left]
    have h := ih (P ++ x.data.toList ++ [b]) (out ++ [x]) (by simp) (fun z hz => hb z (List.mem_cons_of_mem _ hz)) (by rw [hs]; simp)
    rw [show (P ++ x.data.toList ++ [b]).length = P.length + x.data.toList.length + 1 by rw [List.length_append, List.length_append]; rfl, show s.size + 1 - (P.length + x.data.toList.length + 1) = s.size - (P.length + x.data.toList.length) by omega] at h
    rw [ex, h, List.append_assoc]
    rfl
   ·have hq : q < s.data.toList.length := by omega
    have e2 := (jE3 hq).1 e
    have e3 : s.data.toList[q] = x.data.toList[q - P.length]'(by omega) := by
     simp only [hs]
     rw [List.getElem_append_right h1, List.getElem_append_left (by omega)]
    exact hb x List.mem_cons_self _ (List.getElem_mem _) (e3.symm.trans e2)
theorem jAb (b : UInt8) (L : List ByteArray) (hL : L ≠ []) (h : ∀ x ∈ L, ∀ c ∈ x.data.toList, c ≠ b) : Zo (K8 L ⟨#[b]⟩) (b.toNat : Int) = L :=
 (jAf (K8 L ⟨#[b]⟩) b L [] [] hL h rfl).trans (List.nil_append L)
theorem jDb {n : Int} (h : n.natAbs < 10 ^ 12) : ∀ c ∈ (Zl n).data.toList, c = 45 ∨ (48 ≤ c.toNat ∧ c.toNat ≤ 57) := by
 have hd := jB3 11 n.natAbs h
 intro c hc
 rw [Yv] at hc
 unfold itoa at hc
 split at hc
 ·rw [List.mem_cons] at hc
  rcases hc with rfl | hc
  ·exact .inl rfl
  ·exact .inr (hd _ hc)
 ·rename_i g
  rw [show n.toNat = n.natAbs by omega] at hc
  exact .inr (hd _ hc)
theorem jAj {n : Int} (h : n.natAbs < 10 ^ 12) (b : UInt8) (hb : b.toNat < 45) : ∀ c ∈ (Zl n).data.toList, c ≠ b := by
 rintro c hc rfl
 rcases jDb h _ hc with rfl | hc
 ·exact absurd hb (by decide)
 ·omega
theorem jGn (p : IP) : ptT p = ⟨(itoa p.f0 ++ 44 :: itoa p.f1).toArray⟩ := by
 unfold ptT
 rw [show Zl p.f0 = ⟨(itoa p.f0).toArray⟩ from rfl, show Zl p.f1 = ⟨(itoa p.f1).toArray⟩ from rfl, show (⟨#[44]⟩ : ByteArray) = ⟨([44] : List UInt8).toArray⟩ from rfl, Ul, Ul, List.append_assoc]
 rfl
theorem jEf {p : IP} (h : Jw 50 p = true) : p.f0.natAbs < 10 ^ 12 ∧ p.f1.natAbs < 10 ^ 12 := by
 have := jC1 h
 omega
theorem jIa {p : IP} (h : Jw 50 p = true) : ∀ c ∈ (ptT p).data.toList, c ≠ 32 := by
 have hn := jEf h
 intro c hc
 rw [jGn] at hc
 have hc' : c ∈ itoa p.f0 ++ 44 :: itoa p.f1 := hc
 rw [List.mem_append, List.mem_cons] at hc'
 rcases hc' with hc | rfl | hc
 ·exact jAj hn.1 32 (by decide) c hc
 ·decide
 ·exact jAj hn.2 32 (by decide) c hc
theorem jGt {v : Int} (h : v.natAbs < 10 ^ 12) : Kw (Zl v) = (v, true) := jAi (by omega) (by omega) h
theorem jFq {p : IP} (h : Jw 50 p = true) : Vx (ptT p) = some p := by
 have hn := jEf h
 have e : Zo (ptT p) 44 = [Zl p.f0, Zl p.f1] := by
  have hj : ptT p = K8 [Zl p.f0, Zl p.f1] ⟨#[44]⟩ := by
   rw [jGn]
   unfold K8
   rw [show ([Zl p.f0, Zl p.f1].map (·.data.toList)) = [itoa p.f0, itoa p.f1] from rfl, show ((⟨#[44]⟩ : ByteArray).data.toList) = [44] from rfl, jCz, Lib.join_one]
  rw [hj]
  refine jAb 44 _ (by simp) fun x hx => ?_
  rcases List.mem_cons.1 hx with rfl | hx
  ·exact jAj hn.1 44 (by decide)
  ·rcases List.mem_cons.1 hx with rfl | hx
   ·exact jAj hn.2 44 (by decide)
   ·cases hx
 unfold Vx
 rw [e]
 have e0 : Yr ByteArray.empty [Zl p.f0, Zl p.f1] 0 = Zl p.f0 := rfl
 have e1 : Yr ByteArray.empty [Zl p.f0, Zl p.f1] 1 = Zl p.f1 := rfl
 rw [e0, e1, jGt hn.1, jGt hn.2, if_pos ⟨rfl, rfl, rfl⟩]
theorem jDw (l : List IP) : ∀ out : List IP, (∀ p ∈ l, Jw 50 p = true) → paL (l.map ptT) out = if Zn (out ++ l) = true then (out ++ l, true) else ([], false) := by
 induction l with
 | nil =>
  intro out _
  rw [List.map_nil, paL, List.append_nil]
 | cons p l ih =>
  intro out h
  rw [List.map_cons, paL, jFq (h p List.mem_cons_self)]
  show paL (l.map ptT) (out ++ [p]) = _
  rw [ih _ fun q hq => h q (List.mem_cons_of_mem _ hq), List.append_assoc]
  rfl
theorem jEh (l : List IP) : jG9 (jFg l) = if Zn l = true then (l, true) else ([], false) := by
 unfold jG9 jFg
 by_cases h : Zn l = true
 ·rw [if_pos h, if_pos h]
  obtain ⟨h1, h2, _⟩ := Xd.1 h
  have e : Zo (K8 (l.map ptT) ⟨#[32]⟩) 32 = l.map ptT := by
   refine jAb 32 _ (fun e => ?_) fun x hx => ?_
   ·rw [List.map_eq_nil_iff] at e
    rw [e] at h1
    exact absurd h1.1 (by decide)
   ·obtain ⟨p, hp, rfl⟩ := List.mem_map.1 hx
    exact jIa (h2 p hp)
  rw [e, jDw l [] h2, List.nil_append, if_pos h]
 ·rw [if_neg h, if_neg h]
  have e : ∀ b, Zo (⟨#[]⟩ : ByteArray) b = [⟨#[]⟩] := fun b => rfl
  have hp : Vx (⟨#[]⟩ : ByteArray) = none := by
   unfold Vx
   rw [if_neg]
   rw [e]
   rintro ⟨g, _⟩
   cases g
  rw [e, paL, hp]
end Go.Proofs.YtckkfjdkaimmhaaGreatDoor.M
namespace Go.Proofs.YtckkfjdkaimmhaaGreatDoor.M
open Go.RowKit Go.Proofs.YtckkfjdkaimmhaaGreatDoorW.PrintWords Go.Proofs.YtckkfjdkaimmhaaGreatDoor.PX Go.Proofs.YtckkfjdkaimmhaaGreatDoor.G
theorem jBy {α β : Type} (f : α → β) (l : List α) : ∀ s : List β, l.foldl (fun s a => s ++ [f a]) s = s ++ l.map f := by
 induction l with
 | nil => intro s; simp
 | cons x l ih => intro s; rw [List.foldl_cons, ih, List.map_cons, List.append_assoc]; rfl
def J2 (k : Int) (p : IP) : IP := ⟨p.f0, p.f1 + k * p.f0⟩
theorem jCo {k : Int} {p : IP} (hp : Jw 50 p = true) (hk : -100 ≤ k ∧ k ≤ 100) : wrap64 (p.f1 + wrap64 (k * p.f0)) = p.f1 + k * p.f0 := by
 obtain ⟨⟨h1, h2⟩, h3, h4⟩ := Vm.1 hp
 have m := jEv (x := k) (y := p.f0) (by omega) (by omega) (by omega) (by omega)
 rw [Jg (x := k * p.f0) (by omega) (by omega)]
 exact Jg (by omega) (by omega)
def Zt (l : List IP) (k : Int) : List IP × Bool := if Zn l = true ∧ (-100 ≤ k ∧ k ≤ 100) ∧ (l.map (J2 k)).all (Jw 50) = true then (l.map (J2 k), true) else ([], false)
theorem jC7 (l : List IP) (k : Int) : (Zt l k).1.length ≤ l.length := by
 unfold Zt
 split <;> simp
theorem jDe (l : List IP) (k : Int) (hk : -9223372036854775808 ≤ k ∧ k ≤ 9223372036854775807) (hl : l.length ≤ 10000000) : Ev (fun q => Qv.f q l k) (Zt l k) := by
 unfold Qv.f
 have no : ¬ (Zn l = true ∧ (-100 ≤ k ∧ k ≤ 100) ∧ (l.map (J2 k)).all (Jw 50) = true) → Ev (fun q => Qv.j0 q l k true) (Zt l k) := fun h => by
  refine Jh ?_
  simp only [Qv.j0]
  refine Qr (by trivial) (Zr (Ev.now _) ?_)
  unfold Zt
  rw [if_neg h]
 refine Ev.bind (Y2 l hl) ?_
 by_cases ha : Zn l = true
 ·have far : Yg.f k 100 = some (!(decide (-100 ≤ k) && decide (k ≤ 100))) := by
   unfold Yg.f
   rw [Jg (by omega) (by omega)]
   by_cases h : k < -100
   ·rw [if_pos h, decide_eq_false (by omega)]; rfl
   ·rw [if_neg h, decide_eq_true (show -100 ≤ k by omega)]
    by_cases h' : k > 100
    ·rw [decide_eq_true h', decide_eq_false (by omega)]; rfl
    ·rw [decide_eq_false h', decide_eq_true (by omega)]; rfl
  refine Qr ha (Jl far ?_)
  by_cases hk' : -100 ≤ k ∧ k ≤ 100
  ·rw [show (decide (-100 ≤ k) && decide (k ≤ 100)) = true by simp; omega]
   refine Jh ?_
   simp only [Qv.j0]
   refine Jb (by decide) ?_
   have key := Vu (σ := List IP) (ρ := List IP × Bool) (lo := 0) (n := l.length) (K := fun x _ => (Jy.f 50 x).bind fun t => if t = true then some (x, true) else some ([], false)) (L := fun i x q => Qv.l0 q k x l (l.length : Int) i)
    (fun i x => x.length = i) (fun x i => .ok (x ++ [J2 k (pt l i)])) (fun x hx => ?_) (fun i _ hi x hx => ?_) (fun i _ hi x hx x' e => ?_) (by omega) [] rfl
   ·rw [Ki, jBy, List.nil_append] at key
    have em : (List.range' 0 (l.length - 0)).map (fun i => J2 k (pt l i)) = l.map (J2 k) := by
     rw [Nat.sub_zero, ← List.range_eq_range']
     refine List.ext_getElem (by simp) fun i h1 h2 => ?_
     rw [List.length_map, List.length_range] at h1
     simp only [List.getElem_map, List.getElem_range, Vy h1]
    rw [em] at key
    refine key _ ?_
    refine Jl (U8 50 (by decide) (by decide) _) ?_
    by_cases hf : (l.map (J2 k)).all (Jw 50) = true
    ·rw [show Zt l k = _ from if_pos ⟨ha, hk', hf⟩]
     exact Qr hf (Ev.now _)
    ·rw [show Zt l k = _ from if_neg (fun e => hf e.2.2)]
     exact Jb hf (Ev.now _)
   ·refine Goes.step ?_
    simp only [Qv.l0]
    exact Goes.neg (by omega) (Goes.ok (K := fun x (_ : Nat) => (Jy.f 50 x).bind fun t => if t = true then some (x, true) else some ([], false)) x)
   ·refine Goes.step ?_
    simp only [Qv.l0]
    have hp : Jw 50 (pt l i) = true := by
     rw [Vy hi]
     exact (Xd.1 ha).2.1 _ (List.getElem_mem hi)
    refine Goes.pos (by omega) (Goes.pos (by omega) (Goes.pos (by omega) (Goes.pos (by omega) ?_)))
    rw [Jg (x := (i : Int) + 1) (by omega) (by omega)]
    have es : (⟨(Qb l (i : Int)).f0, wrap64 ((Qb l (i : Int)).f1 + wrap64 (k * (Qb l (i : Int)).f0))⟩ : IP) = J2 k (pt l i) := by
     have := jCo hp hk'
     unfold pt at this
     rw [this]
     rfl
    rw [es]
    exact Goes.ok (K := fun x q => Qv.l0 q k x l (l.length : Int) ((i + 1 : Nat) : Int)) _
   ·cases e
    rw [List.length_append, hx]; rfl
  ·rw [show (decide (-100 ≤ k) && decide (k ≤ 100)) = false by simp; omega]
   exact no (fun e => hk' e.2.1)
 ·exact Jb ha (no (fun e => ha e.1))
theorem jDj (l : List IP) (k : Int) (hl : l.length ≤ 10000000) : Ev (fun q => Qm.f q l k) (Zt l k) := by
 unfold Qm.f
 have no : ¬ (Zn l = true ∧ (-100 ≤ k ∧ k ≤ 100) ∧ (l.map (J2 k)).all (Jw 50) = true) → Ev (fun q => Qm.j0 q l k true) (Zt l k) := fun h => by
  refine Jh ?_
  simp only [Qm.j0]
  refine Qr (by trivial) (Zr (Ev.now _) ?_)
  unfold Zt
  rw [if_neg h]
 refine Ev.bind (Xx l hl) ?_
 by_cases ha : Zn l = true
 ·refine Qr ha (Jl (jAe _ _ _) ?_)
  by_cases hk' : -100 ≤ k ∧ k ≤ 100
  ·rw [show (decide (-100 ≤ k) && decide (k ≤ 100)) = true by simp; omega]
   refine Jh ?_
   simp only [Qm.j0]
   refine Jb (by decide) ?_
   have key := Vu (σ := List IP) (ρ := List IP × Bool) (lo := 0) (n := l.length) (K := fun x _ => some (x, true)) (L := fun i x q => Qm.l0 q l k x i)
    (fun i x => x = (l.take i).map (J2 k) ∧ x.all (Jw 50) = true) (fun x i => if Jw 50 (J2 k (pt l i)) then .ok (x ++ [J2 k (pt l i)]) else .error ([], false)) (fun x hx => ?_) (fun i _ hi x hx => ?_) (fun i _ hi x hx x' e => ?_) (by omega) [] ⟨rfl, rfl⟩
   ·refine key.out (fun v hv => ?_) (fun s hs => ?_)
    ·have fe : ∀ (n : Nat) x, (List.range' n (l.length - n)).foldlM (fun x i => if Jw 50 (J2 k (pt l i)) then (.ok (x ++ [J2 k (pt l i)]) : Except (List IP × Bool) (List IP)) else .error ([], false)) x = .error v → v = ([], false) ∧ ∃ i, i < l.length ∧ Jw 50 (J2 k (pt l i)) = false := by
      intro n
      generalize hd : l.length - n = d
      induction d generalizing n with
      | zero => intro x e; cases e
      | succ d ih =>
       intro x e
       rw [List.range'_succ, List.foldlM_cons] at e
       cases g : Jw 50 (J2 k (pt l n)) with
       | true => rw [g, if_pos rfl] at e; exact ih (n + 1) (by omega) _ e
       | false => rw [g, if_neg (by decide)] at e; cases e; exact ⟨rfl, n, by omega, g⟩
     obtain ⟨rfl, i, hi, hf⟩ := fe 0 [] hv
     unfold Zt
     rw [if_neg]
     rintro ⟨_, _, h⟩
     have := List.all_eq_true.1 h (J2 k l[i]) (List.mem_map.2 ⟨_, List.getElem_mem hi, rfl⟩)
     rw [Vy hi, this] at hf
     cases hf
    ·have fo : ∀ (n : Nat) x, n ≤ l.length → (x = (l.take n).map (J2 k) ∧ x.all (Jw 50) = true) → (List.range' n (l.length - n)).foldlM (fun x i => if Jw 50 (J2 k (pt l i)) then (.ok (x ++ [J2 k (pt l i)]) : Except (List IP × Bool) (List IP)) else .error ([], false)) x = .ok s → s = l.map (J2 k) ∧ s.all (Jw 50) = true := by
      intro n
      generalize hd : l.length - n = d
      induction d generalizing n with
      | zero =>
       intro x hn hx e
       cases e
       rw [List.take_of_length_le (by omega)] at hx
       exact hx
      | succ d ih =>
       intro x hn hx e
       rw [List.range'_succ, List.foldlM_cons] at e
       cases g : Jw 50 (J2 k (pt l n)) with
       | true =>
        rw [g, if_pos rfl] at e
        refine ih (n + 1) (by omega) _ (by omega) ⟨?_, ?_⟩ e
        ·rw [List.take_succ_eq_append_getElem (by omega), List.map_append, hx.1, Vy (by omega)]
         rfl
        ·rw [List.all_append, hx.2]
         simp [g]
       | false => rw [g, if_neg (by decide)] at e; cases e
     obtain ⟨rfl, hf⟩ := fo 0 [] (by omega) ⟨rfl, rfl⟩ hs
     unfold Zt
     rw [if_pos ⟨ha, hk', hf⟩]
     exact Ev.now _
   ·refine Goes.step ?_
    simp only [Qm.l0]
    exact Goes.neg (by omega) (Goes.ok (K := fun x (_ : Nat) => some (x, true)) x)
   ·refine Goes.step ?_
    simp only [Qm.l0]
    have hp : Jw 50 (pt l i) = true := by
     rw [Vy hi]
     exact (Xd.1 ha).2.1 _ (List.getElem_mem hi)
    have ew : wrap64 ((Qb l (i : Int)).f1 + wrap64 (k * (Qb l (i : Int)).f0)) = (J2 k (pt l i)).f1 := jCo hp hk'
    have hx' : x.length = i := by rw [hx.1, List.length_map, List.length_take]; omega
    rw [ew, Jg (x := (i : Int) + 1) (by omega) (by omega)]
    refine Goes.pos (by omega) (Goes.pos (by omega) (Goes.call (Vp (J2 k (pt l i)) 50 (by decide) (by decide)) ?_))
    cases g : Jw 50 (J2 k (pt l i)) with
    | true =>
     refine Goes.pos rfl (Goes.pos (by omega) ?_)
     rw [if_pos rfl]
     exact Goes.ok (K := fun x q => Qm.l0 q l k x ((i + 1 : Nat) : Int)) _
    | false =>
     rw [if_neg (by decide)]
     exact Goes.neg (by decide) (Goes.ret _)
   ·cases g : Jw 50 (J2 k (pt l i)) with
    | true =>
     rw [g, if_pos rfl] at e
     cases e
     refine ⟨?_, ?_⟩
     ·rw [List.take_succ_eq_append_getElem (by omega), List.map_append, hx.1, Vy (by omega)]
      rfl
     ·rw [List.all_append, hx.2]
      simp [g]
    | false => rw [g, if_neg (by decide)] at e; cases e
  ·rw [show (decide (-100 ≤ k) && decide (k ≤ 100)) = false by simp; omega]
   exact no (fun e => hk' e.2.1)
 ·exact Jb ha (no (fun e => ha e.1))
end Go.Proofs.YtckkfjdkaimmhaaGreatDoor.M
namespace Go.Proofs.YtckkfjdkaimmhaaGreatDoor.M
open Go.RowKit Go.Sort Go.Proofs.YtckkfjdkaimmhaaGreatDoorW.PrintWords Go.Proofs.YtckkfjdkaimmhaaGreatDoor.PX Go.Proofs.YtckkfjdkaimmhaaGreatDoor.G
def leP (p q : IP) : Prop := ltOf Y8 q p = false
theorem jAn (p q : IP) : leP p q ↔ (p.f0 < q.f0 ∨ p.f0 = q.f0 ∧ p.f1 ≤ q.f1) := Uj q p
theorem jBu {p q : IP} (h : leP p q) (h' : leP q p) : p = q := by
 rw [jAn] at h h'
 cases p; cases q
 simp only [S48.mk.injEq] at *
 omega
theorem jA6 {p q r : IP} (h : leP p q) (h' : leP q r) : leP p r := by
 rw [jAn] at *
 omega
theorem jAa (l : List IP) : (Vb l).Perm l := by
 have h := (V7 l).1
 have hs := h.1
 have h2 := h.2.2
 rw [Array.extract_eq_self_of_le (by simp at hs ⊢; omega), Array.extract_eq_self_of_le (Nat.le_refl _)] at h2
 simpa using h2
theorem Ue (l : List IP) : (Vb l).Pairwise leP := by
 have h := (V7 l).2
 have hs := K9 l
 rw [List.pairwise_iff_getElem]
 intro i j hi hj hij
 have h1 := h i j (Nat.zero_le _) hij (by simp <;> omega)
 rw [getElem!_pos _ j (by simpa using hj), getElem!_pos _ i (by simpa using hi)] at h1
 simpa [leP] using h1
def Yt (p : IP) (out : List IP) : Nat → Nat
 | 0 => 0
 | k + 1 => if ltOf Y8 p (pt out k) = true then Yt p out k else k + 1
theorem jA2 (p : IP) (out : List IP) : ∀ k, Yt p out k ≤ k
 | 0 => Nat.le_refl _
 | k + 1 => by
  simp only [Yt]
  split
  ·exact Nat.le_succ_of_le (jA2 p out k)
  ·exact Nat.le_refl _
theorem Uc (p : IP) (out : List IP) : ∀ k j, Yt p out k ≤ j → j < k → ltOf Y8 p (pt out j) = true
 | 0, j, _, h => absurd h (Nat.not_lt_zero _)
 | k + 1, j, h, h' => by
  simp only [Yt] at h
  split at h
  ·rename_i hl
   rcases Nat.lt_or_ge j k with hj | hj
   ·exact Uc p out k j h hj
   ·obtain rfl : j = k := by omega
    exact hl
  ·omega
theorem Kb (p : IP) (out : List IP) : ∀ k j, Yt p out k = j + 1 → ltOf Y8 p (pt out j) = false
 | 0, j, h => by cases h
 | k + 1, j, h => by
  simp only [Yt] at h
  split at h
  ·exact Kb p out k j h
  ·rename_i hl
   obtain rfl : k = j := by omega
   simpa using hl
def jBw (out : List IP) (p : IP) : List IP := out.take (Yt p out out.length) ++ p :: out.drop (Yt p out out.length)
theorem jBm (out : List IP) (p : IP) : (jBw out p).Perm (p :: out) := by
 unfold jBw
 refine List.perm_middle.trans ?_
 rw [List.take_append_drop]
theorem jCi {out : List IP} (p : IP) (h : out.Pairwise leP) : (jBw out p).Pairwise leP := by
 have hp := jA2 p out out.length
 have ha := Uc p out out.length
 have hb := Kb p out out.length
 unfold jBw
 generalize Yt p out out.length = k at hp ha hb
 have hget := List.pairwise_iff_getElem.1 h
 have h1 : ∀ a ∈ out.take k, leP a p := by
  intro a hm
  obtain ⟨i, hi, rfl⟩ := List.getElem_of_mem hm
  rw [List.length_take] at hi
  rw [List.getElem_take]
  obtain ⟨k', rfl⟩ : ∃ k', k = k' + 1 := ⟨k - 1, by omega⟩
  have h2 := hb k' rfl
  rw [Vy (by omega)] at h2
  rcases Nat.lt_or_ge i k' with hik | hik
  ·exact jA6 (hget i k' (by omega) (by omega) hik) h2
  ·obtain rfl : i = k' := by omega
   exact h2
 have h2 : ∀ b ∈ out.drop k, leP p b := by
  intro b hm
  obtain ⟨i, hi, rfl⟩ := List.getElem_of_mem hm
  rw [List.length_drop] at hi
  rw [List.getElem_drop]
  have h3 := ha (k + i) (by omega) (by omega)
  rw [Vy (by omega), jHn] at h3
  rw [jAn]
  omega
 rw [List.pairwise_append, List.pairwise_cons]
 refine ⟨h.sublist (List.take_sublist _ _), ⟨h2, h.sublist (List.drop_sublist _ _)⟩, fun a hm b hm' => ?_⟩
 rcases List.mem_cons.1 hm' with rfl | hm'
 ·exact h1 a hm
 ·exact jA6 (h1 a hm) (h2 b hm')
theorem jJc (l : List IP) : ∀ out : List IP, out.Pairwise leP → (l.foldl jBw out).Pairwise leP ∧ (l.foldl jBw out).Perm (out ++ l) := by
 induction l with
 | nil => intro out h; exact ⟨h, by rw [List.append_nil]; exact List.Perm.refl _⟩
 | cons p l ih =>
  intro out h
  obtain ⟨h1, h2⟩ := ih (jBw out p) (jCi p h)
  exact ⟨h1, h2.trans (((jBm out p).append_right l).trans List.perm_middle.symm)⟩
theorem jDo (l : List IP) : l.foldl jBw [] = Vb l := by
 obtain ⟨h1, h2⟩ := jJc l [] List.Pairwise.nil
 exact List.Perm.eq_of_pairwise (fun a b _ _ => jBu) h1 (Ue l) (h2.trans (jAa l).symm)
def Y9 (l : List IP) : List IP := if Zn l = true then Vb l else []
theorem jBc (l : List IP) : (Y9 l).length ≤ l.length := by
 unfold Y9
 split
 ·rw [K9]; exact Nat.le_refl _
 ·exact Nat.zero_le _
theorem jD8 (l : List IP) (hl : l.length ≤ 10000000) : Zg.f l = some (Y9 l) := by
 have h := Y2 l hl
 unfold Zg.f Y9
 by_cases ha : Zn l = true
 ·rw [ha] at h
  obtain ⟨k, hk⟩ := h
  have hi := (Xd.1 ha).1
  rw [if_pos ⟨k, hk k (Nat.le_refl _)⟩, if_pos (by omega), if_pos ha]
 ·rw [Bool.not_eq_true] at ha
  rw [ha] at h
  obtain ⟨k, hk⟩ := h
  have hno : ¬ ∃ k, Qf.f k l = some true := by
   rintro ⟨k', hk'⟩
   have hup : ∀ m, Qf.f (k' + m) l = some true := by
    intro m
    induction m with
    | zero => exact hk'
    | succ m ih => exact Qf.mono l (k' + m) _ ih
   have h1 : Qf.f (k' + k) l = some false := hk (k' + k) (Nat.le_add_left _ _)
   rw [hup k] at h1
   cases h1
  rw [if_neg hno, if_pos ⟨k, hk k (Nat.le_refl _)⟩, if_neg (by rw [ha]; decide)]
theorem jF4 (p q : IP) : Zu.f p.f0 p.f1 q.f0 q.f1 = some (ltOf Y8 p q) := by
 unfold Zu.f
 by_cases h : ltOf Y8 p q = true
 ·rw [h]
  rw [jHn] at h
  by_cases h0 : p.f0 < q.f0
  ·rw [if_pos h0]
  ·rw [if_neg h0, if_pos (by omega), decide_eq_true (by omega)]
 ·rw [Bool.not_eq_true] at h
  rw [h]
  rw [Uj] at h
  rw [if_neg (by omega)]
  by_cases h0 : p.f0 = q.f0
  ·rw [if_pos h0, decide_eq_false (by omega)]
  ·rw [if_neg h0]
theorem jA9 (l : List IP) (out : List IP) (i : Nat) (hi : i < l.length) (ho : out.length ≤ 10000000) (r : List IP) (hr : Ev (fun q => Qg.l0 q l (jBw out (pt l i)) (wrap64 ((i : Int) + 1))) r) :
  ∀ k : Nat, k ≤ out.length → Yt (pt l i) out k = Yt (pt l i) out out.length → Ev (fun q => Qg.l1 q l out (i : Int) (k : Int)) r := by
 intro k
 induction k with
 | zero =>
  intro hk he
  refine Jh ?_
  simp only [Qg.l1]
  refine Jb (by omega) (Jl rfl (Qr (by omega) (Qr (by omega) (Jl rfl (Qr (by simp <;> omega) (Jl rfl (Jl rfl (Qr (by omega) (Qr (by omega) (Qr (by simp <;> omega) (Jl rfl (Qr (by simp <;> omega) ?_))))))))))))
  have e : out.take (((0 : Nat) : Int)).toNat ++ [(⟨(Qb l (i : Int)).f0, (Qb l (i : Int)).f1⟩ : IP)] ++ (([] : List IP) ++ out.drop (((0 : Nat) : Int)).toNat) = jBw out (pt l i) := by
   unfold jBw
   rw [← he]
   simp [Yt, pt]
  rw [e]
  exact hr
 | succ k ih =>
  intro hk he
  refine Jh ?_
  simp only [Qg.l1]
  rw [Jg (x := ((k + 1 : Nat) : Int) - 1) (by omega) (by omega), show ((k + 1 : Nat) : Int) - 1 = (k : Int) by omega]
  refine Qr (by omega) (Qr (by omega) (Qr (by omega) (Qr (by omega) (Qr (by omega) (Jl (jF4 (pt l i) (pt out k)) ?_)))))
  by_cases h : ltOf Y8 (pt l i) (pt out k) = true
  ·refine Qr h (ih (by omega) ?_)
   rw [← he]
   simp only [Yt, if_pos h]
  ·refine Jb h (Jl rfl (Qr (by omega) (Qr (by omega) (Jl rfl (Qr (by simp <;> omega) (Jl rfl (Jl rfl (Qr (by simp <;> omega) (Jl rfl (Qr (by simp <;> omega) ?_))))))))))
   have e : out.take (((k + 1 : Nat) : Int)).toNat ++ [(⟨(Qb l (i : Int)).f0, (Qb l (i : Int)).f1⟩ : IP)] ++ (([] : List IP) ++ out.drop (((k + 1 : Nat) : Int)).toNat) = jBw out (pt l i) := by
    unfold jBw
    rw [← he, show Yt (pt l i) out (k + 1) = k + 1 from by simp only [Yt, if_neg h]]
    simp [pt]
   rw [e]
   exact hr
theorem jFz (out : List IP) (p : IP) : (jBw out p).length = out.length + 1 := by
 rw [(jBm out p).length_eq]; rfl
theorem Wp (l : List IP) (hl : l.length ≤ 10000000) (ha : Zn l = true) : ∀ (d i : Nat) (out : List IP), i + d = l.length → out.length = i → Ev (fun q => Qg.l0 q l out (i : Int)) ((l.drop i).foldl jBw out) := by
 intro d
 induction d with
 | zero =>
  intro i out hi ho
  refine Jh ?_
  simp only [Qg.l0]
  refine Jb (by omega) (Jh ?_)
  simp only [Qg.j1]
  refine Jb (by decide) (Zr (Ev.now _) ?_)
  rw [List.drop_of_length_le (by omega)]
  rfl
 | succ d ih =>
  intro i out hi ho
  refine Jh ?_
  simp only [Qg.l0]
  refine Qr (by omega) (Ev.bind (Xx l hl) (Jh ?_))
  simp only [Qg.j1]
  refine Qr ha ?_
  refine jA9 l out i (by omega) (by omega) _ ?_ out.length (Nat.le_refl _) rfl
  rw [Jg (by omega) (by omega), show (i : Int) + 1 = ((i + 1 : Nat) : Int) by omega]
  have h1 := ih (i + 1) (jBw out (pt l i)) (by omega) (by rw [jFz, ho])
  rw [List.drop_eq_getElem_cons (by omega), List.foldl_cons, ← Vy (by omega)]
  exact h1
theorem jDt (l : List IP) (hl : l.length ≤ 10000000) : Ev (fun q => Qg.f q l) (Y9 l) := by
 unfold Qg.f Y9
 by_cases ha : Zn l = true
 ·rw [if_pos ha, ← jDo]
  exact Wp l hl ha l.length 0 [] (by omega) rfl
 ·rw [if_neg ha]
  refine Jh ?_
  simp only [Qg.l0]
  by_cases h : (0 : Int) < (l.length : Int)
  ·refine Qr h (Ev.bind (Xx l hl) (Jh ?_))
   simp only [Qg.j1]
   exact Jb ha (Ev.now _)
  ·refine Jb h (Jh ?_)
   simp only [Qg.j1]
   exact Jb (by decide) (Ev.now _)
end Go.Proofs.YtckkfjdkaimmhaaGreatDoor.M
