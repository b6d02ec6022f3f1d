/- A part of proofs about signs and points: what some functions answer, and that their calls answer so. No condition. -/
import Derived.Test.YtckkfjdkaimmhaaProg
import Derived.Laws.Bits128
import Derived.Test.YtckkfjdkaimmhaaV1
import Derived.Test.YtckkfjdkaimmhaaBmgepnm1
import Derived.Test.YtckkfjdkaimmhaaBmgepnm2
import Derived.Test.YtckkfjdkaimmhaaBmgepnm3
import Derived.Test.YtckkfjdkaimmhaaBmgepnm4
set_option linter.unusedVariables false
set_option linter.unusedSimpArgs false
namespace Go.Proofs.Ytckkfjdkaimmhaa.PX
open Go.RowKit Go.Proofs.Ytckkfjdkaimmhaa.G Go.Proofs.YtckkfjdkaimmhaaW.PrintWords Go.Proofs.YtckkfjdkaimmhaaW.PrintLast Go.Proofs.YtckkfjdkaimmhaaW.PrintMore
attribute [local go_sem] max2_int min2_int Yd Yg Xh Xf Xq Xp   -- for this text's walks alone
set_option linter.unusedVariables false
set_option linter.unusedSimpArgs false
mutual
def Qd.j0 : Nat → List Int → Int → Int → List (List Int) → Int → List Int → List (List Int) → Bool → Int → ByteArray → Int → ByteArray → Int → ByteArray → Option (Bool)
 | 0, _, _, _, _, _, _, _, _, _, _, _, _, _, _ => none
 | k + 1, x4, x6, x7, x8, aN, aQ, aT, x82, aD, aG, aA, aC, aH, aI => if x82 = true then (some false) else ((Xe.f k aA aC x6 x7).bind fun aJ => (if aJ ≥ 0 then ((Xe.f k aA aC x6 x7).bind fun aK => ((Xe.f k aA aC x7 x6).bind fun aM => (Qd.j1 k x4 x8 aN aQ aT ((wrap64 (aK + aM)) != (wrap64 (aA - 2))) aD aG aH aI))) else (Qd.j1 k x4 x8 aN aQ aT false aD aG aH aI)))
def Qd.j1 : Nat → List Int → List (List Int) → Int → List Int → List (List Int) → Bool → Int → ByteArray → Int → ByteArray → Option (Bool)
 | 0, _, _, _, _, _, _, _, _, _, _ => none
 | k + 1, x4, x8, aI, aM, aK, x102, aA, aC, aD, aG => if x102 = true then (some false) else ((Jb.f k aD aG).bind fun aJ => (if aJ = true then (if aI ≥ 1 then (if aI < aD then ((Jw.f k aD aG).bind fun aH => (if 0 ≤ (wrap64 (aI - 1)) then (if (wrap64 (aI - 1)) < (aH.length : Int) then (Qd.j2 k x4 x8 aK ((aM.length : Int) != (rd aH (wrap64 (aI - 1)))) aA aC) else (none)) else (none))) else (Qd.j2 k x4 x8 aK false aA aC)) else (Qd.j2 k x4 x8 aK false aA aC)) else (Qd.j2 k x4 x8 aK false aA aC)))
def Qd.j2 : Nat → List Int → List (List Int) → List (List Int) → Bool → Int → ByteArray → Option (Bool)
 | 0, _, _, _, _, _, _ => none
 | k + 1, x4, x8, aJ, aI, aA, aC => if aI = true then (some false) else ((Jb.f k aA aC).bind fun aD => (if aD = true then (if (x4.length : Int) = (wrap64 (aA - 1)) then ((X0.f k x4).bind fun aG => (if aG = (wrap64 (aA * (wrap64 (aA - 1)))) then (if 0 < (x4.length : Int) then ((Va.f k aA aC).bind fun aH => (if (rd x4 0) = aH then (Qd.j3 k x4 ((aJ.length : Int) == 0) aA aC) else (Qd.j3 k x4 true aA aC))) else (none)) else (Qd.j3 k x4 true aA aC))) else (Qd.j3 k x4 true aA aC)) else (if (x4.length : Int) = 0 then (some ((x8.length : Int) == 0)) else (some false))))
def Qd.j3 : Nat → List Int → Bool → Int → ByteArray → Option (Bool)
 | 0, _, _, _, _ => none
 | k + 1, x4, aD, aA, aC => if aD = true then (some false) else (Qd.l0 k x4 0 aA aC)
def Qd.l0 : Nat → List Int → Int → Int → ByteArray → Option (Bool)
 | 0, _, _, _, _ => none
 | k + 1, x4, aD, aA, aC => if aD < (x4.length : Int) then (if 0 ≤ aD then (if 0 ≤ (wrap64 ((wrap64 ((x4.length : Int) - 1)) - aD)) then (if (wrap64 ((wrap64 ((x4.length : Int) - 1)) - aD)) < (x4.length : Int) then (if (rd x4 aD) = (rd x4 (wrap64 ((wrap64 ((x4.length : Int) - 1)) - aD))) then (Qd.l0 k x4 (wrap64 (aD + 1)) aA aC) else (some false)) else (none)) else (none)) else (none)) else ((Kr.f aA).bind fun aG => ((Je.f k aA aC).bind fun aH => ((Yr.f k aA aC).bind fun aI => (some ((wrap64 ((wrap64 (3 * aG)) - aH)) == aI)))))
end
def Qd.f (k : Nat) (l0 : List Int) : Option (Bool) := (Ur.f l0).bind fun aK => (if aK = true then (some true) else ((Yl.f k l0).bind fun aC => ((J5.f k aC.1 aC.2).bind fun aG => ((Zg.f k l0).bind fun aA => ((Jk.f k aC.1 aC.2).bind fun aH => ((Ym.f k l0).bind fun aD => ((J2.f k aD.1 aD.2.1 aD.2.2).bind fun aI => ((Q5.f k aC.1 aC.2).bind fun aJ => ((Jw.f k aC.1 aC.2).bind fun aM => ((Ze.f k aG aM).bind fun aN => (if aN = true then ((Xe.f k aA.1 aA.2.1 aA.2.2.1 aA.2.2.2).bind fun aQ => ((Yx.f k aA.1 aA.2.1 aA.2.2.1 aA.2.2.2).bind fun aT => (if aQ = aT then ((Q7.f k aC.1 aC.2).bind fun aU => ((Zx.f k aH aU).bind fun aV => (if aV = true then ((Zb.f k aD.1 aD.2.1 aD.2.2).bind fun aW => ((Ze.f k aI aW).bind fun aX => (if aX = true then ((Qi.f k aC.1 aC.2).bind fun aY => ((Zx.f k aJ aY).bind fun aZ => (if aZ = true then ((Je.f k aC.1 aC.2).bind fun bA => ((Qv.f k aC.1 aC.2).bind fun bB => (Qd.j0 k aG aA.2.2.1 aA.2.2.2 aH aD.2.2 aI aJ (bA != bB) aC.1 aC.2 aA.1 aA.2.1 aD.1 aD.2.1))) else (Qd.j0 k aG aA.2.2.1 aA.2.2.2 aH aD.2.2 aI aJ true aC.1 aC.2 aA.1 aA.2.1 aD.1 aD.2.1)))) else (Qd.j0 k aG aA.2.2.1 aA.2.2.2 aH aD.2.2 aI aJ true aC.1 aC.2 aA.1 aA.2.1 aD.1 aD.2.1)))) else (Qd.j0 k aG aA.2.2.1 aA.2.2.2 aH aD.2.2 aI aJ true aC.1 aC.2 aA.1 aA.2.1 aD.1 aD.2.1)))) else (Qd.j0 k aG aA.2.2.1 aA.2.2.2 aH aD.2.2 aI aJ true aC.1 aC.2 aA.1 aA.2.1 aD.1 aD.2.1)))) else (Qd.j0 k aG aA.2.2.1 aA.2.2.2 aH aD.2.2 aI aJ true aC.1 aC.2 aA.1 aA.2.1 aD.1 aD.2.1))))))))))))
def Qd.T10 : Bool × List (List Nat × List Nat) := (true, [([], []), ([], []), ([1], [1]), ([0, 2, 2], [0, 2]), ([3], [3]), ([4, 3], [4]), ([5], [5]), ([5], [5]), ([5], [5]), ([6, 7, 8, 5, 5], [5, 6, 7, 8]), ([5], [5]), ([5], [5]), ([5], [5]), ([10, 11, 12, 9, 5], [5, 10, 11, 12]), ([9, 13, 5], [5, 9, 13]), ([5, 14], [5, 14]), ([15, 13], [15]), ([16], [16]), ([16], [16]), ([18, 16, 16], [16, 18]), ([17, 19, 19, 16], [16, 17, 19]), ([20, 16], [16, 20]), ([16, 21], [16, 21]), ([22, 20], [22]), ([23], [23]), ([23], [23]), ([23], [23]), ([25, 26, 23, 23], [23, 25, 26]), ([24, 27, 27, 23], [23, 24, 27]), ([28, 23], [23, 28]), ([23, 29], [23, 29]), ([30, 28], [30]), ([31], [31]), ([31], [31]), ([33, 31, 31], [31, 33]), ([32, 34, 34, 31], [31, 32, 34]), ([35, 31], [31, 35]), ([31, 36], [31, 36]), ([37, 35], [37]), ([38], [38]), ([39, 38, 38], [38, 39]), ([38], [38]), ([41, 40, 38], [38, 41]), ([40, 42, 38], [38, 40, 42]), ([38, 43], [38, 43])])
def Qd.B10 : List Nat := [0, 0, 2, 7, 15, 31, 63, 63, 63, 511, 63, 63, 63, 8191, 16383, 32767, 65535, 131071, 131071, 393215, 1048575, 2097151, 4194303, 8388607, 16777215, 16777215, 16777215, 117440511, 268435455, 536870911, 1073741823, 2147483647, 4294967295, 4294967295, 12884901887, 34359738367, 68719476735, 137438953471, 274877906943, 549755813887, 1099511627775, 549755813887, 4398046511103, 8796093022207, 17592186044415]
theorem Qd.tab10 : Uc .any (opsOf Try.f6 10) = Qd.T10 := by kernel_rfl
theorem Qd.bits10 : X6 Qd.T10.2 Qd.B10 = true := by kernel_rfl
def Qd.T12 : Bool × List (List Nat × List Nat) := (true, [([], []), ([], []), ([], []), ([0, 1, 2], [0, 1, 2]), ([3], [3]), ([4, 3], [4]), ([5], [5]), ([5], [5]), ([5], [5]), ([6, 7, 8, 5, 5], [5, 6, 7, 8]), ([5], [5]), ([5], [5]), ([5], [5]), ([10, 11, 12, 9, 5], [5, 10, 11, 12]), ([9, 13, 5], [5, 9, 13]), ([5], [5]), ([15, 5], [5, 15]), ([16, 5], [5, 16]), ([14, 17, 5], [5, 14, 17]), ([5, 18], [5, 18])])
def Qd.B12 : List Nat := [0, 0, 0, 7, 15, 31, 63, 63, 63, 511, 63, 63, 63, 8191, 16383, 63, 32831, 98367, 262143, 524287]
theorem Qd.tab12 : Uc .any (opsOf Try.f6 12) = Qd.T12 := by kernel_rfl
theorem Qd.bits12 : X6 Qd.T12.2 Qd.B12 = true := by kernel_rfl
def Qd.T18 : Bool × List (List Nat × List Nat) := (true, [([], []), ([0], [0]), ([], []), ([2], [2]), ([3], [3]), ([1, 4], [1, 4]), ([5], [5]), ([6], [6]), ([7, 6, 6], [6, 7]), ([6], [6]), ([9, 6], [6, 9]), ([6], [6]), ([11, 6], [6, 11]), ([12, 6], [6, 12]), ([10, 13, 6], [6, 10, 13]), ([8, 14, 6], [6, 8, 14]), ([6, 15], [6, 15]), ([16, 8], [16]), ([17], [17]), ([18, 17], [17, 18]), ([19, 17], [17, 19]), ([17], [17]), ([21, 17, 17], [17, 21]), ([20, 22, 17], [17, 20, 22]), ([17, 23], [17, 23]), ([24, 22], [24]), ([25], [25]), ([26, 25], [25, 26]), ([27, 25], [25, 27]), ([25, 28], [25, 28])])
def Qd.B18 : List Nat := [0, 1, 0, 4, 12, 31, 63, 127, 255, 127, 639, 127, 2175, 6271, 15999, 32767, 65535, 131071, 262143, 524287, 1048575, 262143, 2359295, 8388607, 16777215, 33554431, 67108863, 134217727, 268435455, 536870911]
theorem Qd.tab18 : Uc .any (opsOf Try.f6 18) = Qd.T18 := by kernel_rfl
theorem Qd.bits18 : X6 Qd.T18.2 Qd.B18 = true := by kernel_rfl
def Qd.T23 : Bool × List (List Nat × List Nat) := (true, [([], []), ([], []), ([0, 1], [0, 1]), ([2], [2]), ([], []), ([], []), ([5], [5]), ([6], [6]), ([], []), ([7, 8], [7, 8]), ([4, 9], [4, 9]), ([10], [10]), ([3, 11], [3, 11])])
def Qd.B23 : List Nat := [0, 0, 3, 7, 0, 0, 32, 96, 0, 480, 1008, 2032, 4095]
theorem Qd.tab23 : Uc .any (opsOf Try.f6 23) = Qd.T23 := by kernel_rfl
theorem Qd.bits23 : X6 Qd.T23.2 Qd.B23 = true := by kernel_rfl
def Qd.T25 : Bool × List (List Nat × List Nat) := (true, [([], []), ([0], [0]), ([1], [1]), ([2], [2]), ([], []), ([4, 2], [4]), ([3, 5], [3, 5]), ([], []), ([7, 5], [7]), ([6, 8], [6, 8]), ([9, 8, 0, 1, 2, 3, 4, 5, 6, 7, 8, 9], [9])])
def Qd.B25 : List Nat := [0, 1, 3, 7, 0, 23, 63, 0, 183, 511, 1023]
theorem Qd.tab25 : Uc .any (opsOf Try.f6 25) = Qd.T25 := by kernel_rfl
theorem Qd.bits25 : X6 Qd.T25.2 Qd.B25 = true := by kernel_rfl
theorem Qd.j0_no (k : Nat) (y0 : List Int) (y1 : Int) (y2 : Int) (y3 : List (List Int)) (y4 : Int) (y5 : List Int) (y6 : List (List Int)) (y8 : Int) (y9 : ByteArray) (aA : Int) (aC : ByteArray) (aD : Int) (y13 : ByteArray) (r : Bool) (h_ : r = true) : ¬ Qd.j0 k y0 y1 y2 y3 y4 y5 y6 true y8 y9 aA aC aD y13 = some r := by
 subst h_
 cases k <;> simp [Qd.j0]
theorem Qd.j3_no (k : Nat) (y0 : List Int) (y2 : Int) (y3 : ByteArray) (r : Bool) (h_ : r = true) : ¬ Qd.j3 k y0 true y2 y3 = some r := by
 subst h_
 cases k <;> simp [Qd.j3]
set_option maxHeartbeats 8000000 in
set_option maxRecDepth 100000 in
theorem Qd.calls (k : Nat) (A0 : Option Addr) (c0 : Nat) (l0 : List Int) (r : Bool) (w : World) (hr0 : Kd.C (Kd.int .u8) w A0 l0.length l0) (hc0 : l0.length ≤ c0) (h : Qd.f k l0 = some r) (hr_ : r = true) :
  Calls Try.prog 6 #[.slice A0 l0.length c0] w fun e w' => e = .returned (.bool r) ∧ Below w.heap.size w w' := by
 have qX := Try.underlying25
 have gW := Qa.mk hr0
 have gX := Qa.mk hc0
 clear hr0 hc0
 have HB := Qa.mk (Below.refl w.heap.size w)
 have H := h
 unfold Qd.f at H
 clear h
 obtain ⟨gY, A2, H⟩ := zO H
 by_cases c3 : gY = true
 ·subst c3
  replace H := (if_pos rfl).symm.trans H
  obtain rfl := Option.some.inj H
  go_enter Try.func6, Try.ntmps6
  go_wp2_with (first | ((with_reducible refine Qb (f := 7) rfl ?_); refine zD (some 15) Try.func7 #[.slice A0 l0.length c0] ((Ur.calls _ _ l0 true _ ?bI ?bJ A2.out).mono ?_); (case bI => exact zc gW.out); (case bJ => exact gX.out); rintro e w' ⟨rfl, ⟨nd, rfl⟩⟩; refine ⟨_, rfl, ?_⟩))
  go_ret
  exact ⟨zE, zB⟩
 replace c3 := Bool.eq_false_iff.mpr c3
 subst c3
 replace H := (if_neg zFf).symm.trans H
 obtain ⟨⟨aM, aQ⟩, A4, H⟩ := zO H
 dsimp only at H
 obtain ⟨aX, A5, H⟩ := zO H
 obtain ⟨⟨aW, aY, bM, bN⟩, A6, H⟩ := zO H
 dsimp only at H
 obtain ⟨bU, A7, H⟩ := zO H
 obtain ⟨⟨bD, bE, bR⟩, A8, H⟩ := zO H
 dsimp only at H
 obtain ⟨bW, A9, H⟩ := zO H
 obtain ⟨bS, qY, H⟩ := zO H
 have gL := Qa.mk H
 clear H
 go_enter Try.func6, Try.ntmps6
 go_upto_region 10 with (first | ((with_reducible refine Qb (f := 7) rfl ?_); refine zD (some 15) Try.func7 #[.slice A0 l0.length c0] ((Ur.calls _ _ l0 false _ ?bI ?bJ A2.out).mono ?_); (case bI => exact zc gW.out); (case bJ => exact gX.out); rintro e w' ⟨rfl, ⟨nd, rfl⟩⟩; refine ⟨_, rfl, ?_⟩) | ((with_reducible refine Qb (f := 64) rfl ?_); refine zD (some 17) Try.func64 #[.slice A0 l0.length c0] ((Yl.calls k _ _ l0 aM aQ _ ?bI ?bJ A4.out).mono ?_); (case bI => exact zc gW.out); (case bJ => exact gX.out); rintro e sW ⟨rfl, hb⟩; refine ⟨_, rfl, ?_⟩; replace HB := zX hb; (try clear hb)) | ((with_reducible refine Qf (N := 3) rfl ?_); (try (refine Xa (by rfl) ?_; dsimp only)); refine zBx (N := 3) #[.int .i64 0, .string (⟨#[]⟩ : ByteArray)] 25 ?_; intro bK hg sZ hbox hb; have aA := Qa.mk (hbox); have lY := zS hg; have aG := zS hg; replace HB := zX hb; clear hb hbox hg; obtain ⟨kT, kU, kV, kW⟩ := zq2 aA.out) | ((with_reducible refine Qb (f := 65) rfl ?_); refine zD (some 19) Try.func65 _ ((J5.calls k aM aQ aX _ A5.out).mono ?_); rintro e tC ⟨bV, rfl, ho0, hb⟩; refine ⟨_, rfl, ?_⟩; have aI := Qa.mk (Kd.R_lower ho0 (Ql (zG aG.out))); replace aA := Qa.mk (Zj (g := bK) (o := .cells #[.int .i64 aM, .string aQ] 25 (0, 0)) (zk0 aA.out) hb); replace HB := zX1 aG.out hb; (try clear hb); (try clear ho0)) | ((with_reducible refine Qb (f := 66) rfl ?_); refine zD (some 22) Try.func66 #[.slice A0 l0.length c0] ((Zg.calls k _ _ l0 aW aY bM bN _ ?bI ?bJ A6.out).mono ?_); (case bI => exact zc (Kd.C_below gW.out HB.out)); (case bJ => exact gX.out); rintro e w16 ⟨rfl, hb⟩; refine ⟨_, rfl, ?_⟩; replace aI := zW aI.out hb; replace aA := zV aA.out hb; replace HB := zX1 aG.out hb; (try clear hb)) | ((with_reducible refine Qf (N := 5) rfl ?_); (try (refine Xa (by rfl) ?_; dsimp only)); refine zBx (N := 5) #[.int .i64 0, .string (⟨#[]⟩ : ByteArray)] 25 ?_; intro bF hg tF hbox hb; replace aI := zW aI.out hb; have aC := Qa.mk (hbox); have lZ := zSg hg (zG aG.out); have aH := zSg hg (zG aG.out); have bO := zL hg aA.out; have bX := zLg hg aA.out; replace aA := zV aA.out hb; replace HB := zX1 aG.out hb; clear hb hbox hg; have pO := bX.out; have pQ := bO.out; obtain ⟨kX, kY, kZ, lC⟩ := zq2 aC.out; obtain ⟨lD, lF, lG, lH⟩ := zq2 aA.out) | ((with_reducible refine Qb (f := 67) rfl ?_); refine zD (some 27) Try.func67 _ ((Jk.calls k aM aQ bU _ A7.out).mono ?_); rintro e tH ⟨dJ, rfl, ho0, hb⟩; refine ⟨_, rfl, ?_⟩; have aK := Qa.mk (Kd.S_lower (Kd.S_new' ho0 (Kd.R_lt (by (with_reducible repeat (first | apply Kd.R_alloc | apply Kd.R_drewN | apply Kd.R_drew)); exact (Kd.R_mono (Kd.R_far (p := ⟨bF, 1, none⟩) (Kd.R_far (p := ⟨bF, 0, none⟩) (Kd.R_types aI.out aC.out (by decide)) (fun _ hk => hk.2) (.int .i64 aW)) (fun _ hk => hk.2) (.string aY)) (fun _ h_ => h_.1))))) (Ql (zG2 aG.out aH.out))); replace aI := Qa.mk (Kd.R_below (by (with_reducible repeat (first | apply Kd.R_alloc | apply Kd.R_drewN | apply Kd.R_drew)); exact (Kd.R_mono (Kd.R_far (p := ⟨bF, 1, none⟩) (Kd.R_far (p := ⟨bF, 0, none⟩) (Kd.R_types aI.out aC.out (by decide)) (fun _ hk => hk.2) (.int .i64 aW)) (fun _ hk => hk.2) (.string aY)) (fun _ h_ => h_.1))) hb); replace aA := Qa.mk (Zj (g := bK) (o := .cells #[.int .i64 aM, .string aQ] 25 (0, 0)) (zk2 aA.out bO.out bO.out) hb); replace aC := Qa.mk (Zj (g := bF) (o := .cells #[.int .i64 aW, .string aY] 25 (0, 0)) (zk0 aC.out) hb); replace HB := Qa.mk (Qz (zG2 aG.out aH.out) hb); (try clear hb); (try clear ho0)) | ((with_reducible refine Qb (f := 68) rfl ?_); refine zD (some 30) Try.func68 #[.slice A0 l0.length c0] ((Ym.calls k _ _ l0 bD bE bR _ ?bI ?bJ A8.out).mono ?_); (case bI => exact zc (Kd.C_below gW.out HB.out)); (case bJ => exact gX.out); rintro e tJ ⟨rfl, hb⟩; refine ⟨_, rfl, ?_⟩; replace aI := zW aI.out hb; replace aK := Qa.mk (Kd.S_below (zT aK.out) hb); replace aA := zV aA.out hb; replace aC := zV aC.out hb; replace HB := Qa.mk (Qz (zG2 aG.out aH.out) hb); (try clear hb)) | ((with_reducible refine Qf (N := 9) rfl ?_); (try (refine Xa (by rfl) ?_; dsimp only)); refine zBx (N := 9) #[.int .i64 0, .string (⟨#[]⟩ : ByteArray)] 25 ?_; intro bL hg tK hbox hb; replace aI := zW aI.out hb; replace aK := Qa.mk (Kd.S_below (zT aK.out) hb); have aD := Qa.mk (hbox); have mD := zSg hg (zG2 aG.out aH.out); have aJ := zSg hg (zG2 aG.out aH.out); have aZ := zL hg aA.out; have bG := zLg hg aA.out; replace aA := zV aA.out hb; have bH := zL hg aC.out; have bP := zLg hg aC.out; replace aC := zV aC.out hb; replace HB := Qa.mk (Qz (zG2 aG.out aH.out) hb); clear hb hbox hg; have pR := bG.out; have pU := aZ.out; have pV := bP.out; have pW := bH.out; obtain ⟨lI, lJ, lK, lL⟩ := zq2 aD.out) | ((with_reducible refine Qb (f := 69) rfl ?_); refine zD (some 35) Try.func69 _ ((J2.calls k bD bE bR bW _ A9.out).mono ?_); rintro e tL ⟨dD, rfl, ho0, hb⟩; refine ⟨_, rfl, ?_⟩; replace aK := Qa.mk (Kd.S_elder' (by (with_reducible repeat (first | apply Kd.S_alloc | apply Kd.S_drewN | apply Kd.S_drew)); exact (Kd.S_mono (Kd.S_far (p := ⟨bL, 1, none⟩) (Kd.S_far (p := ⟨bL, 0, none⟩) (Kd.S_types aK.out aD.out (by decide)) (fun _ hk => hk.2) (.int .i64 bD)) (fun _ hk => hk.2) (.string bE)) (fun _ h_ => h_.1))) (Kd.R_base ho0) hb); have aU := Qa.mk (Kd.R_lower (Kd.R_new' ho0 (Kd.R_lt (by (with_reducible repeat (first | apply Kd.R_alloc | apply Kd.R_drewN | apply Kd.R_drew)); exact (Kd.R_mono (Kd.R_far (p := ⟨bL, 1, none⟩) (Kd.R_far (p := ⟨bL, 0, none⟩) (Kd.R_types aI.out aD.out (by decide)) (fun _ hk => hk.2) (.int .i64 bD)) (fun _ hk => hk.2) (.string bE)) (fun _ h_ => h_.1))))) (Ql (zG3 aG.out aH.out aJ.out))); replace aI := Qa.mk (Kd.R_elder' (by (with_reducible repeat (first | apply Kd.R_alloc | apply Kd.R_drewN | apply Kd.R_drew)); exact (Kd.R_mono (Kd.R_far (p := ⟨bL, 1, none⟩) (Kd.R_far (p := ⟨bL, 0, none⟩) (Kd.R_types aI.out aD.out (by decide)) (fun _ hk => hk.2) (.int .i64 bD)) (fun _ hk => hk.2) (.string bE)) (fun _ h_ => h_.1))) (Kd.R_base ho0) hb); replace aA := Qa.mk (Zj (g := bK) (o := .cells #[.int .i64 aM, .string aQ] 25 (0, 0)) (zk2 aA.out aZ.out aZ.out) hb); replace aC := Qa.mk (Zj (g := bF) (o := .cells #[.int .i64 aW, .string aY] 25 (0, 0)) (zk2 aC.out bH.out bH.out) hb); replace aD := Qa.mk (Zj (g := bL) (o := .cells #[.int .i64 bD, .string bE] 25 (0, 0)) (zk0 aD.out) hb); replace HB := Qa.mk (Qz (zG3 aG.out aH.out aJ.out) hb); (try clear hb); (try clear ho0); obtain ⟨lM, lN, lQ, lS⟩ := zq2 aA.out) | ((with_reducible refine Qb (f := 70) rfl ?_); refine zD (some 37) Try.func70 _ ((Q5.calls k aM aQ bS _ qY.out).mono ?_); rintro e qZ ⟨dK, rfl, ho0, hb⟩; refine ⟨_, rfl, ?_⟩; have aV := Qa.mk (Kd.S_lower (Kd.S_new' (Kd.S_new' (Kd.S_new' ho0 (Kd.R_lt (zR aI.out))) (Kd.S_lt (zT aK.out))) (Kd.R_lt (zR aU.out))) (Ql (zG3 aG.out aH.out aJ.out))); replace aI := zW aI.out hb; replace aK := Qa.mk (Kd.S_elder' (zT aK.out) (Kd.S_base ho0) hb); replace aU := zW aU.out hb; replace aA := zV aA.out hb; replace aC := zV aC.out hb; replace aD := zV aD.out hb; replace HB := Qa.mk (Qz (zG3 aG.out aH.out aJ.out) hb); (try clear hb); (try clear ho0)))
 (try simp only [Act.put, List.setIfInBounds_toArray, List.set_cons_zero, List.set_cons_succ])
 go_cut [82] (fun v82 wc => ∃ (kq : Nat) (dN : Bool), v82 = .bool dN ∧ Qa (Qd.j0 kq aX bM bN bU bR bW bS dN aM aQ aW aY bD bE = some r) ∧ Qa (kq ≤ k) ∧ Qa (Kd.R (Kd.int .i64) 3 wc w.heap.size (fun k_ => some k_ ≠ (dD : Value).ownBlock) bV aX) ∧ Qa (Kd.S (Kd.slice 3 (Kd.int .i64)) 27 wc w.heap.size (fun k_ => some k_ ≠ (bV : Value).ownBlock ∧ some k_ ≠ (dD : Value).ownBlock ∧ some k_ ≠ (dK : Value).ownBlock) dJ bU) ∧ Qa (Kd.R (Kd.int .i64) 3 wc w.heap.size (fun k_ => some k_ ≠ (bV : Value).ownBlock) dD bW) ∧ Qa (Kd.S (Kd.slice 3 (Kd.int .i64)) 27 wc w.heap.size (fun k_ => some k_ ≠ (bV : Value).ownBlock ∧ some k_ ≠ (dJ : Value).ownBlock ∧ some k_ ≠ (dD : Value).ownBlock) dK bS) ∧ Qa (wc.heap[bK]? = some (.cells #[.int .i64 aM, .string aQ] 25 (0, 0))) ∧ Qa (wc.heap[bF]? = some (.cells #[.int .i64 aW, .string aY] 25 (0, 0))) ∧ Qa (wc.heap[bL]? = some (.cells #[.int .i64 bD, .string bE] 25 (0, 0))) ∧ Qa (Below w.heap.size w wc))
 case first => as_aux_lemma =>
  have H := gL.out
  clear gL
  obtain ⟨eD, rA, H⟩ := zO H
  obtain ⟨gZ, rC, H⟩ := zO H
  by_cases c32 : gZ = true
  ·subst c32
   replace H := (if_pos rfl).symm.trans H
   obtain ⟨iA, rD, H⟩ := zO H
   obtain ⟨iB, rE, H⟩ := zO H
   replace H := jHo H
   rcases H with ⟨fV, pX, H⟩ | ⟨tN, H⟩
   ·(first | rw [fV] | (simp only [Zu, Xo]; rw [fV]) | skip)
    obtain ⟨eF, rF, H⟩ := zO H
    obtain ⟨iC, rG, H⟩ := zO H
    by_cases lT : iC = true
    ·subst lT
     replace H := (if_pos rfl).symm.trans H
     obtain ⟨eG, rH, H⟩ := zO H
     obtain ⟨iD, rJ, H⟩ := zO H
     by_cases lU : iD = true
     ·subst lU
      replace H := (if_pos rfl).symm.trans H
      obtain ⟨eH, rM, H⟩ := zO H
      obtain ⟨iE, rO, H⟩ := zO H
      by_cases lV : iE = true
      ·subst lV
       replace H := (if_pos rfl).symm.trans H
       obtain ⟨fZ, rP, H⟩ := zO H
       obtain ⟨gB, rQ, H⟩ := zO H
       have H' := Qa.mk H; clear H
       try go_wp2
       replace aI := Qa.mk (Kd.R_drew aI.out)
       replace aK := Qa.mk (Kd.S_drew aK.out)
       replace aU := Qa.mk (Kd.R_drew aU.out)
       replace aV := Qa.mk (Kd.S_drew aV.out)
       replace aA := Qa.mk (Jo aA.out)
       replace aC := Qa.mk (Jo aC.out)
       replace aD := Qa.mk (Jo aD.out)
       replace HB := Qa.mk (Qt HB.out)
       refine Ya (n := 45) (S := fun w' => w'.cell? ⟨bK, 0, none⟩ = some (.int .i64 aM) ∧ w'.cell? ⟨bK, 1, none⟩ = some (.string aQ) ∧ w'.cell? ⟨bF, 0, none⟩ = some (.int .i64 aW) ∧ w'.cell? ⟨bF, 1, none⟩ = some (.string aY) ∧ w'.cell? ⟨bL, 0, none⟩ = some (.int .i64 bD) ∧ w'.cell? ⟨bL, 1, none⟩ = some (.string bE)) (ds := []) #[false, false, false, false, false, false, false, false, false, false, false, false, false, false, false, false, false, false, false, false, false, false, false, false, false, false, false, false, false, false, false, false, false, false, false, false, false, false, false, false, false, false, false, false, false] (by kernel_rfl) rfl rfl ⟨(Qo aA.out 0).trans rfl, (Qo aA.out 1).trans rfl, (Qo aC.out 0).trans rfl, (Qo aC.out 1).trans rfl, (Qo aD.out 0).trans rfl, (Qo aD.out 1).trans rfl⟩ (fun hHeld => ?_); refine Z0 Qd.tab10 Qd.bits10 (fun HT_ HW_ => ?_)
       generalize qZ.drew = tO at aI aK aU aV aA aC aD HB hHeld ⊢
       refine zP 0 (some 38) rfl rfl ?_
       refine zY6 1 (some 39) rfl rfl hHeld ?_
       refine zU 2 (some 40) rfl rfl (fun K hK => ?_)
       refine Xx Try.func71 (by kernel_rfl) rfl #[.agg #[.int .i64 aM, .string aQ]] (by rfl) rfl rfl zM ?_
       with_reducible refine (Jw.calls k aM aQ eD _ rA.out).mono ?_
       rintro e tQ ⟨pY, rfl, ho0, hb⟩
       refine ⟨_, rfl, ?_⟩
       replace aK := Qa.mk (Kd.S_elder' (zT aK.out) (Kd.R_base ho0) hb)
       replace aV := Qa.mk (Kd.S_elder' (zT aV.out) (Kd.R_base ho0) hb)
       have bC := Qa.mk (Kd.R_lower (Kd.R_new' (Kd.R_new' ho0 (Kd.R_lt (zR aI.out))) (Kd.R_lt (zR aU.out))) (Ql (zG3 aG.out aH.out aJ.out)))
       replace aI := Qa.mk (Kd.R_elder' (zR aI.out) (Kd.R_base ho0) hb)
       replace aU := Qa.mk (Kd.R_elder' (zR aU.out) (Kd.R_base ho0) hb)
       replace aA := zV aA.out hb
       replace aC := zV aC.out hb
       replace aD := zV aD.out hb
       replace HB := Qa.mk (Qz (zG3 aG.out aH.out aJ.out) hb)
       (try clear hb)
       (try clear ho0)
       obtain ⟨mE, mF, iF⟩ := Kd.R_slice aI.out
       (first | subst iF | (injection iF with cB dO cK; have dP := cB.symm; have dQ := cK.symm; clear cB dO cK; subst dP; subst dQ))
       obtain ⟨mG, mH, iG⟩ := Kd.R_slice bC.out
       (first | subst iG | (injection iG with cB dO cK; have dP := cB.symm; have dQ := cK.symm; clear cB dO cK; subst dP; subst dQ))
       refine hK.out _ _ (zh aA.out (zh aC.out (zh2 aD.out))) (fun hHeld => ?_)
       clear hK K
       refine zN ?_
       refine zU 3 (some 41) rfl rfl (fun K hK => ?_)
       refine Xx Try.func16 (by kernel_rfl) rfl #[.slice mE aX.length mF, .slice mG eD.length mH] (by rfl) rfl rfl zM ?_
       with_reducible refine (Ze.calls k _ _ aX _ _ eD true _ ?bI ?bJ ?dE ?dF rC.out).mono ?_
       (case bI => exact zc ((Kd.R_reads' aI.out).2.2))
       (case bJ => exact (Kd.R_reads' aI.out).2.1)
       (case dE => exact zc ((Kd.R_reads' bC.out).2.2))
       (case dF => exact (Kd.R_reads' bC.out).2.1)
       rintro e w' ⟨rfl, ⟨nd, rfl⟩⟩
       refine ⟨_, rfl, ?_⟩
       refine hK.out _ _ (zh aA.out (zh aC.out (zh2 aD.out))) (fun hHeld => ?_)
       clear hK K
       refine zN ?_
       refine zP 4 (some 42) rfl rfl ?_
       refine zP 5 (some 43) rfl rfl ?_
       refine zP 7 (some 45) rfl rfl ?_
       refine zP 8 (some 46) rfl rfl ?_
       refine zP 11 (some 49) rfl rfl ?_
       refine zP 12 (some 50) rfl rfl ?_
       refine zY6 6 (some 44) rfl rfl hHeld ?_
       refine zY6 10 (some 48) rfl rfl hHeld ?_
       refine zU 9 (some 47) rfl rfl (fun K hK => ?_)
       refine Xx Try.func72 (by kernel_rfl) rfl #[.agg #[.int .i64 aW, .string aY], .int .i64 bM, .int .i64 bN] (by rfl) rfl rfl zM ?_
       with_reducible refine (Xe.calls k aW aY bM bN iA _ rD.out).mono ?_
       rintro e tT ⟨rfl, hb⟩
       refine ⟨_, rfl, ?_⟩
       replace aI := zW aI.out hb
       replace aK := Qa.mk (Kd.S_below (zT aK.out) hb)
       replace aU := zW aU.out hb
       replace aV := Qa.mk (Kd.S_below (zT aV.out) hb)
       replace bC := zW bC.out hb
       replace aA := zV aA.out hb
       replace aC := zV aC.out hb
       replace aD := zV aD.out hb
       replace HB := Qa.mk (Qz (zG3 aG.out aH.out aJ.out) hb)
       (try clear hb)
       refine hK.out _ _ (zh aA.out (zh aC.out (zh2 aD.out))) (fun hHeld => ?_)
       clear hK K
       refine zN ?_
       refine zU 13 (some 51) rfl rfl (fun K hK => ?_)
       refine Xx Try.func63 (by kernel_rfl) rfl #[.agg #[.int .i64 aW, .string aY], .int .i64 bM, .int .i64 bN] (by rfl) rfl rfl zM ?_
       with_reducible refine (Yx.calls k aW aY bM bN iB _ rE.out).mono ?_
       rintro e tV ⟨rfl, hb⟩
       refine ⟨_, rfl, ?_⟩
       replace aI := zW aI.out hb
       replace aK := Qa.mk (Kd.S_below (zT aK.out) hb)
       replace aU := zW aU.out hb
       replace aV := Qa.mk (Kd.S_below (zT aV.out) hb)
       replace bC := zW bC.out hb
       replace aA := zV aA.out hb
       replace aC := zV aC.out hb
       replace aD := zV aD.out hb
       replace HB := Qa.mk (Qz (zG3 aG.out aH.out aJ.out) hb)
       (try clear hb)
       refine hK.out _ _ (zh aA.out (zh aC.out (zh2 aD.out))) (fun hHeld => ?_)
       clear hK K
       refine zN ?_
       refine zP 14 (some 52) rfl rfl ?_
       refine zP 15 (some 53) rfl rfl ?_
       refine zP 16 (some 54) rfl rfl ?_
       refine zP 17 (some 55) rfl rfl ?_
       refine zY6 18 (some 56) rfl rfl hHeld ?_
       refine zU 19 (some 57) rfl rfl (fun K hK => ?_)
       refine Xx Try.func73 (by kernel_rfl) rfl #[.agg #[.int .i64 aM, .string aQ]] (by rfl) rfl rfl zM ?_
       with_reducible refine (Q7.calls k aM aQ eF _ rF.out).mono ?_
       rintro e tX ⟨qA, rfl, ho0, hb⟩
       refine ⟨_, rfl, ?_⟩
       have bQ := Qa.mk (Kd.S_lower (Kd.S_new' (Kd.S_new' (Kd.S_new' (Kd.S_new' (Kd.S_new' ho0 (Kd.R_lt (zR aI.out))) (Kd.S_lt (zT aK.out))) (Kd.R_lt (zR aU.out))) (Kd.S_lt (zT aV.out))) (Kd.R_lt (zR bC.out))) (Ql (zG3 aG.out aH.out aJ.out)))
       replace aI := zW aI.out hb
       replace aK := Qa.mk (Kd.S_elder' (zT aK.out) (Kd.S_base ho0) hb)
       replace aU := zW aU.out hb
       replace aV := Qa.mk (Kd.S_elder' (zT aV.out) (Kd.S_base ho0) hb)
       replace bC := zW bC.out hb
       replace aA := zV aA.out hb
       replace aC := zV aC.out hb
       replace aD := zV aD.out hb
       replace HB := Qa.mk (Qz (zG3 aG.out aH.out aJ.out) hb)
       (try clear hb)
       (try clear ho0)
       obtain ⟨mI, mJ, iH⟩ := Kd.S_slice aK.out
       (first | subst iH | (injection iH with cB dO cK; have dP := cB.symm; have dQ := cK.symm; clear cB dO cK; subst dP; subst dQ))
       obtain ⟨mK, mM, iI⟩ := Kd.S_slice bQ.out
       (first | subst iI | (injection iI with cB dO cK; have dP := cB.symm; have dQ := cK.symm; clear cB dO cK; subst dP; subst dQ))
       refine hK.out _ _ (zh aA.out (zh aC.out (zh2 aD.out))) (fun hHeld => ?_)
       clear hK K
       refine zN ?_
       refine zU 20 (some 58) rfl rfl (fun K hK => ?_)
       refine Xx Try.func37 (by kernel_rfl) rfl #[.slice mI bU.length mJ, .slice mK eF.length mM] (by rfl) rfl rfl zM ?_
       with_reducible refine (Zx.calls k _ _ bU _ _ eF true _ ?bI ?bJ ?dE ?dF rG.out).mono ?_
       (case bI => exact zc ((Kd.S_reads' aK.out).2.2))
       (case bJ => exact (Kd.S_reads' aK.out).2.1)
       (case dE => exact zc ((Kd.S_reads' bQ.out).2.2))
       (case dF => exact (Kd.S_reads' bQ.out).2.1)
       rintro e w' ⟨rfl, ⟨nd, rfl⟩⟩
       refine ⟨_, rfl, ?_⟩
       refine hK.out _ _ (zh aA.out (zh aC.out (zh2 aD.out))) (fun hHeld => ?_)
       clear hK K
       refine zN ?_
       refine zP 21 (some 59) rfl rfl ?_
       refine zP 22 (some 60) rfl rfl ?_
       refine zP 23 (some 61) rfl rfl ?_
       refine zP 24 (some 62) rfl rfl ?_
       refine zP 26 (some 64) rfl rfl ?_
       refine zY6 25 (some 63) rfl rfl hHeld ?_
       refine zU 27 (some 65) rfl rfl (fun K hK => ?_)
       refine Xx Try.func74 (by kernel_rfl) rfl #[.agg #[.int .i64 bD, .string bE], .int .i64 bR] (by rfl) rfl rfl zM ?_
       with_reducible refine (Zb.calls k bD bE bR eG _ rH.out).mono ?_
       rintro e tY ⟨qB, rfl, ho0, hb⟩
       refine ⟨_, rfl, ?_⟩
       replace aK := Qa.mk (Kd.S_elder' (zT aK.out) (Kd.R_base ho0) hb)
       replace aV := Qa.mk (Kd.S_elder' (zT aV.out) (Kd.R_base ho0) hb)
       replace bQ := Qa.mk (Kd.S_elder' (zT bQ.out) (Kd.R_base ho0) hb)
       have bT := Qa.mk (Kd.R_lower (Kd.R_new' (Kd.R_new' (Kd.R_new' ho0 (Kd.R_lt (zR aI.out))) (Kd.R_lt (zR aU.out))) (Kd.R_lt (zR bC.out))) (Ql (zG3 aG.out aH.out aJ.out)))
       replace aI := Qa.mk (Kd.R_elder' (zR aI.out) (Kd.R_base ho0) hb)
       replace aU := Qa.mk (Kd.R_elder' (zR aU.out) (Kd.R_base ho0) hb)
       replace bC := Qa.mk (Kd.R_elder' (zR bC.out) (Kd.R_base ho0) hb)
       replace aA := zV aA.out hb
       replace aC := zV aC.out hb
       replace aD := zV aD.out hb
       replace HB := Qa.mk (Qz (zG3 aG.out aH.out aJ.out) hb)
       (try clear hb)
       (try clear ho0)
       obtain ⟨mO, mP, iJ⟩ := Kd.R_slice aU.out
       (first | subst iJ | (injection iJ with cB dO cK; have dP := cB.symm; have dQ := cK.symm; clear cB dO cK; subst dP; subst dQ))
       obtain ⟨mQ, mR, iK⟩ := Kd.R_slice bT.out
       (first | subst iK | (injection iK with cB dO cK; have dP := cB.symm; have dQ := cK.symm; clear cB dO cK; subst dP; subst dQ))
       refine hK.out _ _ (zh aA.out (zh aC.out (zh2 aD.out))) (fun hHeld => ?_)
       clear hK K
       refine zN ?_
       refine zU 28 (some 66) rfl rfl (fun K hK => ?_)
       refine Xx Try.func16 (by kernel_rfl) rfl #[.slice mO bW.length mP, .slice mQ eG.length mR] (by rfl) rfl rfl zM ?_
       with_reducible refine (Ze.calls k _ _ bW _ _ eG true _ ?bI ?bJ ?dE ?dF rJ.out).mono ?_
       (case bI => exact zc ((Kd.R_reads' aU.out).2.2))
       (case bJ => exact (Kd.R_reads' aU.out).2.1)
       (case dE => exact zc ((Kd.R_reads' bT.out).2.2))
       (case dF => exact (Kd.R_reads' bT.out).2.1)
       rintro e w' ⟨rfl, ⟨nd, rfl⟩⟩
       refine ⟨_, rfl, ?_⟩
       refine hK.out _ _ (zh aA.out (zh aC.out (zh2 aD.out))) (fun hHeld => ?_)
       clear hK K
       refine zN ?_
       refine zP 29 (some 67) rfl rfl ?_
       refine zP 30 (some 68) rfl rfl ?_
       refine zP 31 (some 69) rfl rfl ?_
       refine zP 32 (some 70) rfl rfl ?_
       refine zY6 33 (some 71) rfl rfl hHeld ?_
       refine zU 34 (some 72) rfl rfl (fun K hK => ?_)
       refine Xx Try.func75 (by kernel_rfl) rfl #[.agg #[.int .i64 aM, .string aQ]] (by rfl) rfl rfl zM ?_
       with_reducible refine (Qi.calls k aM aQ eH _ rM.out).mono ?_
       rintro e tZ ⟨qC, rfl, ho0, hb⟩
       refine ⟨_, rfl, ?_⟩
       have bZ := Qa.mk (Kd.S_lower (Kd.S_new' (Kd.S_new' (Kd.S_new' (Kd.S_new' (Kd.S_new' (Kd.S_new' (Kd.S_new' ho0 (Kd.R_lt (zR aI.out))) (Kd.S_lt (zT aK.out))) (Kd.R_lt (zR aU.out))) (Kd.S_lt (zT aV.out))) (Kd.R_lt (zR bC.out))) (Kd.S_lt (zT bQ.out))) (Kd.R_lt (zR bT.out))) (Ql (zG3 aG.out aH.out aJ.out)))
       replace aI := zW aI.out hb
       replace aK := Qa.mk (Kd.S_elder' (zT aK.out) (Kd.S_base ho0) hb)
       replace aU := zW aU.out hb
       replace aV := Qa.mk (Kd.S_elder' (zT aV.out) (Kd.S_base ho0) hb)
       replace bC := zW bC.out hb
       replace bQ := Qa.mk (Kd.S_elder' (zT bQ.out) (Kd.S_base ho0) hb)
       replace bT := zW bT.out hb
       replace aA := zV aA.out hb
       replace aC := zV aC.out hb
       replace aD := zV aD.out hb
       replace HB := Qa.mk (Qz (zG3 aG.out aH.out aJ.out) hb)
       (try clear hb)
       (try clear ho0)
       obtain ⟨mU, mV, iL⟩ := Kd.S_slice aV.out
       (first | subst iL | (injection iL with cB dO cK; have dP := cB.symm; have dQ := cK.symm; clear cB dO cK; subst dP; subst dQ))
       obtain ⟨mW, mX, iM⟩ := Kd.S_slice bZ.out
       (first | subst iM | (injection iM with cB dO cK; have dP := cB.symm; have dQ := cK.symm; clear cB dO cK; subst dP; subst dQ))
       refine hK.out _ _ (zh aA.out (zh aC.out (zh2 aD.out))) (fun hHeld => ?_)
       clear hK K
       refine zN ?_
       refine zU 35 (some 73) rfl rfl (fun K hK => ?_)
       refine Xx Try.func37 (by kernel_rfl) rfl #[.slice mU bS.length mV, .slice mW eH.length mX] (by rfl) rfl rfl zM ?_
       with_reducible refine (Zx.calls k _ _ bS _ _ eH true _ ?bI ?bJ ?dE ?dF rO.out).mono ?_
       (case bI => exact zc ((Kd.S_reads' aV.out).2.2))
       (case bJ => exact (Kd.S_reads' aV.out).2.1)
       (case dE => exact zc ((Kd.S_reads' bZ.out).2.2))
       (case dF => exact (Kd.S_reads' bZ.out).2.1)
       rintro e w' ⟨rfl, ⟨nd, rfl⟩⟩
       refine ⟨_, rfl, ?_⟩
       refine hK.out _ _ (zh aA.out (zh aC.out (zh2 aD.out))) (fun hHeld => ?_)
       clear hK K
       refine zN ?_
       refine zP 36 (some 74) rfl rfl ?_
       refine zP 37 (some 75) rfl rfl ?_
       refine zP 38 (some 76) rfl rfl ?_
       refine zY6 39 (some 77) rfl rfl hHeld ?_
       refine zY6 41 (some 79) rfl rfl hHeld ?_
       refine zU 40 (some 78) rfl rfl (fun K hK => ?_)
       refine Xx Try.func76 (by kernel_rfl) rfl #[.agg #[.int .i64 aM, .string aQ]] (by rfl) rfl rfl zM ?_
       with_reducible refine (Je.calls k aM aQ fZ _ rP.out).mono ?_
       rintro e uA ⟨rfl, hb⟩
       refine ⟨_, rfl, ?_⟩
       replace aI := zW aI.out hb
       replace aK := Qa.mk (Kd.S_below (zT aK.out) hb)
       replace aU := zW aU.out hb
       replace aV := Qa.mk (Kd.S_below (zT aV.out) hb)
       replace bC := zW bC.out hb
       replace bQ := Qa.mk (Kd.S_below (zT bQ.out) hb)
       replace bT := zW bT.out hb
       replace bZ := Qa.mk (Kd.S_below (zT bZ.out) hb)
       replace aA := zV aA.out hb
       replace aC := zV aC.out hb
       replace aD := zV aD.out hb
       replace HB := Qa.mk (Qz (zG3 aG.out aH.out aJ.out) hb)
       (try clear hb)
       refine hK.out _ _ (zh aA.out (zh aC.out (zh2 aD.out))) (fun hHeld => ?_)
       clear hK K
       refine zN ?_
       refine zU 42 (some 80) rfl rfl (fun K hK => ?_)
       refine Xx Try.func77 (by kernel_rfl) rfl #[.agg #[.int .i64 aM, .string aQ]] (by rfl) rfl rfl zM ?_
       with_reducible refine (Qv.calls k aM aQ gB _ rQ.out).mono ?_
       rintro e uB ⟨rfl, hb⟩
       refine ⟨_, rfl, ?_⟩
       replace aI := zW aI.out hb
       replace aK := Qa.mk (Kd.S_below (zT aK.out) hb)
       replace aU := zW aU.out hb
       replace aV := Qa.mk (Kd.S_below (zT aV.out) hb)
       replace bC := zW bC.out hb
       replace bQ := Qa.mk (Kd.S_below (zT bQ.out) hb)
       replace bT := zW bT.out hb
       replace bZ := Qa.mk (Kd.S_below (zT bZ.out) hb)
       replace aA := zV aA.out hb
       replace aC := zV aC.out hb
       replace aD := zV aD.out hb
       replace HB := Qa.mk (Qz (zG3 aG.out aH.out aJ.out) hb)
       (try clear hb)
       refine hK.out _ _ (zh aA.out (zh aC.out (zh2 aD.out))) (fun hHeld => ?_)
       clear hK K
       refine zN ?_
       refine zP 43 (some 81) rfl rfl ?_
       refine zP 44 (some 82) rfl rfl ?_
       refine Vh (Xu HT_.out (by kernel_rfl)) ?_
       try go_wp2
       go_meet
       case rel => exact ⟨_, ((fZ != gB)), zF, H', ⟨by first | omega | exact Nat.le_refl _⟩, ⟨zR (Kd.R_mono aI.out (fun _ hk => hk.1.1.2))⟩, ⟨by (with_reducible repeat (first | apply Kd.S_alloc | apply Kd.S_drewN | apply Kd.S_drew)); exact Kd.S_mono aK.out (fun _ hk => ⟨hk.1.1.1.1.1.1.2, ⟨hk.1.1.1.1.1.2, hk.1.1.1.1.2⟩⟩)⟩, ⟨zR (Kd.R_mono aU.out (fun _ hk => hk.1.1.2))⟩, ⟨by (with_reducible repeat (first | apply Kd.S_alloc | apply Kd.S_drewN | apply Kd.S_drew)); exact Kd.S_mono aV.out (fun _ hk => ⟨hk.1.1.1.1.1.1.2, ⟨hk.1.1.1.1.1.2, hk.1.1.1.1.2⟩⟩)⟩, ⟨zK aA.out⟩, ⟨zK aC.out⟩, ⟨zK aD.out⟩, ⟨zG3 aG.out aH.out aJ.out⟩⟩
      replace lV := Bool.eq_false_iff.mpr lV
      subst lV
      have H1 : (Qd.j0 k aX bM bN bU bR bW bS true aM aQ aW aY bD bE) = some r := by rw [if_neg (show ¬ (false = true) by decide)] at H; exact H
      exact absurd H1 (Qd.j0_no _ _ _ _ _ _ _ _ _ _ _ _ _ _ _ hr_)
     replace lU := Bool.eq_false_iff.mpr lU
     subst lU
     have H1 : (Qd.j0 k aX bM bN bU bR bW bS true aM aQ aW aY bD bE) = some r := by rw [if_neg (show ¬ (false = true) by decide)] at H; exact H
     exact absurd H1 (Qd.j0_no _ _ _ _ _ _ _ _ _ _ _ _ _ _ _ hr_)
    replace lT := Bool.eq_false_iff.mpr lT
    subst lT
    have H1 : (Qd.j0 k aX bM bN bU bR bW bS true aM aQ aW aY bD bE) = some r := by rw [if_neg (show ¬ (false = true) by decide)] at H; exact H
    exact absurd H1 (Qd.j0_no _ _ _ _ _ _ _ _ _ _ _ _ _ _ _ hr_)
   exact absurd H (Qd.j0_no _ _ _ _ _ _ _ _ _ _ _ _ _ _ _ hr_)
  replace c32 := Bool.eq_false_iff.mpr c32
  subst c32
  have H1 : (Qd.j0 k aX bM bN bU bR bW bS true aM aQ aW aY bD bE) = some r := by rw [if_neg (show ¬ (false = true) by decide)] at H; exact H
  exact absurd H1 (Qd.j0_no _ _ _ _ _ _ _ _ _ _ _ _ _ _ _ hr_)
 case rest => as_aux_lemma =>
 clear gL
 try clear c3
 obtain ⟨kq, dN, rfl, HA, dR, aN, bB, bA, aT, aA, aC, aD, HB⟩ := hcut
 cases kq with
 | zero => exact absurd HA.out (by simp [Qd.j0])
 | succ eO =>
 have H := HA.out
 clear HA
 simp only [Qd.j0] at H
 by_cases eB : dN = true
 ·subst eB
  replace H := (if_pos rfl).symm.trans H
  obtain rfl := Option.some.inj H
  cases hr_
 replace eB := Bool.eq_false_iff.mpr eB
 subst eB
 replace H := (if_neg zFf).symm.trans H
 have eP := Qa.mk H
 clear H
 go_upto_region 12 with (fail)
 go_cut [102] (fun mY wc => ∃ (kq : Nat) (cO : Bool), mY = .bool cO ∧ Qa (Qd.j1 kq aX bU bR bW bS cO aM aQ bD bE = some r) ∧ Qa (kq ≤ eO) ∧ Qa (Kd.R (Kd.int .i64) 3 wc w.heap.size (fun k_ => some k_ ≠ (dD : Value).ownBlock) bV aX) ∧ Qa (Kd.S (Kd.slice 3 (Kd.int .i64)) 27 wc w.heap.size (fun k_ => some k_ ≠ (bV : Value).ownBlock ∧ some k_ ≠ (dD : Value).ownBlock ∧ some k_ ≠ (dK : Value).ownBlock) dJ bU) ∧ Qa (Kd.R (Kd.int .i64) 3 wc w.heap.size (fun k_ => some k_ ≠ (bV : Value).ownBlock) dD bW) ∧ Qa (Kd.S (Kd.slice 3 (Kd.int .i64)) 27 wc w.heap.size (fun k_ => some k_ ≠ (bV : Value).ownBlock ∧ some k_ ≠ (dJ : Value).ownBlock ∧ some k_ ≠ (dD : Value).ownBlock) dK bS) ∧ Qa (wc.heap[bK]? = some (.cells #[.int .i64 aM, .string aQ] 25 (0, 0))) ∧ Qa (wc.heap[bF]? = some (.cells #[.int .i64 aW, .string aY] 25 (0, 0))) ∧ Qa (wc.heap[bL]? = some (.cells #[.int .i64 bD, .string bE] 25 (0, 0))) ∧ Qa (Below w.heap.size w wc))
 case first => as_aux_lemma =>
  have H := eP.out
  clear eP
  obtain ⟨dZ, iN, H⟩ := zO H
  replace H := Vt H
  rcases H with ⟨eQ, H⟩ | ⟨eQ, H⟩
  ·have dG : decide (0 ≤ dZ) = true := decide_eq_true eQ
   clear eQ
   (first | rw [dG] | (simp only [Zu, Xo]; rw [dG]) | skip)
   obtain ⟨gD, mZ, H⟩ := zO H
   obtain ⟨gF, nA, H⟩ := zO H
   have H' := Qa.mk H; clear H
   try go_wp2
   replace aN := Qa.mk (Kd.R_drew aN.out)
   replace bB := Qa.mk (Kd.S_drew bB.out)
   replace bA := Qa.mk (Kd.R_drew bA.out)
   replace aT := Qa.mk (Kd.S_drew aT.out)
   replace aA := Qa.mk (Jo aA.out)
   replace aC := Qa.mk (Jo aC.out)
   replace aD := Qa.mk (Jo aD.out)
   replace HB := Qa.mk (Qt HB.out)
   refine Ya (n := 20) (S := fun w' => w'.cell? ⟨bF, 0, none⟩ = some (.int .i64 aW) ∧ w'.cell? ⟨bF, 1, none⟩ = some (.string aY)) (ds := []) #[false, false, false, false, false, false, false, false, false, false, false, false, false, false, false, false, false, false, false, false] (by kernel_rfl) rfl rfl ⟨(Qo aC.out 0).trans rfl, (Qo aC.out 1).trans rfl⟩ (fun hHeld => ?_); refine Z0 Qd.tab12 Qd.bits12 (fun HT_ HW_ => ?_)
   generalize wc.drew = rR at aN bB bA aT aA aC aD HB hHeld ⊢
   refine zP 1 (some 84) rfl rfl ?_
   refine zP 2 (some 85) rfl rfl ?_
   refine zY2 0 (some 83) rfl rfl hHeld ?_
   refine zU 3 (some 86) rfl rfl (fun K hK => ?_)
   refine Xx Try.func72 (by kernel_rfl) rfl #[.agg #[.int .i64 aW, .string aY], .int .i64 bM, .int .i64 bN] (by rfl) rfl rfl zM ?_
   with_reducible refine (Xe.calls eO aW aY bM bN dZ _ iN.out).mono ?_
   rintro e rT ⟨rfl, hb⟩
   refine ⟨_, rfl, ?_⟩
   replace aN := zW aN.out hb
   replace bB := Qa.mk (Kd.S_below (zT bB.out) hb)
   replace bA := zW bA.out hb
   replace aT := Qa.mk (Kd.S_below (zT aT.out) hb)
   replace aA := zV aA.out hb
   replace aC := zV aC.out hb
   replace aD := zV aD.out hb
   replace HB := Qa.mk (Qz (zG3 aG.out aH.out aJ.out) hb)
   (try clear hb)
   refine hK.out _ _ (zh2 aC.out) (fun hHeld => ?_)
   clear hK K
   refine zN ?_
   refine zP 4 (some 87) rfl rfl ?_
   refine zP 5 (some 88) rfl rfl ?_
   refine zP 7 (some 90) rfl rfl ?_
   refine zP 8 (some 91) rfl rfl ?_
   refine zP 11 (some 94) rfl rfl ?_
   refine zP 12 (some 95) rfl rfl ?_
   refine zP 15 (some 98) rfl rfl ?_
   refine zY2 6 (some 89) rfl rfl hHeld ?_
   refine zY2 10 (some 93) rfl rfl hHeld ?_
   refine zY2 16 (some 99) rfl rfl hHeld ?_
   refine zP 17 (some 100) rfl rfl ?_
   refine zU 9 (some 92) rfl rfl (fun K hK => ?_)
   refine Xx Try.func72 (by kernel_rfl) rfl #[.agg #[.int .i64 aW, .string aY], .int .i64 bM, .int .i64 bN] (by rfl) rfl rfl zM ?_
   with_reducible refine (Xe.calls eO aW aY bM bN gD _ mZ.out).mono ?_
   rintro e rU ⟨rfl, hb⟩
   refine ⟨_, rfl, ?_⟩
   replace aN := zW aN.out hb
   replace bB := Qa.mk (Kd.S_below (zT bB.out) hb)
   replace bA := zW bA.out hb
   replace aT := Qa.mk (Kd.S_below (zT aT.out) hb)
   replace aA := zV aA.out hb
   replace aC := zV aC.out hb
   replace aD := zV aD.out hb
   replace HB := Qa.mk (Qz (zG3 aG.out aH.out aJ.out) hb)
   (try clear hb)
   refine hK.out _ _ (zh2 aC.out) (fun hHeld => ?_)
   clear hK K
   refine zN ?_
   refine zU 13 (some 96) rfl rfl (fun K hK => ?_)
   refine Xx Try.func72 (by kernel_rfl) rfl #[.agg #[.int .i64 aW, .string aY], .int .i64 bN, .int .i64 bM] (by rfl) rfl rfl zM ?_
   with_reducible refine (Xe.calls eO aW aY bN bM gF _ nA.out).mono ?_
   rintro e rV ⟨rfl, hb⟩
   refine ⟨_, rfl, ?_⟩
   replace aN := zW aN.out hb
   replace bB := Qa.mk (Kd.S_below (zT bB.out) hb)
   replace bA := zW bA.out hb
   replace aT := Qa.mk (Kd.S_below (zT aT.out) hb)
   replace aA := zV aA.out hb
   replace aC := zV aC.out hb
   replace aD := zV aD.out hb
   replace HB := Qa.mk (Qz (zG3 aG.out aH.out aJ.out) hb)
   (try clear hb)
   refine hK.out _ _ (zh2 aC.out) (fun hHeld => ?_)
   clear hK K
   refine zN ?_
   refine zP 14 (some 97) rfl rfl ?_
   refine zP 18 (some 101) rfl rfl ?_
   refine zP 19 (some 102) rfl rfl ?_
   refine Vh (Xu HT_.out (by kernel_rfl)) ?_
   try go_wp2
   go_meet
   case rel => exact ⟨_, (((wrap64 (gD + gF)) != (wrap64 (aW - 2)))), zF, H', ⟨by have := dR.out; first | omega | exact Nat.le_refl _⟩, ⟨zR aN.out⟩, ⟨zT bB.out⟩, ⟨zR bA.out⟩, ⟨zT aT.out⟩, ⟨zK aA.out⟩, ⟨zK aC.out⟩, ⟨zK aD.out⟩, ⟨zG3 aG.out aH.out aJ.out⟩⟩
  have dG : decide (0 ≤ dZ) = false := decide_eq_false eQ
  clear eQ
  (first | rw [dG] | (simp only [Zu, Xo]; rw [dG]) | skip)
  have H' := Qa.mk H; clear H
  try go_wp2
  replace aN := Qa.mk (Kd.R_drew aN.out)
  replace bB := Qa.mk (Kd.S_drew bB.out)
  replace bA := Qa.mk (Kd.R_drew bA.out)
  replace aT := Qa.mk (Kd.S_drew aT.out)
  replace aA := Qa.mk (Jo aA.out)
  replace aC := Qa.mk (Jo aC.out)
  replace aD := Qa.mk (Jo aD.out)
  replace HB := Qa.mk (Qt HB.out)
  refine Ya (n := 20) (S := fun w' => w'.cell? ⟨bF, 0, none⟩ = some (.int .i64 aW) ∧ w'.cell? ⟨bF, 1, none⟩ = some (.string aY)) (ds := []) #[false, false, false, false, false, false, false, false, false, false, false, false, false, false, false, false, false, false, false, false] (by kernel_rfl) rfl rfl ⟨(Qo aC.out 0).trans rfl, (Qo aC.out 1).trans rfl⟩ (fun hHeld => ?_); refine Z0 Qd.tab12 Qd.bits12 (fun HT_ HW_ => ?_)
  generalize wc.drew = rW at aN bB bA aT aA aC aD HB hHeld ⊢
  refine zP 1 (some 84) rfl rfl ?_
  refine zP 2 (some 85) rfl rfl ?_
  refine zY2 0 (some 83) rfl rfl hHeld ?_
  refine zU 3 (some 86) rfl rfl (fun K hK => ?_)
  refine Xx Try.func72 (by kernel_rfl) rfl #[.agg #[.int .i64 aW, .string aY], .int .i64 bM, .int .i64 bN] (by rfl) rfl rfl zM ?_
  with_reducible refine (Xe.calls eO aW aY bM bN dZ _ iN.out).mono ?_
  rintro e rX ⟨rfl, hb⟩
  refine ⟨_, rfl, ?_⟩
  replace aN := zW aN.out hb
  replace bB := Qa.mk (Kd.S_below (zT bB.out) hb)
  replace bA := zW bA.out hb
  replace aT := Qa.mk (Kd.S_below (zT aT.out) hb)
  replace aA := zV aA.out hb
  replace aC := zV aC.out hb
  replace aD := zV aD.out hb
  replace HB := Qa.mk (Qz (zG3 aG.out aH.out aJ.out) hb)
  (try clear hb)
  refine hK.out _ _ (zh2 aC.out) (fun hHeld => ?_)
  clear hK K
  refine zN ?_
  refine zP 4 (some 87) rfl rfl ?_
  refine zP 5 (some 88) rfl rfl ?_
  refine Vr (i := 6) (N := some 89) (v := undef) (a' := ?_) #[true, true, true, true, true, true, true, false, false, false, false, false, false, false, false, false, false, false, false, false] rfl rfl (K8 HT_.out (by kernel_rfl)) (fun _ _ _ h => h) (Or.inr ⟨by rfl, rfl⟩) ?_ ?_
  rotate_left
  ·simp only [Act.put, List.setIfInBounds_toArray, List.set_cons_zero, List.set_cons_succ, Zu, Xo]
   rfl
  refine Vr (i := 7) (N := some 90) (v := undef) (a' := ?_) #[true, true, true, true, true, true, true, true, false, false, false, false, false, false, false, false, false, false, false, false] rfl rfl (K8 HT_.out (by kernel_rfl)) (fun _ _ _ h => h) (Or.inr ⟨by rfl, rfl⟩) ?_ ?_
  rotate_left
  ·simp only [Act.put, List.setIfInBounds_toArray, List.set_cons_zero, List.set_cons_succ, Zu, Xo]
   rfl
  refine Vr (i := 8) (N := some 91) (v := undef) (a' := ?_) #[true, true, true, true, true, true, true, true, true, false, false, false, false, false, false, false, false, false, false, false] rfl rfl (K8 HT_.out (by kernel_rfl)) (fun _ _ _ h => h) (Or.inr ⟨by rfl, rfl⟩) ?_ ?_
  rotate_left
  ·simp only [Act.put, List.setIfInBounds_toArray, List.set_cons_zero, List.set_cons_succ, Zu, Xo]
   rfl
  refine Vr (i := 9) (N := some 92) (v := undef) (a' := ?_) #[true, true, true, true, true, true, true, true, true, true, false, false, false, false, false, false, false, false, false, false] rfl rfl (K8 HT_.out (by kernel_rfl)) (fun _ _ _ h => h) (Or.inr ⟨by rfl, rfl⟩) ?_ ?_
  rotate_left
  ·simp only [Act.put, List.setIfInBounds_toArray, List.set_cons_zero, List.set_cons_succ, Zu, Xo]
   rfl
  refine Vr (i := 10) (N := some 93) (v := undef) (a' := ?_) #[true, true, true, true, true, true, true, true, true, true, true, false, false, false, false, false, false, false, false, false] rfl rfl (K8 HT_.out (by kernel_rfl)) (fun _ _ _ h => h) (Or.inr ⟨by rfl, rfl⟩) ?_ ?_
  rotate_left
  ·simp only [Act.put, List.setIfInBounds_toArray, List.set_cons_zero, List.set_cons_succ, Zu, Xo]
   rfl
  refine Vr (i := 11) (N := some 94) (v := undef) (a' := ?_) #[true, true, true, true, true, true, true, true, true, true, true, true, false, false, false, false, false, false, false, false] rfl rfl (K8 HT_.out (by kernel_rfl)) (fun _ _ _ h => h) (Or.inr ⟨by rfl, rfl⟩) ?_ ?_
  rotate_left
  ·simp only [Act.put, List.setIfInBounds_toArray, List.set_cons_zero, List.set_cons_succ, Zu, Xo]
   rfl
  refine Vr (i := 12) (N := some 95) (v := undef) (a' := ?_) #[true, true, true, true, true, true, true, true, true, true, true, true, true, false, false, false, false, false, false, false] rfl rfl (K8 HT_.out (by kernel_rfl)) (fun _ _ _ h => h) (Or.inr ⟨by rfl, rfl⟩) ?_ ?_
  rotate_left
  ·simp only [Act.put, List.setIfInBounds_toArray, List.set_cons_zero, List.set_cons_succ, Zu, Xo]
   rfl
  refine Vr (i := 13) (N := some 96) (v := undef) (a' := ?_) #[true, true, true, true, true, true, true, true, true, true, true, true, true, true, false, false, false, false, false, false] rfl rfl (K8 HT_.out (by kernel_rfl)) (fun _ _ _ h => h) (Or.inr ⟨by rfl, rfl⟩) ?_ ?_
  rotate_left
  ·simp only [Act.put, List.setIfInBounds_toArray, List.set_cons_zero, List.set_cons_succ, Zu, Xo]
   rfl
  refine Vr (i := 14) (N := some 97) (v := undef) (a' := ?_) #[true, true, true, true, true, true, true, true, true, true, true, true, true, true, true, false, false, false, false, false] rfl rfl (K8 HT_.out (by kernel_rfl)) (fun _ _ _ h => h) (Or.inr ⟨by rfl, rfl⟩) ?_ ?_
  rotate_left
  ·simp only [Act.put, List.setIfInBounds_toArray, List.set_cons_zero, List.set_cons_succ, Zu, Xo]
   rfl
  refine Vr (i := 15) (N := some 98) (v := undef) (a' := ?_) #[true, true, true, true, true, true, true, true, true, true, true, true, true, true, true, true, false, false, false, false] rfl rfl (K8 HT_.out (by kernel_rfl)) (fun _ _ _ h => h) (Or.inr ⟨by rfl, rfl⟩) ?_ ?_
  rotate_left
  ·simp only [Act.put, List.setIfInBounds_toArray, List.set_cons_zero, List.set_cons_succ, Zu, Xo]
   rfl
  refine Vr (i := 16) (N := some 99) (v := undef) (a' := ?_) #[true, true, true, true, true, true, true, true, true, true, true, true, true, true, true, true, true, false, false, false] rfl rfl (K8 HT_.out (by kernel_rfl)) (fun _ _ _ h => h) (Or.inr ⟨by rfl, rfl⟩) ?_ ?_
  rotate_left
  ·simp only [Act.put, List.setIfInBounds_toArray, List.set_cons_zero, List.set_cons_succ, Zu, Xo]
   rfl
  refine Vr (i := 17) (N := some 100) (v := undef) (a' := ?_) #[true, true, true, true, true, true, true, true, true, true, true, true, true, true, true, true, true, true, false, false] rfl rfl (K8 HT_.out (by kernel_rfl)) (fun _ _ _ h => h) (Or.inr ⟨by rfl, rfl⟩) ?_ ?_
  rotate_left
  ·simp only [Act.put, List.setIfInBounds_toArray, List.set_cons_zero, List.set_cons_succ, Zu, Xo]
   rfl
  refine Vr (i := 18) (N := some 101) (v := undef) (a' := ?_) #[true, true, true, true, true, true, true, true, true, true, true, true, true, true, true, true, true, true, true, false] rfl rfl (K8 HT_.out (by kernel_rfl)) (fun _ _ _ h => h) (Or.inr ⟨by rfl, rfl⟩) ?_ ?_
  rotate_left
  ·simp only [Act.put, List.setIfInBounds_toArray, List.set_cons_zero, List.set_cons_succ, Zu, Xo]
   rfl
  refine zP 19 (some 102) rfl rfl ?_
  refine Vh (Xu HT_.out (by kernel_rfl)) ?_
  try go_wp2
  go_meet
  case rel => exact ⟨_, (false), zF, H', ⟨by have := dR.out; first | omega | exact Nat.le_refl _⟩, ⟨zR aN.out⟩, ⟨zT bB.out⟩, ⟨zR bA.out⟩, ⟨zT aT.out⟩, ⟨zK aA.out⟩, ⟨zK aC.out⟩, ⟨zK aD.out⟩, ⟨zG3 aG.out aH.out aJ.out⟩⟩
 case rest => as_aux_lemma =>
 clear eP
 try clear c3
 try clear eB
 obtain ⟨kq, cO, rfl, HA, dH, aN, bB, bA, aT, aA, aC, aD, HB⟩ := hcut
 cases kq with
 | zero => exact absurd HA.out (by simp [Qd.j1])
 | succ dL =>
 have H := HA.out
 clear HA
 simp only [Qd.j1] at H
 by_cases eT : cO = true
 ·subst eT
  replace H := (if_pos rfl).symm.trans H
  obtain rfl := Option.some.inj H
  cases hr_
 replace eT := Bool.eq_false_iff.mpr eT
 subst eT
 replace H := (if_neg zFf).symm.trans H
 have eU := Qa.mk H
 clear H
 go_upto_region 14 with (fail)
 go_cut [125] (fun nC wc => ∃ (kq : Nat) (cZ : Bool), nC = .bool cZ ∧ Qa (Qd.j2 kq aX bU bS cZ aM aQ = some r) ∧ Qa (kq ≤ dL) ∧ Qa (Kd.R (Kd.int .i64) 3 wc w.heap.size (fun _ => True) bV aX) ∧ Qa (Kd.S (Kd.slice 3 (Kd.int .i64)) 27 wc w.heap.size (fun k_ => some k_ ≠ (bV : Value).ownBlock ∧ some k_ ≠ (dK : Value).ownBlock) dJ bU) ∧ Qa (Kd.S (Kd.slice 3 (Kd.int .i64)) 27 wc w.heap.size (fun k_ => some k_ ≠ (bV : Value).ownBlock ∧ some k_ ≠ (dJ : Value).ownBlock) dK bS) ∧ Qa (wc.heap[bK]? = some (.cells #[.int .i64 aM, .string aQ] 25 (0, 0))) ∧ Qa (wc.heap[bF]? = some (.cells #[.int .i64 aW, .string aY] 25 (0, 0))) ∧ Qa (wc.heap[bL]? = some (.cells #[.int .i64 bD, .string bE] 25 (0, 0))) ∧ Qa (Below w.heap.size w wc))
 case first => as_aux_lemma =>
  have H := eU.out
  clear eU
  obtain ⟨iO, eX, H⟩ := zO H
  by_cases fQ : iO = true
  ·subst fQ
   replace H := (if_pos rfl).symm.trans H
   replace H := Vt H
   rcases H with ⟨eY, H⟩ | ⟨eY, H⟩
   ·have dI : decide (1 ≤ bR) = true := decide_eq_true eY
    clear eY
    (first | rw [dI] | (simp only [Zu, Xo]; rw [dI]) | skip)
    replace H := Z5 H
    rcases H with ⟨gM, H⟩ | ⟨gM, H⟩
    ·obtain ⟨eZ, iP, H⟩ := zO H
     obtain ⟨dS, dC⟩ : ∃ j_ : Int, (wrap64 (bR - 1)) = j_ := ⟨_, rfl⟩
     first | rw [dC] at H | simp only [dC] at H
     (try rw [dC] at eX)
     (try rw [dC] at iP)
     have lW : (IntKind.i64.wrap (bR - 1)) = dS := (Zu _).trans dC
     replace H := Zq H
     rcases H with ⟨nD, H⟩ | ⟨c130, H⟩
     ·replace H := Zq H
      rcases H with ⟨nE, H⟩ | ⟨c131, H⟩
      ·have H' := Qa.mk H; clear H
       have nG := bG.out
       have nH := aZ.out
       have nI := bP.out
       have nJ := bH.out
       obtain ⟨iQ, iR, iT, iU⟩ := zq2 aD.out
       go_wp2_with (first | ((with_reducible refine Qb (f := 24) rfl ?_); refine zD (some 104) Try.func24 _ ((Jb.calls dL bD bE true _ eX.out).mono ?_); rintro e rY ⟨rfl, hb⟩; refine ⟨_, rfl, ?_⟩; replace aN := zW aN.out hb; replace bB := Qa.mk (Kd.S_below (zT bB.out) hb); replace bA := zW bA.out hb; replace aT := Qa.mk (Kd.S_below (zT aT.out) hb); replace aA := zV aA.out hb; replace aC := zV aC.out hb; replace aD := zV aD.out hb; replace HB := Qa.mk (Qz (zG3 aG.out aH.out aJ.out) hb); (try clear hb); obtain ⟨iV, iW, iX, iY⟩ := zq2 aD.out; obtain ⟨qD, qE, iZ⟩ := Kd.R_slice bA.out; subst iZ) | (go_at_call 71; (with_reducible refine (Jw.calls dL bD bE eZ _ iP.out).mono ?_); rintro e rZ ⟨qF, rfl, ho0, hb⟩; replace bB := Qa.mk (Kd.S_elder' (zT bB.out) (Kd.R_base ho0) hb); replace aT := Qa.mk (Kd.S_elder' (zT aT.out) (Kd.R_base ho0) hb); have fA := Qa.mk (Kd.R_lower (Kd.R_new' (Kd.R_new' ho0 (Kd.R_lt (zR aN.out))) (Kd.R_lt (zR bA.out))) (Ql (zG3 aG.out aH.out aJ.out))); replace aN := Qa.mk (Kd.R_elder' (zR aN.out) (Kd.R_base ho0) hb); replace bA := Qa.mk (Kd.R_elder' (zR bA.out) (Kd.R_base ho0) hb); replace aA := zV aA.out hb; replace aC := zV aC.out hb; replace aD := zV aD.out hb; replace HB := Qa.mk (Qz (zG3 aG.out aH.out aJ.out) hb); (try clear hb); (try clear hb2); (try clear hk); (try clear hi); (try clear ho0); obtain ⟨qG, qH, jA⟩ := Kd.R_slice fA.out; subst jA; have fB : 0 ≤ ((dS) : Int) := zA; have fC : (dS) < (eZ.length : Int) := zA; obtain ⟨nK, jB, jC⟩ := Kd.at_int (Kd.R_reads' fA.out).2.2 (dS) fB fC; cases jB; replace fB := eq_true fB; replace fC := eq_true fC))
       go_meet
       case rel => exact ⟨_, (((bW.length : Int) != (rd eZ (dS)))), (by first | rfl | (simp; done) | (simp only [← dC] <;> (first | rfl | simp)) | (simp [*]; done)), H', ⟨by have := dR.out; have := dH.out; first | omega | exact Nat.le_refl _⟩, ⟨zR (Kd.R_mono aN.out (fun _ hk => trivial))⟩, ⟨by (with_reducible repeat (first | apply Kd.S_alloc | apply Kd.S_drewN | apply Kd.S_drew)); exact Kd.S_mono bB.out (fun _ hk => ⟨hk.1.1, hk.1.2.2⟩)⟩, ⟨by (with_reducible repeat (first | apply Kd.S_alloc | apply Kd.S_drewN | apply Kd.S_drew)); exact Kd.S_mono aT.out (fun _ hk => ⟨hk.1.1, hk.1.2.1⟩)⟩, ⟨zK aA.out⟩, ⟨zK aC.out⟩, ⟨zK aD.out⟩, ⟨zG3 aG.out aH.out aJ.out⟩⟩
      exact absurd H (by simp)
     exact absurd H (by simp)
    have H' := Qa.mk H; clear H
    have nL := bG.out
    have nM := aZ.out
    have nN := bP.out
    have nO := bH.out
    obtain ⟨jD, jE, jF, jG⟩ := zq2 aD.out
    go_wp2_with (first | ((with_reducible refine Qb (f := 24) rfl ?_); refine zD (some 104) Try.func24 _ ((Jb.calls dL bD bE true _ eX.out).mono ?_); rintro e sD ⟨rfl, hb⟩; refine ⟨_, rfl, ?_⟩; replace aN := zW aN.out hb; replace bB := Qa.mk (Kd.S_below (zT bB.out) hb); replace bA := zW bA.out hb; replace aT := Qa.mk (Kd.S_below (zT aT.out) hb); replace aA := zV aA.out hb; replace aC := zV aC.out hb; replace aD := zV aD.out hb; replace HB := Qa.mk (Qz (zG3 aG.out aH.out aJ.out) hb); (try clear hb); obtain ⟨jH, jI, jJ, jK⟩ := zq2 aD.out))
    go_meet
    case rel => exact ⟨_, (false), zF, H', ⟨by have := dR.out; have := dH.out; first | omega | exact Nat.le_refl _⟩, ⟨zR (Kd.R_mono aN.out (fun _ hk => trivial))⟩, ⟨by (with_reducible repeat (first | apply Kd.S_alloc | apply Kd.S_drewN | apply Kd.S_drew)); exact Kd.S_mono bB.out (fun _ hk => ⟨hk.1, hk.2.2⟩)⟩, ⟨by (with_reducible repeat (first | apply Kd.S_alloc | apply Kd.S_drewN | apply Kd.S_drew)); exact Kd.S_mono aT.out (fun _ hk => ⟨hk.1, hk.2.1⟩)⟩, ⟨zK aA.out⟩, ⟨zK aC.out⟩, ⟨zK aD.out⟩, ⟨zG3 aG.out aH.out aJ.out⟩⟩
   have dI : decide (1 ≤ bR) = false := decide_eq_false eY
   clear eY
   (first | rw [dI] | (simp only [Zu, Xo]; rw [dI]) | skip)
   have H' := Qa.mk H; clear H
   have nP := bG.out
   have nQ := aZ.out
   have nR := bP.out
   have nS := bH.out
   obtain ⟨jL, jM, jN, jO⟩ := zq2 aD.out
   go_wp2_with (first | ((with_reducible refine Qb (f := 24) rfl ?_); refine zD (some 104) Try.func24 _ ((Jb.calls dL bD bE true _ eX.out).mono ?_); rintro e sF ⟨rfl, hb⟩; refine ⟨_, rfl, ?_⟩; replace aN := zW aN.out hb; replace bB := Qa.mk (Kd.S_below (zT bB.out) hb); replace bA := zW bA.out hb; replace aT := Qa.mk (Kd.S_below (zT aT.out) hb); replace aA := zV aA.out hb; replace aC := zV aC.out hb; replace aD := zV aD.out hb; replace HB := Qa.mk (Qz (zG3 aG.out aH.out aJ.out) hb); (try clear hb)))
   go_meet
   case rel => exact ⟨_, (false), zF, H', ⟨by have := dR.out; have := dH.out; first | omega | exact Nat.le_refl _⟩, ⟨zR (Kd.R_mono aN.out (fun _ hk => trivial))⟩, ⟨by (with_reducible repeat (first | apply Kd.S_alloc | apply Kd.S_drewN | apply Kd.S_drew)); exact Kd.S_mono bB.out (fun _ hk => ⟨hk.1, hk.2.2⟩)⟩, ⟨by (with_reducible repeat (first | apply Kd.S_alloc | apply Kd.S_drewN | apply Kd.S_drew)); exact Kd.S_mono aT.out (fun _ hk => ⟨hk.1, hk.2.1⟩)⟩, ⟨zK aA.out⟩, ⟨zK aC.out⟩, ⟨zK aD.out⟩, ⟨zG3 aG.out aH.out aJ.out⟩⟩
  replace fQ := Bool.eq_false_iff.mpr fQ
  subst fQ
  replace H := (if_neg zFf).symm.trans H
  have H' := Qa.mk H; clear H
  have nT := bG.out
  have nU := aZ.out
  have nV := bP.out
  have nW := bH.out
  obtain ⟨jP, jQ, jR, jS⟩ := zq2 aD.out
  go_wp2_with (first | ((with_reducible refine Qb (f := 24) rfl ?_); refine zD (some 104) Try.func24 _ ((Jb.calls dL bD bE false _ eX.out).mono ?_); rintro e sG ⟨rfl, hb⟩; refine ⟨_, rfl, ?_⟩; replace aN := zW aN.out hb; replace bB := Qa.mk (Kd.S_below (zT bB.out) hb); replace bA := zW bA.out hb; replace aT := Qa.mk (Kd.S_below (zT aT.out) hb); replace aA := zV aA.out hb; replace aC := zV aC.out hb; replace aD := zV aD.out hb; replace HB := Qa.mk (Qz (zG3 aG.out aH.out aJ.out) hb); (try clear hb)))
  go_meet
  case rel => exact ⟨_, (false), zF, H', ⟨by have := dR.out; have := dH.out; first | omega | exact Nat.le_refl _⟩, ⟨zR (Kd.R_mono aN.out (fun _ hk => trivial))⟩, ⟨by (with_reducible repeat (first | apply Kd.S_alloc | apply Kd.S_drewN | apply Kd.S_drew)); exact Kd.S_mono bB.out (fun _ hk => ⟨hk.1, hk.2.2⟩)⟩, ⟨by (with_reducible repeat (first | apply Kd.S_alloc | apply Kd.S_drewN | apply Kd.S_drew)); exact Kd.S_mono aT.out (fun _ hk => ⟨hk.1, hk.2.1⟩)⟩, ⟨zK aA.out⟩, ⟨zK aC.out⟩, ⟨zK aD.out⟩, ⟨zG3 aG.out aH.out aJ.out⟩⟩
 case rest => as_aux_lemma =>
 clear eU
 try clear c3
 try clear eB
 try clear eT
 obtain ⟨kq, cZ, rfl, HA, fD, aN, bB, aT, aA, aC, aD, HB⟩ := hcut
 cases kq with
 | zero => exact absurd HA.out (by simp [Qd.j2])
 | succ dU =>
 have H := HA.out
 clear HA
 simp only [Qd.j2] at H
 by_cases fT : cZ = true
 ·subst fT
  replace H := (if_pos rfl).symm.trans H
  obtain rfl := Option.some.inj H
  cases hr_
 replace fT := Bool.eq_false_iff.mpr fT
 subst fT
 replace H := (if_neg zFf).symm.trans H
 obtain ⟨jT, jU, H⟩ := zO H
 by_cases fU : jT = true
 ·subst fU
  replace H := (if_pos rfl).symm.trans H
  have fE := Qa.mk H
  clear H
  have nX := bO.out
  have nY := bX.out
  have nZ := aZ.out
  have oC := bG.out
  obtain ⟨jV, jW, jX, jY⟩ := zq2 aA.out
  go_upto_region 18 with (first | ((with_reducible refine Qb (f := 24) rfl ?_); refine zD (some 127) Try.func24 _ ((Jb.calls dU aM aQ true _ jU.out).mono ?_); rintro e oD ⟨rfl, hb⟩; refine ⟨_, rfl, ?_⟩; replace aN := zW aN.out hb; replace bB := Qa.mk (Kd.S_below (zT bB.out) hb); replace aT := Qa.mk (Kd.S_below (zT aT.out) hb); replace aA := zV aA.out hb; replace aC := zV aC.out hb; replace aD := zV aD.out hb; replace HB := Qa.mk (Qz (zG3 aG.out aH.out aJ.out) hb); (try clear hb)))
  (try simp only [Act.put, List.setIfInBounds_toArray, List.set_cons_zero, List.set_cons_succ])
  go_cut [166] (fun oF wc => ∃ (kq : Nat) (dA : Bool), oF = .bool dA ∧ Qa (Qd.j3 kq aX dA aM aQ = some r) ∧ Qa (kq ≤ dU) ∧ Qa (Kd.R (Kd.int .i64) 3 wc w.heap.size (fun _ => True) bV aX) ∧ Qa (wc.heap[bK]? = some (.cells #[.int .i64 aM, .string aQ] 25 (0, 0))) ∧ Qa (wc.heap[bF]? = some (.cells #[.int .i64 aW, .string aY] 25 (0, 0))) ∧ Qa (wc.heap[bL]? = some (.cells #[.int .i64 bD, .string bE] 25 (0, 0))) ∧ Qa (Below w.heap.size w wc))
  case first => as_aux_lemma =>
   have H := fE.out
   clear fE
   replace H := jHo H
   rcases H with ⟨fF, oG, H⟩ | ⟨sH, H⟩
   ·(first | rw [fF] | (simp only [Zu, Xo]; rw [fF]) | skip)
    obtain ⟨jZ, oH, H⟩ := zO H
    replace H := jHo H
    rcases H with ⟨oI, oJ, H⟩ | ⟨sI, H⟩
    ·replace H := jA4 H
     rcases H with ⟨c164, oK, H⟩ | ⟨c164, H⟩
     ·have oL : decide (0 < aX.length) = true := decide_eq_true (by omega)
      clear c164
      obtain ⟨kC, oM, H⟩ := zO H
      replace H := jHo H
      rcases H with ⟨oN, oO, H⟩ | ⟨sJ, H⟩
      ·have H' := Qa.mk H; clear H
       try go_wp2
       replace aN := Qa.mk (Kd.R_drew aN.out)
       replace bB := Qa.mk (Kd.S_drew bB.out)
       replace aT := Qa.mk (Kd.S_drew aT.out)
       replace aA := Qa.mk (Jo aA.out)
       replace aC := Qa.mk (Jo aC.out)
       replace aD := Qa.mk (Jo aD.out)
       replace HB := Qa.mk (Qt HB.out)
       obtain ⟨qI, kD, gG⟩ := Kd.R_slice aN.out
       (first | subst gG | (injection gG with cB dO cK; have dP := cB.symm; have dQ := cK.symm; clear cB dO cK; subst dP; subst dQ))
       have fG : 0 ≤ (0 : Int) := (by omega)
       have fH : 0 < (aX.length : Int) := zA
       obtain ⟨fI, kE, dB⟩ := Kd.at_int (Kd.R_reads' aN.out).2.2 0 fG fH
       cases kE
       have oP : (0 < aX.length) = True := eq_true (by omega)
       (try rw [show ((0 : Int)).toNat = 0 from rfl] at dB)
       (try rw [Addr.add_zero'] at dB)
       replace fG := eq_true fG
       replace fH := eq_true fH
       refine Ya (n := 30) (S := fun w' => w'.cell? ⟨bK, 0, none⟩ = some (.int .i64 aM) ∧ w'.cell? ⟨bK, 1, none⟩ = some (.string aQ) ∧ w'.cell? fI = some (.int .i64 (rd aX 0))) (ds := []) #[false, false, false, false, false, false, false, false, false, false, false, false, false, false, false, false, false, false, false, false, false, false, false, false, false, false, false, false, false, false] (by kernel_rfl) rfl rfl ⟨(Qo aA.out 0).trans rfl, (Qo aA.out 1).trans rfl, dB⟩ (fun hHeld => ?_); refine Z0 Qd.tab18 Qd.bits18 (fun HT_ HW_ => ?_)
       generalize oD.drew = sK at aN bB aT aA aC aD HB dB hHeld ⊢
       refine zP 0 (some 137) rfl rfl ?_
       refine zP 1 (some 138) rfl rfl ?_
       refine zP 2 (some 139) rfl rfl ?_
       refine zY3 3 (some 140) rfl rfl hHeld ?_
       refine zP 4 (some 141) rfl rfl ?_
       refine zP 5 (some 142) rfl rfl ?_
       refine zP 6 (some 143) rfl rfl ?_
       refine zP 7 (some 144) rfl rfl ?_
       refine zP 9 (some 146) rfl rfl ?_
       refine zP 11 (some 148) rfl rfl ?_
       refine zY3 10 (some 147) rfl rfl hHeld ?_
       refine zY3 12 (some 149) rfl rfl hHeld ?_
       refine zP 13 (some 150) rfl rfl ?_
       refine zP 14 (some 151) rfl rfl ?_
       refine zU 8 (some 145) rfl rfl (fun K hK => ?_)
       refine Xx Try.func78 (by kernel_rfl) rfl #[.slice (some fI) aX.length kD] (by rfl) rfl rfl zM ?_
       with_reducible refine (X0.calls dU _ _ aX jZ _ ?bI ?bJ oH.out).mono ?_
       (case bI => exact zc ((Kd.R_reads' aN.out).2.2))
       (case bJ => exact (Kd.R_reads' aN.out).2.1)
       rintro e w' ⟨rfl, ⟨nd, rfl⟩⟩
       refine ⟨_, rfl, ?_⟩
       refine hK.out _ _ ⟨(Qo aA.out 0).trans rfl, (Qo aA.out 1).trans rfl, hHeld.2.2⟩ (fun hHeld => ?_)
       clear hK K
       refine zN ?_
       refine zP 15 (some 152) rfl rfl ?_
       refine zP 16 (some 153) rfl rfl ?_
       refine zP 17 (some 154) rfl rfl ?_
       refine zP 18 (some 155) rfl rfl ?_
       refine zP 19 (some 156) rfl rfl ?_
       refine zY3 20 (some 157) rfl rfl hHeld ?_
       refine zY3 21 (some 158) rfl rfl hHeld ?_
       refine zU 22 (some 159) rfl rfl (fun K hK => ?_)
       refine Xx Try.func60 (by kernel_rfl) rfl #[.agg #[.int .i64 aM, .string aQ]] (by rfl) rfl rfl zM ?_
       with_reducible refine (Va.calls dU aM aQ kC _ oM.out).mono ?_
       rintro e sM ⟨rfl, hb⟩
       have oQ := (hb.cell (World.block_lt_of_cell? _ _ (hHeld.2.2))).trans (hHeld.2.2)
       refine ⟨_, rfl, ?_⟩
       replace aN := zW aN.out hb
       replace bB := Qa.mk (Kd.S_below (zT bB.out) hb)
       replace aT := Qa.mk (Kd.S_below (zT aT.out) hb)
       replace aA := zV aA.out hb
       replace aC := zV aC.out hb
       replace aD := zV aD.out hb
       replace HB := Qa.mk (Qz (zG3 aG.out aH.out aJ.out) hb)
       (try clear hb)
       obtain ⟨qJ, qK, gH⟩ := Kd.S_slice aT.out
       (first | subst gH | (injection gH with cB dO cK; have dP := cB.symm; have dQ := cK.symm; clear cB dO cK; subst dP; subst dQ))
       refine hK.out _ _ ⟨(Qo aA.out 0).trans rfl, (Qo aA.out 1).trans rfl, oQ⟩ (fun hHeld => ?_)
       clear hK K
       refine zN ?_
       refine zP 23 (some 160) rfl rfl ?_
       refine zP 24 (some 161) rfl rfl ?_
       refine zP 25 (some 162) rfl rfl ?_
       refine zP 26 (some 163) rfl rfl ?_
       refine zP 27 (some 164) rfl rfl ?_
       refine zP 28 (some 165) rfl rfl ?_
       refine zP 29 (some 166) rfl rfl ?_
       refine Vh (Xu HT_.out (by kernel_rfl)) ?_
       try go_wp2
       go_meet
       case rel => exact ⟨_, (((bS.length : Int) == 0)), zF, H', ⟨by have := dR.out; have := dH.out; have := fD.out; first | omega | exact Nat.le_refl _⟩, ⟨zR aN.out⟩, ⟨zK aA.out⟩, ⟨zK aC.out⟩, ⟨zK aD.out⟩, ⟨zG3 aG.out aH.out aJ.out⟩⟩
      exact absurd H (Qd.j3_no _ _ _ _ _ hr_)
     exact absurd H (by simp)
    exact absurd H (Qd.j3_no _ _ _ _ _ hr_)
   exact absurd H (Qd.j3_no _ _ _ _ _ hr_)
  case rest => as_aux_lemma =>
  clear fE
  obtain ⟨kq, dA, rfl, HA, gJ, aN, aA, aC, aD, HB⟩ := hcut
  cases kq with
  | zero => exact absurd HA.out (by simp [Qd.j3])
  | succ gK =>
  have H := HA.out
  clear HA
  simp only [Qd.j3] at H
  by_cases fJ : dA = true
  ·subst fJ
   replace H := (if_pos rfl).symm.trans H
   obtain rfl := Option.some.inj H
   cases hr_
  replace fJ := Bool.eq_false_iff.mpr fJ
  subst fJ
  replace H := (if_neg zFf).symm.trans H
  have H' := Qa.mk H; clear H
  go_wp2
  go_loopg [13] gK (fun kq v13 w' => ∃ (bY : Int), v13 = .int .i64 bY ∧ Qa (Qd.l0 kq aX bY aM aQ = some r) ∧ Qa (kq ≤ gK) ∧ Qa (Kd.R (Kd.int .i64) 3 w' w.heap.size (fun _ => True) bV aX) ∧ Qa (w'.heap[bK]? = some (.cells #[.int .i64 aM, .string aQ] 25 (0, 0))) ∧ Qa (w'.heap[bF]? = some (.cells #[.int .i64 aW, .string aY] 25 (0, 0))) ∧ Qa (w'.heap[bL]? = some (.cells #[.int .i64 bD, .string bE] 25 (0, 0))) ∧ Qa (Below w.heap.size w w'))
  case atStart => exact ⟨(0), zF, H', ⟨Nat.le_refl _⟩, ⟨zR aN.out⟩, ⟨zK aA.out⟩, ⟨zK aC.out⟩, ⟨zK aD.out⟩, ⟨zG3 aG.out aH.out aJ.out⟩⟩
  case round =>
  clear H'
  try clear fJ
  obtain ⟨bY, rfl, HA, qL, aN, aA, aC, aD, HB⟩ := hrel
  cases gk with
  | zero => exact absurd HA.out (by simp [Qd.l0])
  | succ k5 =>
  have H := HA.out
  clear HA
  simp only [Qd.l0] at H
  replace H := Z5 H
  rcases H with ⟨gN, H⟩ | ⟨gN, H⟩
  ·replace H := Zq H
   rcases H with ⟨oU, H⟩ | ⟨sN, H⟩
   ·obtain ⟨dM, dX⟩ : ∃ j_ : Int, (wrap64 ((wrap64 ((aX.length : Int) - 1)) - bY)) = j_ := ⟨_, rfl⟩
    first | rw [dX] at H | simp only [dX] at H
    have lX : (IntKind.i64.wrap ((wrap64 ((aX.length : Int) - 1)) - bY)) = dM := (Zu _).trans dX
    replace H := Zq H
    rcases H with ⟨oV, H⟩ | ⟨c182, H⟩
    ·replace H := Zq H
     rcases H with ⟨oW, H⟩ | ⟨c183, H⟩
     ·replace H := Zi H
      rcases H with ⟨gP, gQ, H⟩ | ⟨sO, gP, gQ, H⟩
      ·have H' := Qa.mk H; clear H
       obtain ⟨qM, qN, kF⟩ := Kd.R_slice aN.out
       subst kF
       try go_wp2
       replace aN := Qa.mk (Kd.R_drew aN.out)
       replace aA := Qa.mk (Jo aA.out)
       replace aC := Qa.mk (Jo aC.out)
       replace aD := Qa.mk (Jo aD.out)
       replace HB := Qa.mk (Qt HB.out)
       have fK : 0 ≤ (bY : Int) := zA
       have fM : bY < (aX.length : Int) := zA
       obtain ⟨dY, kG, dV⟩ := Kd.at_int (Kd.R_reads' aN.out).2.2 bY fK fM
       cases kG
       replace fK := eq_true fK
       replace fM := eq_true fM
       have fO : 0 ≤ ((dM) : Int) := zA
       have fP : (dM) < (aX.length : Int) := zA
       obtain ⟨gT, kH, dW⟩ := Kd.at_int (Kd.R_reads' aN.out).2.2 (dM) fO fP
       obtain rfl : dY = gT := (by injection kH)
       replace fO := eq_true fO
       replace fP := eq_true fP
       refine Ya (n := 13) (S := fun w' => w'.cell? (dY.add (bY).toNat) = some (.int .i64 (rd aX bY)) ∧ w'.cell? (dY.add ((dM)).toNat) = some (.int .i64 (rd aX (dM)))) (ds := []) #[false, false, false, false, false, false, false, false, false, false, false, false, false] (by kernel_rfl) rfl rfl ⟨dV, dW⟩ (fun hHeld => ?_); refine Z0 Qd.tab23 Qd.bits23 (fun HT_ HW_ => ?_)
       generalize wr.drew = sP at aN aA aC aD HB dV dW hHeld ⊢
       refine zP 0 (some 173) rfl rfl ?_
       refine zP 1 (some 174) rfl rfl ?_
       refine zP 2 (some 175) rfl rfl ?_
       refine zP 4 (some 177) rfl rfl ?_
       refine zP 5 (some 178) rfl rfl ?_
       refine zP 6 (some 179) rfl rfl ?_
       refine zP 7 (some 180) rfl rfl ?_
       refine zP 8 (some 181) rfl rfl ?_
       refine zP 9 (some 182) rfl rfl ?_
       refine zP 10 (some 183) rfl rfl ?_
       refine zY2 3 (some 176) rfl rfl hHeld ?_
       refine zY2 11 (some 184) rfl rfl hHeld ?_
       refine zP 12 (some 185) rfl rfl ?_
       refine Vh (Xu HT_.out (by kernel_rfl)) ?_
       try go_wp2
       go_roundg k5
       case measure => have := dR.out; have := dH.out; have := fD.out; have := gJ.out; have := qL.out; omega
       case rel => exact ⟨(wrap64 (bY + 1)), zF, H', ⟨by have := dR.out; have := dH.out; have := fD.out; have := gJ.out; have := qL.out; omega⟩, ⟨zR aN.out⟩, ⟨zK aA.out⟩, ⟨zK aC.out⟩, ⟨zK aD.out⟩, ⟨zG3 aG.out aH.out aJ.out⟩⟩
      obtain rfl := Option.some.inj H
      cases hr_
     exact absurd H (by simp)
    exact absurd H (by simp)
   exact absurd H (by simp)
  obtain ⟨kI, oZ, H⟩ := zO H
  obtain ⟨kJ, pE, H⟩ := zO H
  obtain ⟨kK, pF, H⟩ := zO H
  obtain rfl := Option.some.inj H
  obtain ⟨qO, qQ, kL⟩ := Kd.R_slice aN.out
  subst kL
  try go_wp2
  replace aN := Qa.mk (Kd.R_drew aN.out)
  replace aA := Qa.mk (Jo aA.out)
  replace aC := Qa.mk (Jo aC.out)
  replace aD := Qa.mk (Jo aD.out)
  replace HB := Qa.mk (Qt HB.out)
  refine Ya (n := 11) (S := fun w' => w'.cell? ⟨bK, 0, none⟩ = some (.int .i64 aM) ∧ w'.cell? ⟨bK, 1, none⟩ = some (.string aQ)) (ds := []) #[false, false, false, false, false, false, false, false, false, false, false] (by kernel_rfl) rfl rfl ⟨(Qo aA.out 0).trans rfl, (Qo aA.out 1).trans rfl⟩ (fun hHeld => ?_); refine Z0 Qd.tab25 Qd.bits25 (fun HT_ HW_ => ?_)
  generalize wr.drew = sQ at aN aA aC aD HB hHeld ⊢
  refine zP 0 (some 186) rfl rfl ?_
  refine zY2 1 (some 187) rfl rfl hHeld ?_
  refine zY2 4 (some 190) rfl rfl hHeld ?_
  refine zY2 7 (some 193) rfl rfl hHeld ?_
  refine zU 2 (some 188) rfl rfl (fun K hK => ?_)
  refine Xx Try.func79 (by kernel_rfl) rfl #[.int .i64 aM] (by rfl) rfl rfl zM ?_
  with_reducible refine (Kr.calls aM kI _ oZ.out).mono ?_
  rintro e w' ⟨rfl, ⟨nd, rfl⟩⟩
  refine ⟨_, rfl, ?_⟩
  refine hK.out _ _ (zh2 aA.out) (fun hHeld => ?_)
  clear hK K
  refine zN ?_
  refine zP 3 (some 189) rfl rfl ?_
  refine zU 5 (some 191) rfl rfl (fun K hK => ?_)
  refine Xx Try.func76 (by kernel_rfl) rfl #[.agg #[.int .i64 aM, .string aQ]] (by rfl) rfl rfl zM ?_
  with_reducible refine (Je.calls k5 aM aQ kJ _ pE.out).mono ?_
  rintro e sS ⟨rfl, hb⟩
  refine ⟨_, rfl, ?_⟩
  replace aN := zW aN.out hb
  replace aA := zV aA.out hb
  replace aC := zV aC.out hb
  replace aD := zV aD.out hb
  replace HB := Qa.mk (Qz (zG3 aG.out aH.out aJ.out) hb)
  (try clear hb)
  refine hK.out _ _ (zh2 aA.out) (fun hHeld => ?_)
  clear hK K
  refine zN ?_
  refine zP 6 (some 192) rfl rfl ?_
  refine zU 8 (some 194) rfl rfl (fun K hK => ?_)
  refine Xx Try.func40 (by kernel_rfl) rfl #[.agg #[.int .i64 aM, .string aQ]] (by rfl) rfl rfl zM ?_
  with_reducible refine (Yr.calls k5 aM aQ kK _ pF.out).mono ?_
  rintro e sU ⟨rfl, hb⟩
  refine ⟨_, rfl, ?_⟩
  replace aN := zW aN.out hb
  replace aA := zV aA.out hb
  replace aC := zV aC.out hb
  replace aD := zV aD.out hb
  replace HB := Qa.mk (Qz (zG3 aG.out aH.out aJ.out) hb)
  (try clear hb)
  refine hK.out _ _ (zh2 aA.out) (fun hHeld => ?_)
  clear hK K
  refine zN ?_
  refine zP 9 (some 195) rfl rfl ?_
  refine zP 10 (some 2) rfl rfl ?_
  refine Vh (Xu HT_.out (by kernel_rfl)) ?_
  try go_wp2
  go_ret
  exact ⟨zE, zG3 aG.out aH.out aJ.out⟩
 replace fU := Bool.eq_false_iff.mpr fU
 subst fU
 replace H := (if_neg zFf).symm.trans H
 replace H := Zi H
 rcases H with ⟨gU, gV, H⟩ | ⟨c196, gU, gV, H⟩
 ·obtain rfl := Option.some.inj H
  have pG := bO.out
  have pI := bX.out
  have pJ := aZ.out
  have pK := bG.out
  obtain ⟨kM, kN, kP, kQ⟩ := zq2 aA.out
  go_wp2_with (first | ((with_reducible refine Qb (f := 24) rfl ?_); refine zD (some 127) Try.func24 _ ((Jb.calls dU aM aQ false _ jU.out).mono ?_); rintro e sV ⟨rfl, hb⟩; refine ⟨_, rfl, ?_⟩; replace aN := zW aN.out hb; replace bB := Qa.mk (Kd.S_below (zT bB.out) hb); replace aT := Qa.mk (Kd.S_below (zT aT.out) hb); replace aA := zV aA.out hb; replace aC := zV aC.out hb; replace aD := zV aD.out hb; replace HB := Qa.mk (Qz (zG3 aG.out aH.out aJ.out) hb); (try clear hb); obtain ⟨qR, qU, kR⟩ := Kd.R_slice aN.out; subst kR; obtain ⟨qV, qW, kS⟩ := Kd.S_slice bB.out; subst kS))
  go_ret
  exact ⟨zE, zG3 aG.out aH.out aJ.out⟩
 have pM : ¬ (aX = []) := fun h_ => c196 (by rw [h_]; rfl)
 obtain rfl := Option.some.inj H
 cases hr_
end Go.Proofs.Ytckkfjdkaimmhaa.PX
namespace Go.Proofs.Ytckkfjdkaimmhaa.M
open Go.RowKit Go.Proofs.YtckkfjdkaimmhaaW.PrintWords Go.Proofs.Ytckkfjdkaimmhaa.PX
def inR (n a : Int) : Bool := decide (0 ≤ a) && decide (a < n)
theorem jG5 (n a : Int) : Yb.f n a = some (inR n a) := by
 unfold Yb.f inR
 by_cases h : a ≥ 0
 ·rw [if_pos h, decide_eq_true (show (0 : Int) ≤ a from h), Bool.true_and]
 ·rw [if_neg h, decide_eq_false (show ¬ (0 : Int) ≤ a from h), Bool.false_and]
theorem jIv (l : List Int) (a : Int) (hl : l.length ≤ 9223372036854775807) (d : Nat) : ∀ i : Nat, i + d = l.length →
  ∃ r, Ev (fun k => Qw.l0 k l a (l.length : Int) (i : Int)) r ∧ decide (r ≥ 0) = (l.drop i).contains a := by
 induction d with
 | zero =>
  intro i hi
  refine ⟨-1, Ji ?_, ?_⟩
  ·simp only [Qw.l0]
   exact Jn (by omega) (Ev.now _)
  ·rw [List.drop_of_length_le (by omega)]; rfl
 | succ d ih =>
  intro i hi
  have hlt : i < l.length := by omega
  have hr : rd l (i : Int) = l[i] := by
   unfold rd
   rw [Int.toNat_natCast, List.getD_eq_getElem?_getD, List.getElem?_eq_getElem hlt]; rfl
  rw [List.drop_eq_getElem_cons hlt]
  by_cases h : a = l[i]
  ·refine ⟨i, Ji ?_, ?_⟩
   ·simp only [Qw.l0, hr]
    exact Qm (by omega) (Qm (by omega) (Qm (by omega) (Qm h (Ev.now _))))
   ·subst h
    rw [List.contains_cons, beq_self_eq_true, Bool.true_or]
    exact decide_eq_true (by omega)
  ·obtain ⟨r, h1, h2⟩ := ih (i + 1) (by omega)
   refine ⟨r, Ji ?_, ?_⟩
   ·simp only [Qw.l0, hr]
    refine Qm (by omega) (Qm (by omega) (Qm (by omega) (Jn h ?_)))
    rw [Qp (by omega) (by omega)]
    exact h1
   ·rw [h2, List.contains_cons, beq_eq_false_iff_ne.2 h, Bool.false_or]
theorem jGa (l : List Int) (a : Int) (hl : l.length ≤ 9223372036854775807) : Ev (fun k => Zf.f k l a) (l.contains a) := by
 obtain ⟨r, h1, h2⟩ := jIv l a hl l.length 0 (by omega)
 unfold Zf.f
 refine Ev.bind h1 ?_
 rw [h2, List.drop_zero]
 exact Ev.now _
def jIa (n : Int) (l : List Int) : Bool := (List.range l.length).all fun i => inR n (l.getD i 0) && !((l.take i).contains (l.getD i 0))
theorem jJv (n : Int) (l : List Int) (hl : l.length ≤ 9223372036854775807) (d : Nat) : ∀ i : Nat, i + d = l.length →
  Ev (fun k => Zh.l0 k n l l (l.length : Int) (i : Int)) ((List.range' i d).all fun i => inR n (l.getD i 0) && !((l.take i).contains (l.getD i 0))) := by
 induction d with
 | zero =>
  intro i hi
  refine Ji ?_
  simp only [Zh.l0]
  exact Jn (by omega) (Ev.now _)
 | succ d ih =>
  intro i hi
  have hr : rd l (i : Int) = l.getD i 0 := by unfold rd; rw [Int.toNat_natCast]
  rw [List.range'_succ, List.all_cons]
  refine Ji ?_
  simp only [Zh.l0, hr, Int.toNat_natCast]
  refine Qm (by omega) (Qm (by omega) (Qm (by omega) (Zv (jG5 n _) ?_)))
  cases h1 : inR n (l.getD i 0) with
  | false => exact Jn (by simp) (Ev.now _)
  | true =>
   refine Qm (by trivial) (Qm (by omega) (Ev.bind (jGa _ _ (by rw [List.length_take]; omega)) ?_))
   cases h2 : (l.take i).contains (l.getD i 0) with
   | true => exact Qm (by trivial) (Ev.now _)
   | false =>
    refine Jn (by simp) ?_
    rw [Qp (by omega) (by omega)]
    simp only [Bool.not_false, Bool.and_self, Bool.true_and]
    exact ih (i + 1) (by omega)
theorem jFv (n : Int) (l : List Int) (hl : l.length ≤ 9223372036854775807) : Ev (fun k => Zh.f k n l) (jIa n l) := by
 unfold Zh.f jIa
 rw [List.range_eq_range']
 exact jJv n l hl l.length 0 (by omega)
end Go.Proofs.Ytckkfjdkaimmhaa.M
namespace Go.Proofs.Ytckkfjdkaimmhaa.PX
open Go.RowKit Go.Proofs.Ytckkfjdkaimmhaa.G Go.Proofs.YtckkfjdkaimmhaaW.PrintWords Go.Proofs.YtckkfjdkaimmhaaW.PrintLast Go.Proofs.YtckkfjdkaimmhaaW.PrintMore
attribute [local go_sem] max2_int min2_int Yd Yg Xh Xf Xq Xp   -- for this text's walks alone
set_option linter.unusedVariables false
set_option linter.unusedSimpArgs false
end Go.Proofs.Ytckkfjdkaimmhaa.PX
namespace Go.Proofs.Ytckkfjdkaimmhaa.M
open Go.RowKit Go.Proofs.YtckkfjdkaimmhaaW.PrintWords Go.Proofs.Ytckkfjdkaimmhaa.PX Go.Proofs.Ytckkfjdkaimmhaa.G
def sB (x : Int) : UInt8 := if x > 0 then 43 else 45
def jG0 (A B C D : Int) : ByteArray := ⟨#[43, sB (-A * B), sB (A * C), sB (-A * D)]⟩
def pm : List Int := [1, -1]
def jOz : Bool := pm.all fun A => pm.all fun B => pm.all fun C => pm.all fun D => decide (Q3.l0 20 ([] : List Int) [A, wrap64 (-B), C, wrap64 (-D)] 4 0 = some (jG0 A B C D))
theorem jId : jOz = true := by decide +kernel
theorem jHv {x : Int} (h : x = 1 ∨ x = -1) : x ∈ pm := by rcases h with h | h <;> rw [h] <;> decide
theorem jK7 {A B C D : Int} (hA : A = 1 ∨ A = -1) (hB : B = 1 ∨ B = -1) (hC : C = 1 ∨ C = -1) (hD : D = 1 ∨ D = -1) : Ev (fun k => Q3.l0 k ([] : List Int) [A, wrap64 (-B), C, wrap64 (-D)] 4 0) (jG0 A B C D) := by
 have h := jId
 have h := List.all_eq_true.1 h A (jHv hA)
 have h := List.all_eq_true.1 h B (jHv hB)
 have h := List.all_eq_true.1 h C (jHv hC)
 have h := List.all_eq_true.1 h D (jHv hD)
 exact Ev.of (fun k => Q3.mono_l k _ _ _ _) (of_decide_eq_true h)
theorem jAb {n : Nat} {t : ByteArray} (h : Y1 n t = true) {a b c d : Nat} (ha : a < n) (hb : b < n) (hc : c < n) (hd : d < n) (e1 : a ≠ b) (e2 : a ≠ c) (e3 : a ≠ d) (e4 : b ≠ c) (e5 : b ≠ d) (e6 : c ≠ d) :
  Ev (fun k => Q3.f k (Vv n t) (a : Int) (b : Int) (c : Int) (d : Int)) (jG0 (chi n t b c d) (chi n t a c d) (chi n t a b d) (chi n t a b c)) := by
 obtain ⟨⟨h0, h1⟩, _, _⟩ := (Z7 _ _).1 h
 have h0 : 3 ≤ n := by omega
 have h1 : n ≤ 7 := by omega
 unfold Q3.f
 refine Qm (by omega) (Qm (by omega) (Qm (by omega) (Qm (by omega) (Qm (by omega) (Qm (by omega) (Qm (by omega) (Qm (by omega) ?_)))))))
 rw [Wi n t b c d (by omega) (by omega) (by omega), Wi n t a c d (by omega) (by omega) (by omega), Wi n t a b d (by omega) (by omega) (by omega), Wi n t a b c (by omega) (by omega) (by omega)]
 exact Zv rfl (jK7 (Vf t h0 h1 hb hc hd e4 e6 e5) (Vf t h0 h1 ha hc hd e2 e6 e3) (Vf t h0 h1 ha hb hd e1 e5 e3) (Vf t h0 h1 ha hb hc e1 e4 e2))
theorem jP7 {x : Int} : ∃ v : ByteArray, Xd.f x = some v ∧ v = ⟨#[sB x]⟩ := by
 unfold Xd.f sB
 split
 ·exact ⟨_, rfl, rfl⟩
 ·exact ⟨_, rfl, rfl⟩
theorem jCe (x : Int) : Xd.f x = some ⟨#[sB x]⟩ := by
 obtain ⟨v, h, e⟩ := jP7 (x := x)
 rw [h, e]
theorem jDe {n : Nat} {t : ByteArray} (h : Y1 n t = true) {a b c d : Nat} (ha : a < n) (hb : b < n) (hc : c < n) (hd : d < n) (e1 : a ≠ b) (e2 : a ≠ c) (e3 : a ≠ d) (e4 : b ≠ c) (e5 : b ≠ d) (e6 : c ≠ d) :
  Ev (fun k => Zr.f k (n : Int) t (a : Int) (b : Int) (c : Int) (d : Int)) (jG0 (chi n t b c d) (chi n t a c d) (chi n t a b d) (chi n t a b c)) := by
 obtain ⟨⟨h0, h1⟩, _, _⟩ := (Z7 _ _).1 h
 have h0 : 3 ≤ n := by omega
 have h1 : n ≤ 7 := by omega
 unfold Zr.f
 refine Ev.bind (Km h hb hc hd e4 e6 e5) (Ev.bind (Km h ha hc hd e2 e6 e3) (Zv (jCe _) (Qm (by show (1 : Nat) + 1 ≤ 9223372036854775807; omega) ?_)))
 refine Ev.bind (Km h ha hb hd e1 e5 e3) (Zv (jCe _) (Qm (by show (1 : Nat) + 1 + 1 ≤ 9223372036854775807; omega) ?_))
 refine Ev.bind (Km h ha hb hc e1 e4 e2) (Zv (jCe _) (Qm (by show (1 : Nat) + 1 + 1 + 1 ≤ 9223372036854775807; omega) (Y5 (Ev.now _) ?_)))
 rcases Vf t h0 h1 hb hc hd e4 e6 e5 with A | A <;> rcases Vf t h0 h1 ha hc hd e2 e6 e3 with B | B <;> rcases Vf t h0 h1 ha hb hd e1 e5 e3 with C | C <;> rcases Vf t h0 h1 ha hb hc e1 e4 e2 with D | D <;> rw [A, B, C, D] <;> decide +kernel
def Um (n : Nat) (t : ByteArray) (q : Nat × Nat × Nat × Nat) : Bool := decide ((jG0 (chi n t q.2.1 q.2.2.1 q.2.2.2) (chi n t q.1 q.2.2.1 q.2.2.2) (chi n t q.1 q.2.1 q.2.2.2) (chi n t q.1 q.2.1 q.2.2.1)).toList = ([43, 43, 43, 43] : List UInt8))
def jNt (n : Nat) (t : ByteArray) : Bool := !((Z4 n).any (Um n t))
theorem jGc {n : Nat} (h0 : 3 ≤ n) (h1 : n ≤ 7) : jAq n = Z4 n ∧ (Z4 n).length ≤ 35 := by
 refine five (p := fun n => jAq n = Z4 n ∧ (Z4 n).length ≤ 35) h0 h1 ?_ ?_ ?_ ?_ ?_ <;> decide +kernel
theorem jK5 {n : Nat} {t : ByteArray} (h : Y1 n t = true) : Ev (fun k => Qr.f k (n : Int) t) (jNt n t) := by
 obtain ⟨⟨h0, h1⟩, _, _⟩ := (Z7 _ _).1 h
 have h0 : 3 ≤ n := by omega
 have h1 : n ≤ 7 := by omega
 unfold Qr.f
 have key := jP9 (σ := Unit) (ρ := Bool) (n := n) (K := fun _ _ => some true) (L0 := fun a _ k => Qr.l0 k a (n : Int) t) (L1 := fun a b _ k => Qr.l1 k a b (n : Int) t) (L2 := fun a b c _ k => Qr.l2 k a b c (n : Int) t)
  (L3 := fun a b c d _ k => Qr.l3 k a b c d (n : Int) t) (fun _ q => if Um n t q then .error false else .ok ()) (fun u => ?_) (fun a ha u => ?_) (fun a ha u => ?_) (fun a b hab hb u => ?_) (fun a b hab hb u => ?_) (fun a b c hab hbc hc u => ?_) (fun a b c hab hbc hc u => ?_) (fun a b c d hab hbc hcd hd u => ?_) ()
 ·rw [Yj] at key
  unfold jNt
  cases hq : (Z4 n).any (Um n t) with
  | true => rw [hq] at key; exact key
  | false => rw [hq] at key; exact key _ (Ev.now _)
 ·refine Goes.step ?_
  simp only [Qr.l0]
  exact Goes.neg (by omega) (Goes.ok (K := fun _ _ => some true) u)
 ·refine Goes.step ?_
  simp only [Qr.l0]
  refine Goes.pos (by omega) ?_
  rw [Qp (by omega) (by omega)]
  exact Goes.ok (K := fun _ k => Qr.l1 k (a : Int) ((a + 1 : Nat) : Int) (n : Int) t) u
 ·refine Goes.step ?_
  simp only [Qr.l1]
  refine Goes.neg (by omega) ?_
  rw [Qp (by omega) (by omega)]
  exact Goes.ok (K := fun _ k => Qr.l0 k ((a + 1 : Nat) : Int) (n : Int) t) u
 ·refine Goes.step ?_
  simp only [Qr.l1]
  refine Goes.pos (by omega) ?_
  rw [Qp (by omega) (by omega)]
  exact Goes.ok (K := fun _ k => Qr.l2 k (a : Int) (b : Int) ((b + 1 : Nat) : Int) (n : Int) t) u
 ·refine Goes.step ?_
  simp only [Qr.l2]
  refine Goes.neg (by omega) ?_
  rw [Qp (by omega) (by omega)]
  exact Goes.ok (K := fun _ k => Qr.l1 k (a : Int) ((b + 1 : Nat) : Int) (n : Int) t) u
 ·refine Goes.step ?_
  simp only [Qr.l2]
  refine Goes.pos (by omega) ?_
  rw [Qp (by omega) (by omega)]
  exact Goes.ok (K := fun _ k => Qr.l3 k (a : Int) (b : Int) (c : Int) ((c + 1 : Nat) : Int) (n : Int) t) u
 ·refine Goes.step ?_
  simp only [Qr.l3]
  refine Goes.neg (by omega) ?_
  rw [Qp (by omega) (by omega)]
  exact Goes.ok (K := fun _ k => Qr.l2 k (a : Int) (b : Int) ((c + 1 : Nat) : Int) (n : Int) t) u
 ·refine Goes.step ?_
  simp only [Qr.l3]
  refine Goes.pos (by omega) (Goes.ev (jDe h (by omega) (by omega) (by omega) hd (by omega) (by omega) (by omega) (by omega) (by omega) (by omega)) ?_)
  rw [Qp (by omega) (by omega)]
  by_cases g : Um n t (a, b, c, d) = true
  ·rw [if_pos g]
   exact Goes.pos (of_decide_eq_true g) (Goes.ret _)
  ·rw [if_neg g]
   exact Goes.neg (fun e => g (decide_eq_true e)) (Goes.ok (K := fun _ k => Qr.l3 k (a : Int) (b : Int) (c : Int) ((d + 1 : Nat) : Int) (n : Int) t) u)
theorem jJy {n : Nat} {t : ByteArray} (h : Y1 n t = true) : Ev (fun k => J8.f k (Vv n t)) (jNt n t) := by
 obtain ⟨⟨h0, h1⟩, _, _⟩ := (Z7 _ _).1 h
 have h0 : 3 ≤ n := by omega
 have h1 : n ≤ 7 := by omega
 obtain ⟨hq, aA⟩ := jGc h0 h1
 unfold J8.f
 rw [jEa]
 refine Ev.bind (jEd h0 h1) ?_
 rw [hq]
 have hl : ((Z4 n).map jAg).length = (Z4 n).length := List.length_map ..
 have key := Vx (σ := Unit) (ρ := Bool) (lo := 0) (n := (Z4 n).length) (K := fun _ _ => some true) (L := fun i _ k => J8.l0 k (Vv n t) ((Z4 n).map jAg) (((Z4 n).map jAg).length : Int) i)
  (fun _ i => if Um n t ((Z4 n).getD i (0, 0, 0, 0)) then .error false else .ok ()) (fun u => ?_) (fun i _ hi u => ?_) (by omega) ()
 ·rw [U2 (0, 0, 0, 0) (fun _ q => if Um n t q then (.error false : Except Bool Unit) else .ok ()), Yj] at key
  unfold jNt
  cases hq : (Z4 n).any (Um n t) with
  | true => rw [hq] at key; exact key
  | false => rw [hq] at key; exact key _ (Ev.now _)
 ·refine Goes.step ?_
  simp only [J8.l0]
  exact Goes.neg (by omega) (Goes.ok (K := fun _ _ => some true) u)
 ·have hg : (Z4 n).getD i (0, 0, 0, 0) = (Z4 n)[i] := by rw [List.getD_eq_getElem?_getD, List.getElem?_eq_getElem hi]; rfl
  have hm := List.getElem_mem hi
  rw [hg]
  refine Goes.step ?_
  simp only [J8.l0, jG6 hi]
  generalize (Z4 n)[i] = q at *
  obtain ⟨a, b, c, d⟩ := q
  obtain ⟨hab, hbc, hcd, hd⟩ := Wd hm
  simp only [jAg]
  refine Goes.pos (by omega) (Goes.pos (by omega) (Goes.pos (by omega) (Goes.ev (jAb h (by omega) (by omega) (by omega) hd (by omega) (by omega) (by omega) (by omega) (by omega) (by omega)) ?_)))
  rw [Qp (by omega) (by omega)]
  by_cases g : Um n t (a, b, c, d) = true
  ·rw [if_pos g]
   exact Goes.pos (of_decide_eq_true g) (Goes.ret _)
  ·rw [if_neg g]
   exact Goes.neg (fun e => g (decide_eq_true e)) (Goes.ok (K := fun _ k => J8.l0 k (Vv n t) ((Z4 n).map jAg) (((Z4 n).map jAg).length : Int) ((i + 1 : Nat) : Int)) u)
theorem jNe (n : Int) (t : ByteArray) (hs : t.size ≤ 9223372036854775807) : Yy.f n t = some (jB3 n t) := if_pos hs
theorem jL3 (n : Int) (t : ByteArray) (hs : t.size ≤ 9223372036854775807) : Ev (fun k => Yp.f k n t) (jB3 n t) := by
 unfold Yp.f jB3
 refine Ev.bind (jB0 n t hs) ?_
 cases h : Y1 n t with
 | true =>
  refine Qm (by trivial) (Ev.bind (jH8 n t hs) (Y5 (Ev.now _) ?_))
  cases jLn n t with
  | nil => rfl
  | cons x l => rw [Bool.true_and, List.isEmpty_cons, List.length_cons]; exact beq_eq_false_iff_ne.2 (by omega)
 | false => exact Jn (by decide) (Ev.now _)
theorem jEk {n : Int} {t : ByteArray} (h : jB3 n t = true) : Y1 n t = true := by
 unfold jB3 at h
 rw [Bool.and_eq_true] at h
 exact h.1
def Yi (n : Int) (t : ByteArray) : Bool := jB3 n t && jNt n.toNat t
theorem jHh (n : Int) (t : ByteArray) (hs : t.size ≤ 9223372036854775807) : Ev (fun k => Xr.f k n t) (Yi n t) := by
 unfold Xr.f Yi
 refine Zv (jNe n t hs) ?_
 cases h : jB3 n t with
 | false => exact Jn (by decide) (Ev.now _)
 | true =>
  have ha := jEk h
  obtain ⟨⟨h0, h1⟩, _, _⟩ := (Z7 _ _).1 ha
  obtain ⟨N, rfl⟩ : ∃ N : Nat, n = (N : Int) := Int.eq_ofNat_of_zero_le (by omega)
  exact Qm (by trivial) (Ev.bind (jBg ha) (Qm (Vw _ _) (Ev.bind (jJy ha) (Ev.now _))))
theorem V9 (n : Int) (t : ByteArray) (hs : t.size ≤ 9223372036854775807) : Ev (fun k => Jb.f k n t) (Yi n t) := by
 unfold Jb.f Yi
 refine Ev.bind (jL3 n t hs) ?_
 cases h : jB3 n t with
 | false => exact Jn (by decide) (Ev.now _)
 | true =>
  have ha := jEk h
  obtain ⟨⟨h0, h1⟩, _, _⟩ := (Z7 _ _).1 ha
  obtain ⟨N, rfl⟩ : ∃ N : Nat, n = (N : Int) := Int.eq_ofNat_of_zero_le (by omega)
  exact Qm (by trivial) (Ev.bind (jK5 ha) (Ev.now _))
end Go.Proofs.Ytckkfjdkaimmhaa.M
namespace Go.Proofs.Ytckkfjdkaimmhaa.M
open Go.RowKit Go.Proofs.YtckkfjdkaimmhaaW.PrintWords Go.Proofs.Ytckkfjdkaimmhaa.PX Go.Proofs.YtckkfjdkaimmhaaW.PrintMore
def jQa (set i : Int) : Int := Go.bits .and .i64 (shr .i64 set i) 1
def jFk (a b c : Int) : Int := Go.bits .or .i64 (Go.bits .or .i64 (shl .i64 1 a) (shl .i64 1 b)) (shl .i64 1 c)
def jPu (set i : Nat) : Nat := if set.testBit i then set - 2 ^ i else set
def jQ0 : Bool := (List.range 8).all fun k => decide (IntKind.u64.wrap (k : Int) = (k : Int)) && decide (shl .i64 1 (k : Int) = ((2 ^ k : Nat) : Int)) && decide (2 ^ k ≤ 128) &&
 ((List.range 128).all fun s => decide (jQa (s : Int) (k : Int) = if s.testBit k then 1 else 0))
theorem jLd : jQ0 = true := by decide +kernel
theorem jAh {k : Nat} (hk : k ≤ 7) : IntKind.u64.wrap (k : Int) = (k : Int) ∧ shl .i64 1 (k : Int) = ((2 ^ k : Nat) : Int) ∧ 2 ^ k ≤ 128 ∧ ∀ s : Nat, s < 128 → jQa (s : Int) (k : Int) = if s.testBit k then 1 else 0 := by
 have h := List.all_eq_true.1 jLd k (List.mem_range.2 (by omega))
 simp only [Bool.and_eq_true, decide_eq_true_eq, List.all_eq_true, List.mem_range] at h
 exact ⟨h.1.1.1, h.1.1.2, h.1.2, h.2⟩
theorem jAs {k : Nat} (hk : k ≤ 7) : IntKind.u64.wrap (k : Int) = (k : Int) := (jAh hk).1
theorem jDy {k : Nat} (hk : k ≤ 7) : shl .i64 1 (k : Int) = ((2 ^ k : Nat) : Int) := (jAh hk).2.1
theorem Kn {k : Nat} (hk : k ≤ 7) : 2 ^ k ≤ 128 := (jAh hk).2.2.1
theorem jJb {s k : Nat} (hs : s < 128) (hk : k ≤ 7) : jQa (s : Int) (k : Int) = if s.testBit k then 1 else 0 := (jAh hk).2.2.2 s hs
def jP5 : Bool := (List.range 128).all fun s => ((List.range 7).all fun i => decide (Go.bits .andNot .i64 (s : Int) (shl .i64 1 (i : Int)) = (jPu s i : Int)) && decide (jPu s i < 128) && ((List.range 7).all fun a => (jPu s i).testBit a == (s.testBit a && decide (a ≠ i)))) &&
 ((Xi 7).all fun q => (decide (Go.bits .and .i64 (s : Int) (jFk q.1 q.2.1 q.2.2) = jFk q.1 q.2.1 q.2.2)) == (s.testBit q.1 && s.testBit q.2.1 && s.testBit q.2.2)) &&
 ((List.range 7).all fun i => !decide (s < 2 ^ i) || (decide (Go.bits .or .i64 (s : Int) (shl .i64 1 (i : Int)) = ((s + 2 ^ i : Nat) : Int)) && ((List.range 7).all fun j => (s + 2 ^ i).testBit j == (s.testBit j || decide (j = i)))))
theorem jI7 : jP5 = true := by decide +kernel
theorem jFt {s : Nat} (hs : s < 128) : (∀ i : Nat, i < 7 → Go.bits .andNot .i64 (s : Int) (shl .i64 1 (i : Int)) = (jPu s i : Int) ∧ jPu s i < 128 ∧ ∀ a : Nat, a < 7 → (jPu s i).testBit a = (s.testBit a && decide (a ≠ i))) ∧
  (∀ a b c : Nat, a < b → b < c → c < 7 → (Go.bits .and .i64 (s : Int) (jFk a b c) = jFk a b c ↔ (s.testBit a = true ∧ s.testBit b = true ∧ s.testBit c = true))) ∧
  (∀ i : Nat, i < 7 → s < 2 ^ i → Go.bits .or .i64 (s : Int) (shl .i64 1 (i : Int)) = ((s + 2 ^ i : Nat) : Int) ∧ ∀ j : Nat, j < 7 → (s + 2 ^ i).testBit j = (s.testBit j || decide (j = i))) := by
 have h := List.all_eq_true.1 jI7 s (List.mem_range.2 hs)
 simp only [Bool.and_eq_true] at h
 obtain ⟨⟨h1, h2⟩, h3⟩ := h
 refine ⟨fun i hi => ?_, fun a b c hab hbc hc => ?_, fun i hi hlt => ?_⟩
 ·have h := List.all_eq_true.1 h1 i (List.mem_range.2 hi)
  simp only [Bool.and_eq_true, decide_eq_true_eq, List.all_eq_true, List.mem_range, beq_iff_eq] at h
  exact ⟨h.1.1, h.1.2, h.2⟩
 ·have h := List.all_eq_true.1 h2 (a, b, c) (jA1 hab hbc hc)
  have h := beq_iff_eq.1 h
  rw [← decide_eq_true_iff (p := Go.bits .and .i64 (s : Int) (jFk a b c) = jFk a b c), h, Bool.and_eq_true, Bool.and_eq_true, and_assoc]
 ·have h := List.all_eq_true.1 h3 i (List.mem_range.2 hi)
  rw [decide_eq_true hlt] at h
  simp only [Bool.not_true, Bool.false_or, Bool.and_eq_true, decide_eq_true_eq, List.all_eq_true, List.mem_range, beq_iff_eq] at h
  exact h
def jH6 (c : Nat → Bool) : Nat → Nat
 | 0 => 0
 | i + 1 => if c i then jH6 c i + 2 ^ i else jH6 c i
theorem jG4 (c : Nat → Bool) (i : Nat) : jH6 c i < 2 ^ i := by
 induction i with
 | zero => exact Nat.one_pos
 | succ i ih =>
  rw [jH6, Nat.pow_succ]
  split <;> omega
theorem jHe (c : Nat → Bool) {i : Nat} (hi : i ≤ 7) : jH6 c i < 128 := Nat.lt_of_lt_of_le (jG4 c i) (Kn hi)
theorem jHr (c : Nat → Bool) {i j : Nat} (hi : i ≤ 7) (hj : j < i) : (jH6 c i).testBit j = c j := by
 have key : ∀ i, i ≤ 7 → ∀ j, j < 7 → (jH6 c i).testBit j = (decide (j < i) && c j) := by
  intro i
  induction i with
  | zero => intro _ j _; simp [jH6]
  | succ i ih =>
   intro hi j hj
   rw [jH6]
   have := ih (by omega) j hj
   by_cases g : c i = true
   ·rw [if_pos g, ((jFt (jHe c (i := i) (by omega))).2.2 i (by omega) (jG4 c i)).2 j hj, this]
    by_cases e : j = i
    ·subst e; simp [g]
    ·rw [decide_eq_false e, Bool.or_false]
     congr 1
     exact decide_eq_decide.2 (by omega)
   ·rw [if_neg g, this]
    by_cases e : j = i
    ·subst e; simp [g]
    ·congr 1
     exact decide_eq_decide.2 (by omega)
 rw [key i hi j (by omega), decide_eq_true hj, Bool.true_and]
theorem jMc {n : Nat} (hn : n ≤ 7) : jH6 (fun _ => true) n = 2 ^ n - 1 := by
 induction n with
 | zero => rfl
 | succ n ih =>
  rw [jH6, if_pos rfl, ih (by omega), Nat.pow_succ]
  have : 0 < 2 ^ n := Nat.pow_pos (by omega)
  omega
theorem jAw {n j : Nat} (hn : n ≤ 7) (hj : j < n) : (2 ^ n - 1).testBit j = true := by
 rw [← jMc hn, jHr _ hn hj]
theorem jOi {n : Nat} (hn : n ≤ 7) : 2 ^ n - 1 < 128 := by
 have := Kn hn
 have : 0 < 2 ^ n := Nat.pow_pos (by omega)
 omega
def jA6 (s : Nat) : Int := match (List.range 7).find? (fun i => s == 2 ^ i) with | some i => (i : Int) | none => -1
def jO9 : Bool := (List.range 128).all fun s => decide (Zp.f 20 (s : Int) = some (jA6 s)) && decide (Zo.f 20 (s : Int) = some (jA6 s))
theorem jDs : jO9 = true := by decide +kernel
theorem jE4 {s : Nat} (hs : s < 128) : Ev (fun k => Zp.f k (s : Int)) (jA6 s) := by
 have h := List.all_eq_true.1 jDs s (List.mem_range.2 hs)
 simp only [Bool.and_eq_true, decide_eq_true_eq] at h
 exact Ev.of (Zp.mono _) h.1
theorem jK0 {s : Nat} (hs : s < 128) : Ev (fun k => Zo.f k (s : Int)) (jA6 s) := by
 have h := List.all_eq_true.1 jDs s (List.mem_range.2 hs)
 simp only [Bool.and_eq_true, decide_eq_true_eq] at h
 exact Ev.of (Zo.mono _) h.2
def Wn (s : Nat) : Nat := ((List.range 7).filter fun i => s.testBit i).length
end Go.Proofs.Ytckkfjdkaimmhaa.M
namespace Go.Proofs.Ytckkfjdkaimmhaa.M
open Go.RowKit Go.Proofs.YtckkfjdkaimmhaaW.PrintWords Go.Proofs.Ytckkfjdkaimmhaa.PX Go.Proofs.Ytckkfjdkaimmhaa.G Go.Proofs.YtckkfjdkaimmhaaW.PrintMore
def splitN (p q r : Bool) (a b c d : Nat) : Nat × Nat :=
 (2 ^ a + (if p then 2 ^ b else 0) + (if q then 2 ^ c else 0) + (if r then 2 ^ d else 0), (if p then 0 else 2 ^ b) + (if q then 0 else 2 ^ c) + (if r then 0 else 2 ^ d))
def jEv : List Bool := [true, false]
def Yq (a b c d : Nat) : Bool := decide (a ≠ b) && decide (a ≠ c) && decide (a ≠ d) && decide (b ≠ c) && decide (b ≠ d) && decide (c ≠ d)
def orS (l : List Nat) : Int := l.foldl (fun (s : Int) (k : Nat) => Go.bits .or .i64 s (shl .i64 1 (k : Int))) 0
def adS (l : List Nat) : Int := l.foldl (fun (s : Int) (k : Nat) => wrap64 (s + shl .i64 1 (k : Int))) 0
def jMh (l : List Nat) : Nat := l.foldl (fun s k => s + 2 ^ k) 0
def okL (l : List Nat) : Bool := decide (orS l = (jMh l : Int)) && decide (adS l = (jMh l : Int)) && decide (jMh l < 128)
def jR7 : Bool := (List.range 7).all fun a => (List.range 7).all fun b => (List.range 7).all fun c => (List.range 7).all fun d => !Yq a b c d || (okL [a, b, c, d] && okL [a, b, c] && okL [a, b] && okL [a] && okL [])
theorem jL8 : jR7 = true := by decide +kernel
theorem jP2 {a b c d : Nat} (ha : a < 7) (hb : b < 7) (hc : c < 7) (hd : d < 7) (h : Yq a b c d = true) : okL [a, b, c, d] = true ∧ okL [a, b, c] = true ∧ okL [a, b] = true ∧ okL [a] = true ∧ okL [] = true := by
 have g := List.all_eq_true.1 jL8 a (List.mem_range.2 ha)
 have g := List.all_eq_true.1 g b (List.mem_range.2 hb)
 have g := List.all_eq_true.1 g c (List.mem_range.2 hc)
 have g := List.all_eq_true.1 g d (List.mem_range.2 hd)
 rw [h] at g
 simp only [Bool.not_true, Bool.false_or, Bool.and_eq_true] at g
 exact ⟨g.1.1.1.1, g.1.1.1.2, g.1.1.2, g.1.2, g.2⟩
theorem Wp {l : List Nat} (h : okL l = true) : orS l = (jMh l : Int) ∧ adS l = (jMh l : Int) ∧ jMh l < 128 := by
 simp only [okL, Bool.and_eq_true, decide_eq_true_eq] at h
 exact ⟨h.1.1, h.1.2, h.2⟩
def pick (x : Bool) (b : Bool) (k : Nat) : List Nat := if b = x then [k] else []
def side (x p q r : Bool) (a b c d : Nat) : List Nat := pick x true a ++ pick x p b ++ pick x q c ++ pick x r d
theorem jBi {a b c d : Nat} (ha : a < 7) (hb : b < 7) (hc : c < 7) (hd : d < 7) (h : Yq a b c d = true) (x p q r : Bool) : okL (side x p q r a b c d) = true := by
 have h' : ∀ x y z w : Nat, x < 7 → y < 7 → z < 7 → w < 7 → Yq x y z w = true → okL [x, y, z, w] = true ∧ okL [x, y, z] = true ∧ okL [x, y] = true ∧ okL [x] = true ∧ okL [] = true := fun _ _ _ _ h1 h2 h3 h4 => jP2 h1 h2 h3 h4
 have e : ∀ x y z w : Nat, Yq x y z w = true ↔ (x ≠ y ∧ x ≠ z ∧ x ≠ w ∧ y ≠ z ∧ y ≠ w ∧ z ≠ w) := fun x y z w => by
  simp only [Yq, Bool.and_eq_true, decide_eq_true_eq]
  constructor <;> intro h <;> omega
 have h1 := h' a b c d ha hb hc hd h
 rw [e] at h
 have h2 := h' b c d a hb hc hd ha ((e _ _ _ _).2 (by omega))
 have h3 := h' a c d b ha hc hd hb ((e _ _ _ _).2 (by omega))
 have h4 := h' a b d c ha hb hd hc ((e _ _ _ _).2 (by omega))
 have h5 := h' b d a c hb hd ha hc ((e _ _ _ _).2 (by omega))
 have h6 := h' c d a b hc hd ha hb ((e _ _ _ _).2 (by omega))
 have h7 := h' a d b c ha hd hb hc ((e _ _ _ _).2 (by omega))
 have h8 := h' d a b c hd ha hb hc ((e _ _ _ _).2 (by omega))
 cases x <;> cases p <;> cases q <;> cases r <;> simp only [side, pick, List.append_nil, List.nil_append, List.cons_append, reduceCtorEq, if_true, if_false] <;> first | with_reducible exact h1.1 | with_reducible exact h1.2.1 | with_reducible exact h1.2.2.1 | with_reducible exact h1.2.2.2.1 | with_reducible exact h1.2.2.2.2 | with_reducible exact h2.1 | with_reducible exact h2.2.1 | with_reducible exact h2.2.2.1 | with_reducible exact h2.2.2.2.1 | with_reducible exact h3.2.1 | with_reducible exact h3.2.2.1 | with_reducible exact h4.2.1 | with_reducible exact h4.2.2.1 | with_reducible exact h5.2.2.1 | with_reducible exact h6.2.2.1 | with_reducible exact h6.2.2.2.1 | with_reducible exact h7.2.2.1 | with_reducible exact h8.2.2.2.1
theorem jD4 (p q r : Bool) (a b c d : Nat) : (jMh (side true p q r a b c d), jMh (side false p q r a b c d)) = splitN p q r a b c d := by
 cases p <;> cases q <;> cases r <;> simp [side, pick, jMh, splitN]
def chB (b : Bool) : UInt8 := if b then 43 else 45
def jBb (p q r : Bool) : ByteArray := ⟨#[43, chB p, chB q, chB r]⟩
theorem jKq (A B C D : Int) : jG0 A B C D = jBb (decide (-A * B > 0)) (decide (A * C > 0)) (decide (-A * D > 0)) := by
 have e : ∀ x : Int, sB x = chB (decide (x > 0)) := fun x => by
  unfold sB chB
  by_cases h : x > 0
  ·rw [if_pos h, decide_eq_true h, if_pos rfl]
  ·rw [if_neg h, decide_eq_false h, if_neg (by decide)]
 unfold jG0 jBb
 rw [e, e, e]
theorem rd4 (a b c d : Int) : rd [a, b, c, d] (0 : Nat) = a ∧ rd [a, b, c, d] (1 : Nat) = b ∧ rd [a, b, c, d] (2 : Nat) = c ∧ rd [a, b, c, d] (3 : Nat) = d := ⟨rfl, rfl, rfl, rfl⟩
theorem jLb {a b c d : Nat} {i : Nat} (hi : i < 4) : ∃ m : Nat, rd [(a : Int), (b : Int), (c : Int), (d : Int)] (i : Int) = (m : Int) ∧ (m = a ∨ m = b ∨ m = c ∨ m = d) := by
 have : i = 0 ∨ i = 1 ∨ i = 2 ∨ i = 3 := by omega
 rcases this with rfl | rfl | rfl | rfl
 ·exact ⟨a, rfl, by omega⟩
 ·exact ⟨b, rfl, by omega⟩
 ·exact ⟨c, rfl, by omega⟩
 ·exact ⟨d, rfl, by omega⟩
theorem jHm (p q r : Bool) : bt (jBb p q r) ((0 : Nat) : Int) = 43 ∧ (bt (jBb p q r) ((1 : Nat) : Int) = 43 ↔ p = true) ∧ (bt (jBb p q r) ((2 : Nat) : Int) = 43 ↔ q = true) ∧ (bt (jBb p q r) ((3 : Nat) : Int) = 43 ↔ r = true) := by
 cases p <;> cases q <;> cases r <;> decide +kernel
theorem jB5 (p q r : Bool) {a b c d : Nat} (ha : a < 7) (hb : b < 7) (hc : c < 7) (hd : d < 7) (h : Yq a b c d = true) :
  Ev (fun k => Ju.l0 k (jBb p q r) 0 0 [(a : Int), (b : Int), (c : Int), (d : Int)] 4 0) (((splitN p q r a b c d).1 : Int), ((splitN p q r a b c d).2 : Int)) := by
 have key := Vx (σ := Int × Int) (ρ := Int × Int) (lo := 0) (n := 4) (K := fun s _ => some s) (L := fun i s k => Ju.l0 k (jBb p q r) s.1 s.2 [(a : Int), (b : Int), (c : Int), (d : Int)] 4 i)
  (fun s i => .ok (if bt (jBb p q r) (i : Int) = 43 then (Go.bits .or .i64 s.1 (shl .i64 1 (rd [(a : Int), (b : Int), (c : Int), (d : Int)] (i : Int))), s.2) else (s.1, Go.bits .or .i64 s.2 (shl .i64 1 (rd [(a : Int), (b : Int), (c : Int), (d : Int)] (i : Int))))))
  (fun s => ?_) (fun i _ hi s => ?_) (by omega) (0, 0)
 ·rw [Xy] at key
  refine Y5 (key _ (Ev.now _)) ?_
  have o1 := (Wp (jBi ha hb hc hd h true p q r)).1
  have o2 := (Wp (jBi ha hb hc hd h false p q r)).1
  have e := jD4 p q r a b c d
  rw [← e]
  rw [← o1, ← o2]
  show (List.range' 0 4).foldl _ _ = _
  rw [show List.range' 0 4 = [0, 1, 2, 3] from rfl]
  obtain ⟨b0, b1, b2, b3⟩ := jHm p q r
  obtain ⟨r0, r1, r2, r3⟩ := rd4 (a : Int) (b : Int) (c : Int) (d : Int)
  simp only [List.foldl_cons, List.foldl_nil, r0, r1, r2, r3, b0, b1, b2, b3]
  cases p <;> cases q <;> cases r <;> rfl
 ·refine Goes.step ?_
  simp only [Ju.l0]
  exact Goes.neg (by omega) (Goes.ok (K := fun s _ => some s) s)
 ·obtain ⟨m, hm, aA⟩ := jLb (a := a) (b := b) (c := c) (d := d) hi
  refine Goes.step ?_
  simp only [Ju.l0]
  refine Goes.pos (by omega) (Goes.pos (by omega) (Goes.pos (by simp only [List.length_cons, List.length_nil]; omega) (Goes.pos (by show (i : Int) < 4; omega) ?_)))
  rw [Qp (by omega) (by omega)]
  by_cases g : bt (jBb p q r) (i : Int) = 43
  ·rw [if_pos g]
   exact Goes.pos g (Goes.pos (by rw [hm]; omega) (Goes.ok _))
  ·rw [if_neg g]
   exact Goes.neg g (Goes.pos (by rw [hm]; omega) (Goes.ok _))
theorem jB1 (p q r : Bool) {a b c d : Nat} (ha : a < 7) (hb : b < 7) (hc : c < 7) (hd : d < 7) (h : Yq a b c d = true) :
  Ev (fun k => J4.l0 k [(a : Int), (b : Int), (c : Int), (d : Int)] (jBb p q r) 0 0 0) (((splitN p q r a b c d).1 : Int), ((splitN p q r a b c d).2 : Int)) := by
 have key := Vx (σ := Int × Int) (ρ := Int × Int) (lo := 0) (n := 4) (K := fun s _ => some s) (L := fun i s k => J4.l0 k [(a : Int), (b : Int), (c : Int), (d : Int)] (jBb p q r) s.1 s.2 i)
  (fun s i => .ok (if bt (jBb p q r) (i : Int) = 43 then (wrap64 (s.1 + (shl .i64 1 (rd [(a : Int), (b : Int), (c : Int), (d : Int)] (i : Int)))), s.2) else (s.1, wrap64 (s.2 + (shl .i64 1 (rd [(a : Int), (b : Int), (c : Int), (d : Int)] (i : Int)))))))
  (fun s => ?_) (fun i _ hi s => ?_) (by omega) (0, 0)
 ·rw [Xy] at key
  refine Y5 (key _ (Ev.now _)) ?_
  have o1 := (Wp (jBi ha hb hc hd h true p q r)).2.1
  have o2 := (Wp (jBi ha hb hc hd h false p q r)).2.1
  have e := jD4 p q r a b c d
  rw [← e]
  rw [← o1, ← o2]
  show (List.range' 0 4).foldl _ _ = _
  rw [show List.range' 0 4 = [0, 1, 2, 3] from rfl]
  obtain ⟨b0, b1, b2, b3⟩ := jHm p q r
  obtain ⟨r0, r1, r2, r3⟩ := rd4 (a : Int) (b : Int) (c : Int) (d : Int)
  simp only [List.foldl_cons, List.foldl_nil, r0, r1, r2, r3, b0, b1, b2, b3]
  cases p <;> cases q <;> cases r <;> rfl
 ·refine Goes.step ?_
  simp only [J4.l0]
  exact Goes.neg (by omega) (Goes.ok (K := fun s _ => some s) s)
 ·obtain ⟨m, hm, aA⟩ := jLb (a := a) (b := b) (c := c) (d := d) hi
  have hu : IntKind.u64.wrap (rd [(a : Int), (b : Int), (c : Int), (d : Int)] (i : Int)) = rd [(a : Int), (b : Int), (c : Int), (d : Int)] (i : Int) := by
   rw [hm]; exact jAs (by omega)
  refine Goes.step ?_
  simp only [J4.l0, hu]
  refine Goes.pos (by omega) (Goes.pos (by omega) (Goes.pos (by show (i : Int) < 4; omega) ?_))
  rw [Qp (x := (i : Int) + 1) (by omega) (by omega)]
  by_cases g : bt (jBb p q r) (i : Int) = 43
  ·rw [if_pos g]
   exact Goes.pos g (Goes.pos (by simp only [List.length_cons, List.length_nil]; omega) (Goes.pos (by rw [hm]; omega) (Goes.ok _)))
  ·rw [if_neg g]
   exact Goes.neg g (Goes.pos (by simp only [List.length_cons, List.length_nil]; omega) (Goes.pos (by rw [hm]; omega) (Goes.ok _)))
def splitV (n : Nat) (t : ByteArray) (a b c d : Nat) : Nat × Nat := splitN (decide (-(chi n t b c d) * chi n t a c d > 0)) (decide (chi n t b c d * chi n t a b d > 0)) (decide (-(chi n t b c d) * chi n t a b c > 0)) a b c d
def K6 (n : Nat) (t : ByteArray) (a b c d : Nat) : Int := mx (jA6 (splitV n t a b c d).1) (jA6 (splitV n t a b c d).2)
theorem Q6 {a b c d : Nat} : Yq a b c d = true ↔ (a ≠ b ∧ a ≠ c ∧ a ≠ d ∧ b ≠ c ∧ b ≠ d ∧ c ≠ d) := by
 simp only [Yq, Bool.and_eq_true, decide_eq_true_eq]
 constructor <;> intro h <;> omega
theorem jB6 {n : Nat} (t : ByteArray) {a b c d : Nat} (ha : a < 7) (hb : b < 7) (hc : c < 7) (hd : d < 7) (h : Yq a b c d = true) : (splitV n t a b c d).1 < 128 ∧ (splitV n t a b c d).2 < 128 := by
 unfold splitV
 rw [← jD4]
 exact ⟨(Wp (jBi ha hb hc hd h true _ _ _)).2.2, (Wp (jBi ha hb hc hd h false _ _ _)).2.2⟩
section
variable {n : Nat} {t : ByteArray} (h : Y1 n t = true) {a b c d : Nat} (ha : a < n) (hb : b < n) (hc : c < n) (hd : d < n) (hx : Yq a b c d = true)
include h ha hb hc hd hx
theorem jC9 : Ev (fun k => Ju.f k (Vv n t) (a : Int) (b : Int) (c : Int) (d : Int)) (((splitV n t a b c d).1 : Int), ((splitV n t a b c d).2 : Int)) := by
 obtain ⟨⟨h0, h1⟩, _, _⟩ := (Z7 _ _).1 h
 obtain ⟨e1, e2, e3, e4, e5, e6⟩ := Q6.1 hx
 unfold Ju.f
 refine Ev.bind (jAb h ha hb hc hd e1 e2 e3 e4 e5 e6) (Zv rfl ?_)
 rw [jKq]
 exact jB5 _ _ _ (by omega) (by omega) (by omega) (by omega) hx
theorem jDi : Ev (fun k => J4.f k (n : Int) t [(a : Int), (b : Int), (c : Int), (d : Int)]) (((splitV n t a b c d).1 : Int), ((splitV n t a b c d).2 : Int)) := by
 obtain ⟨⟨h0, h1⟩, _, _⟩ := (Z7 _ _).1 h
 obtain ⟨e1, e2, e3, e4, e5, e6⟩ := Q6.1 hx
 unfold J4.f
 refine Qm (by simp only [List.length_cons, List.length_nil]; omega) (Qm (by simp only [List.length_cons, List.length_nil]; omega) (Qm (by simp only [List.length_cons, List.length_nil]; omega) (Qm (by simp only [List.length_cons, List.length_nil]; omega) ?_)))
 refine Ev.bind (jDe h ha hb hc hd e1 e2 e3 e4 e5 e6) ?_
 rw [jKq]
 exact jB1 _ _ _ (by omega) (by omega) (by omega) (by omega) hx
end
theorem jAi (n : Int) (t : ByteArray) (hs : t.size ≤ 9223372036854775807) : Ev (fun k => Z6.f k n t) (if Yi n t = true then (Vv n.toNat t, true) else ([], false)) := by
 unfold Z6.f
 refine Ev.bind (jHh n t hs) ?_
 by_cases h : Yi n t = true
 ·rw [if_pos h]
  have ha : Y1 n t = true := by
   unfold Yi at h
   rw [Bool.and_eq_true] at h
   exact jEk h.1
  obtain ⟨⟨h0, h1⟩, _, _⟩ := (Z7 _ _).1 ha
  obtain ⟨N, rfl⟩ : ∃ N : Nat, n = (N : Int) := Int.eq_ofNat_of_zero_le (by omega)
  exact Qm h (Ev.bind (jBg ha) (Ev.now _))
 ·rw [if_neg h]
  exact Jn h (Ev.now _)
theorem Yu {n : Int} {t : ByteArray} (h : Yi n t = true) : ∃ N : Nat, n = (N : Int) ∧ Y1 N t = true ∧ 3 ≤ N ∧ N ≤ 7 := by
 unfold Yi at h
 rw [Bool.and_eq_true] at h
 have ha := jEk h.1
 obtain ⟨⟨h0, h1⟩, _, _⟩ := (Z7 _ _).1 ha
 obtain ⟨N, rfl⟩ : ∃ N : Nat, n = (N : Int) := Int.eq_ofNat_of_zero_le (by omega)
 exact ⟨N, rfl, ha, by omega, by omega⟩
theorem jMz (a b : Int) : Yv.f a b = some (mx a b) := by
 unfold Yv.f mx
 split <;> simp <;> omega
section
variable {n : Nat} {t : ByteArray} (h : Y1 n t = true) {a b c d : Nat} (ha : a < n) (hb : b < n) (hc : c < n) (hd : d < n) (hx : Yq a b c d = true)
include h ha hb hc hd hx
theorem jIb : Ev (fun k => Yw.f k (Vv n t) (a : Int) (b : Int) (c : Int) (d : Int)) (K6 n t a b c d) := by
 obtain ⟨⟨h0, h1⟩, _, _⟩ := (Z7 _ _).1 h
 obtain ⟨l1, l2⟩ := jB6 t (a := a) (b := b) (c := c) (d := d) (n := n) (by omega) (by omega) (by omega) (by omega) hx
 unfold Yw.f
 exact Ev.bind (jC9 h ha hb hc hd hx) (Ev.bind (jE4 l1) (Ev.bind (jE4 l2) (Ev.now _)))
theorem jDq : Ev (fun k => Yf.f k (n : Int) t [(a : Int), (b : Int), (c : Int), (d : Int)]) (K6 n t a b c d) := by
 obtain ⟨⟨h0, h1⟩, _, _⟩ := (Z7 _ _).1 h
 obtain ⟨l1, l2⟩ := jB6 t (a := a) (b := b) (c := c) (d := d) (n := n) (by omega) (by omega) (by omega) (by omega) hx
 unfold Yf.f
 exact Ev.bind (jDi h ha hb hc hd hx) (Ev.bind (jK0 l1) (Ev.bind (jK0 l2) (Zv (jMz _ _) (Ev.now _))))
theorem jGr : Ev (fun k => Z8.f k (Vv n t) (a : Int) (b : Int) (c : Int) (d : Int)) (K6 n t a b c d == (a : Int)) := by
 unfold Z8.f
 exact Ev.bind (jIb h ha hb hc hd hx) (Ev.now _)
end
end Go.Proofs.Ytckkfjdkaimmhaa.M
namespace Go.Proofs.Ytckkfjdkaimmhaa.PX
open Go.RowKit Go.Proofs.Ytckkfjdkaimmhaa.G Go.Proofs.YtckkfjdkaimmhaaW.PrintWords Go.Proofs.YtckkfjdkaimmhaaW.PrintLast Go.Proofs.YtckkfjdkaimmhaaW.PrintMore
attribute [local go_sem] max2_int min2_int Yd Yg Xh Xf Xq Xp   -- for this text's walks alone
set_option linter.unusedVariables false
set_option linter.unusedSimpArgs false
end Go.Proofs.Ytckkfjdkaimmhaa.PX
namespace Go.Proofs.Ytckkfjdkaimmhaa.M
open Go.RowKit Go.Proofs.YtckkfjdkaimmhaaW.PrintWords Go.Proofs.Ytckkfjdkaimmhaa.PX Go.Proofs.Ytckkfjdkaimmhaa.G Go.Proofs.YtckkfjdkaimmhaaW.PrintMore
def Kw (n : Nat) (t : ByteArray) (q : Nat × Nat × Nat × Nat) : Bool := decide (K6 n t q.1 q.2.1 q.2.2.1 q.2.2.2 < 0)
def jOo (q : Nat × Nat × Nat × Nat) : List Int := [(q.1 : Int), (q.2.1 : Int), (q.2.2.1 : Int), (q.2.2.2 : Int)]
def jHj (n : Nat) (t : ByteArray) : List (List Int) := ((Z4 n).filter (Kw n t)).map jOo
def jE1 (n : Int) (t : ByteArray) : List (List Int) := if Yi n t = true then jHj n.toNat t else []
theorem jIf (n : Nat) (t : ByteArray) : (Z4 n).foldlM (fun (u : List (List Int)) q => (.ok (if Kw n t q then u ++ [jOo q] else u) : Except (List (List Int)) (List (List Int)))) [] = .ok (jHj n t) := by
 rw [Xy, foldl_filter, List.nil_append]
 rfl
theorem jIe (n : Int) (t : ByteArray) (hs : t.size ≤ 9223372036854775807) : Ev (fun k => Qy.f k n t) (jE1 n t) := by
 unfold Qy.f jE1
 refine Zv rfl (Ev.bind (V9 n t hs) ?_)
 by_cases h : Yi n t = true
 ·rw [if_pos h]
  refine Qm h ?_
  obtain ⟨N, rfl, ho, h0, h1⟩ := Yu h
  simp only [Int.toNat_natCast]
  have key := jPa (σ := List (List Int)) (ρ := List (List Int)) (n := N) (K := fun s _ => some s) (L0 := fun a s k => Qy.l0 k s a (N : Int) t) (L1 := fun a b s k => Qy.l1 k s a b (N : Int) t) (L2 := fun a b c s k => Qy.l2 k s a b c (N : Int) t)
   (L3 := fun a b c d s k => Qy.l3 k s a b c d (N : Int) t) h1 List.length 0 (fun s q => .ok (if Kw N t q then s ++ [jOo q] else s)) (Wq _ _ fun s a => by split <;> simp)
   (fun s => ?_) (fun a ha s => ?_) (fun a ha s => ?_) (fun a b hab hb s => ?_) (fun a b hab hb s => ?_) (fun a b c hab hbc hc s => ?_) (fun a b c hab hbc hc s => ?_) (fun a b c d hab hbc hcd hd s hs => ?_) [] (Nat.le_refl _)
  ·rw [jIf] at key
   exact key _ (Ev.now _)
  ·refine Goes.step ?_
   simp only [Qy.l0]
   exact Goes.neg (by omega) (Goes.ok (K := fun s _ => some s) s)
  ·refine Goes.step ?_
   simp only [Qy.l0]
   refine Goes.pos (by omega) ?_
   rw [Qp (by omega) (by omega)]
   exact Goes.ok (K := fun s k => Qy.l1 k s (a : Int) ((a + 1 : Nat) : Int) (N : Int) t) s
  ·refine Goes.step ?_
   simp only [Qy.l1]
   refine Goes.neg (by omega) ?_
   rw [Qp (by omega) (by omega)]
   exact Goes.ok (K := fun s k => Qy.l0 k s ((a + 1 : Nat) : Int) (N : Int) t) s
  ·refine Goes.step ?_
   simp only [Qy.l1]
   refine Goes.pos (by omega) ?_
   rw [Qp (by omega) (by omega)]
   exact Goes.ok (K := fun s k => Qy.l2 k s (a : Int) (b : Int) ((b + 1 : Nat) : Int) (N : Int) t) s
  ·refine Goes.step ?_
   simp only [Qy.l2]
   refine Goes.neg (by omega) ?_
   rw [Qp (by omega) (by omega)]
   exact Goes.ok (K := fun s k => Qy.l1 k s (a : Int) ((b + 1 : Nat) : Int) (N : Int) t) s
  ·refine Goes.step ?_
   simp only [Qy.l2]
   refine Goes.pos (by omega) ?_
   rw [Qp (by omega) (by omega)]
   exact Goes.ok (K := fun s k => Qy.l3 k s (a : Int) (b : Int) (c : Int) ((c + 1 : Nat) : Int) (N : Int) t) s
  ·refine Goes.step ?_
   simp only [Qy.l3]
   refine Goes.neg (by omega) ?_
   rw [Qp (by omega) (by omega)]
   exact Goes.ok (K := fun s k => Qy.l2 k s (a : Int) (b : Int) ((c + 1 : Nat) : Int) (N : Int) t) s
  ·refine Goes.step ?_
   simp only [Qy.l3]
   refine Goes.pos (by omega) (Goes.call rfl (Goes.ev (jDq ho (by omega) (by omega) (by omega) hd (Q6.2 (by omega))) ?_))
   rw [Qp (by omega) (by omega)]
   by_cases g : K6 N t a b c d < 0
   ·rw [show Kw N t (a, b, c, d) = true from decide_eq_true g]
    exact Goes.pos g (Goes.pos (by omega) (Goes.ok (K := fun s k => Qy.l3 k s (a : Int) (b : Int) (c : Int) ((d + 1 : Nat) : Int) (N : Int) t) _))
   ·rw [show Kw N t (a, b, c, d) = false from decide_eq_false g]
    exact Goes.neg g (Goes.ok (K := fun s k => Qy.l3 k s (a : Int) (b : Int) (c : Int) ((d + 1 : Nat) : Int) (N : Int) t) _)
 ·rw [if_neg h]
  exact Jn h (Ev.now _)
end Go.Proofs.Ytckkfjdkaimmhaa.M
namespace Go.Proofs.Ytckkfjdkaimmhaa.PX
open Go.RowKit Go.Proofs.Ytckkfjdkaimmhaa.G Go.Proofs.YtckkfjdkaimmhaaW.PrintWords Go.Proofs.YtckkfjdkaimmhaaW.PrintLast Go.Proofs.YtckkfjdkaimmhaaW.PrintMore
attribute [local go_sem] max2_int min2_int Yd Yg Xh Xf Xq Xp   -- for this text's walks alone
set_option linter.unusedVariables false
set_option linter.unusedSimpArgs false
end Go.Proofs.Ytckkfjdkaimmhaa.PX
namespace Go.Proofs.Ytckkfjdkaimmhaa.M
open Go.RowKit Go.Proofs.YtckkfjdkaimmhaaW.PrintWords Go.Proofs.Ytckkfjdkaimmhaa.PX Go.Proofs.Ytckkfjdkaimmhaa.G Go.Proofs.YtckkfjdkaimmhaaW.PrintMore
def jEf (n : Int) (t : ByteArray) : Int := if Yi n t = true then ((jE1 n t).length : Int) else -1
theorem jJ7 (n : Int) (t : ByteArray) (hs : t.size ≤ 9223372036854775807) : Ev (fun k => Yr.f k n t) (jEf n t) := by
 unfold Yr.f jEf
 refine Ev.bind (V9 n t hs) ?_
 by_cases h : Yi n t = true
 ·rw [if_pos h]
  exact Qm h (Ev.bind (jIe n t hs) (Ev.now _))
 ·rw [if_neg h]
  exact Jn h (Ev.now _)
def leftV (n : Nat) (t : ByteArray) (i j : Nat) : Nat := ((List.range' 0 n).filter fun k => decide (chi n t i j k = 1)).length
theorem jDd (c : Nat → Bool) (l : List Nat) : ∀ s : Nat, l.foldl (fun s k => if c k = true then s + 1 else s) s = s + (l.filter c).length := by
 induction l with
 | nil => intro s; rfl
 | cons x l ih =>
  intro s
  rw [List.foldl_cons, ih, List.filter_cons]
  cases c x
  ·rfl
  ·simp only [if_true, List.length_cons]; omega
theorem Wt (n : Nat) (t : ByteArray) (i j : Nat) : leftV n t i j ≤ n := by
 unfold leftV
 exact Nat.le_trans (List.length_filter_le _ _) (by rw [List.length_range']; omega)
theorem Ud {n : Nat} {t : ByteArray} (h : Y1 n t = true) {i j : Nat} (hi : i < n) (hj : j < n) : Ev (fun k => Jm.f k (Vv n t) (i : Int) (j : Int)) (leftV n t i j : Int) := by
 obtain ⟨⟨h0, h1⟩, _, _⟩ := (Z7 _ _).1 h
 unfold Jm.f
 have key := X7 (σ := Nat) (ρ := Int) (lo := 0) (n := n) (K := fun s _ => some (s : Int)) (L := fun x s k => Jm.l0 k (Vv n t) (i : Int) (j : Int) (s : Int) x) (fun x s => s ≤ x)
  (fun s x => .ok (if decide (chi n t i j x = 1) = true then s + 1 else s)) (fun s _ => ?_) (fun x _ hx s hs => ?_) (fun x _ hx s hs s' e => ?_) (by omega) 0 (Nat.le_refl _)
 ·rw [Xy, jDd] at key
  refine Y5 (key _ (Ev.now _)) ?_
  rw [Nat.zero_add]
  rfl
 ·refine Goes.step ?_
  simp only [Jm.l0, jEa]
  exact Goes.neg (by omega) (Goes.ok (K := fun s _ => some (s : Int)) s)
 ·refine Goes.step ?_
  simp only [Jm.l0, jEa]
  rw [Wi n t i j x (by omega) (by omega) (by omega), Qp (x := (x : Int) + 1) (by omega) (by omega), Qp (x := (s : Int) + 1) (by omega) (by omega)]
  refine Goes.pos (by omega) (Goes.pos (by omega) (Goes.pos (by omega) (Goes.pos (by omega) (Goes.pos (by omega) (Goes.pos (by omega) (Goes.pos (by omega) ?_))))))
  by_cases g : chi n t i j x = 1
  ·rw [decide_eq_true g, if_pos rfl]
   exact Goes.pos g (Goes.ok (K := fun (s : Nat) k => Jm.l0 k (Vv n t) (i : Int) (j : Int) (s : Int) ((x + 1 : Nat) : Int)) (s + 1))
  ·rw [decide_eq_false g, if_neg (by decide)]
   exact Goes.neg g (Goes.ok (K := fun (s : Nat) k => Jm.l0 k (Vv n t) (i : Int) (j : Int) (s : Int) ((x + 1 : Nat) : Int)) s)
 ·cases e
  split <;> omega
theorem Kz {n : Nat} {t : ByteArray} (h : Y1 n t = true) {i j : Nat} (hi : i < n) (hj : j < n) (hij : i ≠ j) : Ev (fun k => Jy.f k (n : Int) t (i : Int) (j : Int)) (leftV n t i j : Int) := by
 obtain ⟨⟨h0, h1⟩, _, _⟩ := (Z7 _ _).1 h
 unfold Jy.f
 have hb1 : ∀ x : Bool, X9.f x = some (if x = true then 1 else 0) := fun x => by unfold X9.f; split <;> rfl
 have key := X7 (σ := Nat) (ρ := Int) (lo := 0) (n := n) (K := fun s _ => some (s : Int)) (L := fun x s k => Jy.l0 k (i : Int) (j : Int) (s : Int) x (n : Int) t) (fun x s => s ≤ x)
  (fun s x => .ok (if decide (chi n t i j x = 1) = true then s + 1 else s)) (fun s _ => ?_) (fun x _ hx s hs => ?_) (fun x _ hx s hs s' e => ?_) (by omega) 0 (Nat.le_refl _)
 ·rw [Xy, jDd] at key
  refine Y5 (key _ (Ev.now _)) ?_
  rw [Nat.zero_add]
  rfl
 ·refine Goes.step ?_
  simp only [Jy.l0]
  exact Goes.neg (by omega) (Goes.ok (K := fun s _ => some (s : Int)) s)
 ·have fin : ∀ (v : Bool), v = decide (chi n t i j x = 1) → Goes (.ok (if decide (chi n t i j x = 1) = true then s + 1 else s)) (fun (s : Nat) k => Jy.l0 k (i : Int) (j : Int) (s : Int) ((x + 1 : Nat) : Int) (n : Int) t)
    (fun k => (X9.f v).bind fun aA => Jy.l0 k (i : Int) (j : Int) (wrap64 ((s : Int) + aA)) ((x + 1 : Nat) : Int) (n : Int) t) := by
   intro v hv
   refine Goes.call (hb1 v) ?_
   rw [← hv]
   cases v
   ·rw [if_neg (by decide), if_neg (by decide), Qp (by omega) (by omega), show (s : Int) + 0 = (s : Int) by omega]
    exact Goes.ok (K := fun (s : Nat) k => Jy.l0 k (i : Int) (j : Int) (s : Int) ((x + 1 : Nat) : Int) (n : Int) t) s
   ·rw [if_pos rfl, if_pos rfl, Qp (by omega) (by omega)]
    exact Goes.ok (K := fun (s : Nat) k => Jy.l0 k (i : Int) (j : Int) (s : Int) ((x + 1 : Nat) : Int) (n : Int) t) (s + 1)
  refine Goes.step ?_
  simp only [Jy.l0]
  rw [Qp (x := (x : Int) + 1) (by omega) (by omega)]
  refine Goes.pos (by omega) ?_
  by_cases g1 : x = i
  ·subst g1
   refine Goes.pos rfl (fin false ?_)
   rw [(Vq t (by omega) (by omega) (show x < 7 by omega) (show j < 7 by omega)).2.1]
   rfl
  ·refine Goes.neg (by omega) ?_
   by_cases g2 : x = j
   ·subst g2
    refine Goes.pos rfl (fin false ?_)
    rw [(Vq t (by omega) (by omega) (show x < 7 by omega) (show i < 7 by omega)).2.2]
    rfl
   ·refine Goes.neg (by omega) (Goes.ev (Km h hi hj hx hij (by omega) (by omega)) (fin _ ?_))
    rcases jE3 n t i j x with e | e | e <;> rw [e] <;> rfl
 ·cases e
  split <;> omega
theorem count_one : ∀ n : Nat, n ≤ 7 → ∀ i : Nat, i < n → ((List.range' 0 n).filter fun k => decide (k = i)).length = 1 := by decide +kernel
theorem jIl (p q r u : Nat → Bool) (l : List Nat) (h : ∀ k ∈ l, (if p k then 1 else 0) + (if q k then 1 else 0) + (if r k then 1 else 0) + (if u k then 1 else 0) = 1) :
  (l.filter p).length + (l.filter q).length + (l.filter r).length + (l.filter u).length = l.length := by
 induction l with
 | nil => rfl
 | cons x l ih =>
  have h1 := ih fun k hk => h k (List.mem_cons_of_mem _ hk)
  have h2 := h x List.mem_cons_self
  rw [List.filter_cons, List.filter_cons, List.filter_cons, List.filter_cons, List.length_cons]
  revert h2
  cases p x <;> cases q x <;> cases r x <;> cases u x <;> simp only [if_true, if_false, List.length_cons, Bool.false_eq_true] <;> intro h2 <;> omega
theorem K4 {n : Nat} (t : ByteArray) (h0 : 3 ≤ n) (h1 : n ≤ 7) {i j : Nat} (hi : i < n) (hj : j < n) (hij : i ≠ j) : leftV n t i j + leftV n t j i + 2 = n := by
 have h := jIl (fun k => decide (chi n t i j k = 1)) (fun k => decide (chi n t j i k = 1)) (fun k => decide (k = i)) (fun k => decide (k = j)) (List.range' 0 n) fun k hk => ?_
 ·rw [count_one n h1 i hi, count_one n h1 j hj, List.length_range'] at h
  unfold leftV
  omega
 ·rw [List.mem_range'_1] at hk
  have e := Vl t h0 h1 (show i < 7 by omega) (show j < 7 by omega) (show k < 7 by omega)
  rw [e]
  by_cases g1 : k = i
  ·subst g1
   rw [(Vq t h0 h1 (show k < 7 by omega) (show j < 7 by omega)).2.1, decide_eq_true (show k = k from rfl), decide_eq_false hij]
   rfl
  ·by_cases g2 : k = j
   ·subst g2
    rw [(Vq t h0 h1 (show k < 7 by omega) (show i < 7 by omega)).2.2, decide_eq_true (show k = k from rfl), decide_eq_false g1]
    rfl
   ·rw [decide_eq_false g1, decide_eq_false g2]
    rcases Vf t h0 h1 hi hj (show k < n by omega) hij (by omega) (by omega) with e | e <;> rw [e] <;> rfl
def jBw (n : Nat) (t : ByteArray) (s : Int) (q : Nat × Nat) : Int := wrap64 (s + wrap64 ((leftV n t q.1 q.2 : Int) * (leftV n t q.2 q.1 : Int)))
def jBu (n : Int) (t : ByteArray) : Int := if Yi n t = true then (Y2 n.toNat).foldl (jBw n.toNat t) 0 else 0
theorem jDp (n : Int) (t : ByteArray) (hs : t.size ≤ 9223372036854775807) : Ev (fun k => Je.f k n t) (jBu n t) := by
 unfold Je.f jBu
 refine Ev.bind (jAi n t hs) ?_
 by_cases h : Yi n t = true
 ·rw [if_pos h, if_pos h]
  obtain ⟨N, rfl, ha, h3, h7⟩ := Yu h
  refine Qm (by first | rfl | trivial) ?_
  have key := jFh (n := N) (ρ := Int) (K := fun s _ => some s) (L0 := fun a s k => Je.l0 k (Vv N t) s a (N : Int) t) (L1 := fun a b s k => Je.l1 k (Vv N t) s a b (N : Int) t)
   (fun s q => .ok (jBw N t s q)) (fun s => ?_) (fun a hn s => ?_) (fun a hn s => ?_) (fun a b hab hb s => ?_) (0 : Int)
  ·rw [Xy] at key
   exact key _ (Ev.now _)
  ·refine Goes.step ?_
   simp only [Je.l0]
   exact Goes.neg (by omega) (Goes.ok (K := fun s _ => some s) s)
  ·refine Goes.step ?_
   simp only [Je.l0]
   rw [Qp (x := (a : Int) + 1) (by omega) (by omega)]
   exact Goes.pos (by omega) (Goes.ok (K := fun s k => Je.l1 k (Vv N t) s (a : Int) ((a + 1 : Nat) : Int) (N : Int) t) s)
  ·refine Goes.step ?_
   simp only [Je.l1]
   rw [Qp (x := (a : Int) + 1) (by omega) (by omega)]
   exact Goes.neg (by omega) (Goes.ok (K := fun s k => Je.l0 k (Vv N t) s ((a + 1 : Nat) : Int) (N : Int) t) s)
  ·refine Goes.step ?_
   simp only [Je.l1]
   rw [Qp (x := (b : Int) + 1) (by omega) (by omega)]
   refine Goes.pos (by omega) (Goes.pos (Vw _ _) (Goes.ev (Ud ha (by omega) (by omega)) (Goes.ev (Ud ha (by omega) (by omega)) ?_)))
   exact Goes.ok (K := fun s k => Je.l1 k (Vv N t) s (a : Int) ((b + 1 : Nat) : Int) (N : Int) t) (jBw N t s (a, b))
 ·rw [if_neg h, if_neg h]
  exact Jn (by decide) (Ev.now _)
theorem jH0 (n : Int) (t : ByteArray) (hs : t.size ≤ 9223372036854775807) : Ev (fun k => Qv.f k n t) (jBu n t) := by
 unfold Qv.f jBu
 refine Ev.bind (V9 n t hs) ?_
 by_cases h : Yi n t = true
 ·rw [if_pos h]
  obtain ⟨N, rfl, ha, h3, h7⟩ := Yu h
  refine Qm h ?_
  have key := jFh (n := N) (ρ := Int) (K := fun s _ => some s) (L0 := fun a s k => Qv.l0 k s a (N : Int) t) (L1 := fun a b s k => Qv.l1 k s a b (N : Int) t)
   (fun s q => .ok (jBw N t s q)) (fun s => ?_) (fun a hn s => ?_) (fun a hn s => ?_) (fun a b hab hb s => ?_) (0 : Int)
  ·rw [Xy] at key
   exact key _ (Ev.now _)
  ·refine Goes.step ?_
   simp only [Qv.l0]
   exact Goes.neg (by omega) (Goes.ok (K := fun s _ => some s) s)
  ·refine Goes.step ?_
   simp only [Qv.l0]
   rw [Qp (x := (a : Int) + 1) (by omega) (by omega)]
   exact Goes.pos (by omega) (Goes.ok (K := fun s k => Qv.l1 k s (a : Int) ((a + 1 : Nat) : Int) (N : Int) t) s)
  ·refine Goes.step ?_
   simp only [Qv.l1]
   rw [Qp (x := (a : Int) + 1) (by omega) (by omega)]
   exact Goes.neg (by omega) (Goes.ok (K := fun s k => Qv.l0 k s ((a + 1 : Nat) : Int) (N : Int) t) s)
  ·refine Goes.step ?_
   simp only [Qv.l1]
   rw [Qp (x := (b : Int) + 1) (by omega) (by omega)]
   refine Goes.pos (by omega) (Goes.ev (Kz ha (by omega) (by omega) (by omega)) (Goes.ev (Kz ha (by omega) (by omega) (by omega)) ?_))
   exact Goes.ok (K := fun s k => Qv.l1 k s (a : Int) ((b + 1 : Nat) : Int) (N : Int) t) (jBw N t s (a, b))
 ·rw [if_neg h]
  exact Jn h (Ev.now _)
def jQ4 : Bool := (List.range 128).all fun s => decide (Zw.f (IntKind.u64.wrap (s : Int)) = some (Wn s : Int))
theorem jKr : jQ4 = true := by decide +kernel
theorem jNl {s : Nat} (hs : s < 128) : Zw.f (IntKind.u64.wrap (s : Int)) = some (Wn s : Int) := of_decide_eq_true (List.all_eq_true.1 jKr s (List.mem_range.2 hs))
def Y6 (n s : Nat) : Nat := 2 ^ n - 1 - s
def jPp : Bool := (List.range 8).all fun n => (List.range (2 ^ n)).all fun s => decide (Go.bits .andNot .i64 ((2 ^ n - 1 : Nat) : Int) (s : Int) = (Y6 n s : Int)) && (List.range n).all fun j => (Y6 n s).testBit j == !s.testBit j
theorem jH2 : jPp = true := by decide +kernel
theorem Wo {n s : Nat} (hn : n ≤ 7) (hs : s < 2 ^ n) : Go.bits .andNot .i64 ((2 ^ n - 1 : Nat) : Int) (s : Int) = (Y6 n s : Int) ∧ ∀ j, j < n → (Y6 n s).testBit j = !s.testBit j := by
 have k := List.all_eq_true.1 (List.all_eq_true.1 jH2 n (List.mem_range.2 (by omega))) s (List.mem_range.2 hs)
 rw [Bool.and_eq_true, decide_eq_true_eq] at k
 exact ⟨k.1, fun j hj => beq_iff_eq.1 (List.all_eq_true.1 k.2 j (List.mem_range.2 hj))⟩
def jJ1 (P s : Nat) : Bool := decide (Go.bits .and .i64 (P : Int) (s : Int) = (P : Int))
def jPt : Bool := (List.range 7).all fun i => (List.range 7).all fun j => decide (i = j) || (List.range 128).all fun s => jJ1 (2 ^ i + 2 ^ j) s == (s.testBit i && s.testBit j)
theorem jHx : jPt = true := by decide +kernel
theorem jAo {i j s : Nat} (hi : i < 7) (hj : j < 7) (hij : i ≠ j) (hs : s < 128) : jJ1 (2 ^ i + 2 ^ j) s = (s.testBit i && s.testBit j) := by
 have k := List.all_eq_true.1 (List.all_eq_true.1 jHx i (List.mem_range.2 hi)) j (List.mem_range.2 hj)
 rw [Bool.or_eq_true, decide_eq_true_eq] at k
 exact beq_iff_eq.1 (List.all_eq_true.1 (k.resolve_left hij) s (List.mem_range.2 hs))
def jP6 : Bool := (List.range 7).all fun a => (List.range 7).all fun b => (List.range 7).all fun c => (List.range 7).all fun d => !Yq a b c d || jEv.all fun p => jEv.all fun q => jEv.all fun r =>
 (decide ((splitN p q r a b c d).1 = 2 ^ a + 2 ^ b) == (p && !q && !r)) && (decide (Wn (splitN p q r a b c d).1 = 2) == ((p && !q && !r) || (q && !p && !r) || (r && !p && !q)))
theorem jKs : jP6 = true := by decide +kernel
theorem V6 (b : Bool) : b ∈ jEv := by cases b <;> decide
theorem jCj {a b c d : Nat} (ha : a < 7) (hb : b < 7) (hc : c < 7) (hd : d < 7) (h : Yq a b c d = true) (p q r : Bool) :
  decide ((splitN p q r a b c d).1 = 2 ^ a + 2 ^ b) = (p && !q && !r) ∧ decide (Wn (splitN p q r a b c d).1 = 2) = ((p && !q && !r) || (q && !p && !r) || (r && !p && !q)) := by
 have g := List.all_eq_true.1 jKs a (List.mem_range.2 ha)
 have g := List.all_eq_true.1 g b (List.mem_range.2 hb)
 have g := List.all_eq_true.1 g c (List.mem_range.2 hc)
 have g := List.all_eq_true.1 g d (List.mem_range.2 hd)
 rw [h, Bool.not_true, Bool.false_or] at g
 have g := List.all_eq_true.1 g p (V6 p)
 have g := List.all_eq_true.1 g q (V6 q)
 have g := List.all_eq_true.1 g r (V6 r)
 rw [Bool.and_eq_true, beq_iff_eq, beq_iff_eq] at g
 exact g
def Ky (n : Nat) (t : ByteArray) (x y z w : Nat) : Bool := decide (-(chi n t y z w) * chi n t x z w > 0) && !decide (chi n t y z w * chi n t x y w > 0) && !decide (-(chi n t y z w) * chi n t x y z > 0)
def jC5 (s x y z w : Nat) : Bool := (s.testBit x && s.testBit y && !s.testBit z && !s.testBit w) || (s.testBit z && s.testBit w && !s.testBit x && !s.testBit y)
section
variable {n : Nat} (t : ByteArray) (h0 : 3 ≤ n) (h1 : n ≤ 7) {a b c d : Nat} (ha : a < n) (hb : b < n) (hc : c < n) (hd : d < n) (e1 : a ≠ b) (e2 : a ≠ c) (e3 : a ≠ d) (e4 : b ≠ c) (e5 : b ≠ d) (e6 : c ≠ d)
include h0 h1 ha hb hc hd e1 e2 e3 e4 e5 e6
theorem jDc : Ky n t c d a b = Ky n t a b c d := by
 have s1 := Vl t h0 h1 (show a < 7 by omega) (show d < 7 by omega) (show b < 7 by omega)
 have s2 := Vm t h0 h1 (show a < 7 by omega) (show b < 7 by omega) (show d < 7 by omega)
 have s3 := Vl t h0 h1 (show a < 7 by omega) (show c < 7 by omega) (show b < 7 by omega)
 have s4 := Vm t h0 h1 (show a < 7 by omega) (show b < 7 by omega) (show c < 7 by omega)
 have s5 := Vm t h0 h1 (show c < 7 by omega) (show b < 7 by omega) (show d < 7 by omega)
 have s6 := Vl t h0 h1 (show b < 7 by omega) (show c < 7 by omega) (show d < 7 by omega)
 have s7 := Vm t h0 h1 (show c < 7 by omega) (show a < 7 by omega) (show d < 7 by omega)
 have s8 := Vl t h0 h1 (show a < 7 by omega) (show c < 7 by omega) (show d < 7 by omega)
 unfold Ky
 rw [s1, s2, s3, s4, s5, s6, s7, s8]
 rcases Vf t h0 h1 ha hb hc e1 e4 e2 with w | w <;> rcases Vf t h0 h1 ha hb hd e1 e5 e3 with x | x <;> rcases Vf t h0 h1 ha hc hd e2 e6 e3 with y | y <;> rcases Vf t h0 h1 hb hc hd e4 e6 e5 with z | z <;> rw [w, x, y, z] <;> decide
theorem jJ0 : Ky n t a c b d = (decide (chi n t b c d * chi n t a b d > 0) && !decide (-(chi n t b c d) * chi n t a c d > 0) && !decide (-(chi n t b c d) * chi n t a b c > 0)) := by
 have s4 := Vm t h0 h1 (show a < 7 by omega) (show b < 7 by omega) (show c < 7 by omega)
 have s6 := Vl t h0 h1 (show b < 7 by omega) (show c < 7 by omega) (show d < 7 by omega)
 unfold Ky
 rw [s4, s6]
 rcases Vf t h0 h1 ha hb hc e1 e4 e2 with w | w <;> rcases Vf t h0 h1 ha hb hd e1 e5 e3 with x | x <;> rcases Vf t h0 h1 ha hc hd e2 e6 e3 with y | y <;> rcases Vf t h0 h1 hb hc hd e4 e6 e5 with z | z <;> rw [w, x, y, z] <;> decide
theorem jJr : Ky n t a d b c = (decide (-(chi n t b c d) * chi n t a b c > 0) && !decide (-(chi n t b c d) * chi n t a c d > 0) && !decide (chi n t b c d * chi n t a b d > 0)) := by
 have s1 := Vl t h0 h1 (show b < 7 by omega) (show d < 7 by omega) (show c < 7 by omega)
 have s2 := Vm t h0 h1 (show b < 7 by omega) (show c < 7 by omega) (show d < 7 by omega)
 have s3 := Vm t h0 h1 (show a < 7 by omega) (show c < 7 by omega) (show d < 7 by omega)
 have s4 := Vm t h0 h1 (show a < 7 by omega) (show b < 7 by omega) (show d < 7 by omega)
 unfold Ky
 rw [s1, s2, s3, s4]
 rcases Vf t h0 h1 ha hb hc e1 e4 e2 with w | w <;> rcases Vf t h0 h1 ha hb hd e1 e5 e3 with x | x <;> rcases Vf t h0 h1 ha hc hd e2 e6 e3 with y | y <;> rcases Vf t h0 h1 hb hc hd e4 e6 e5 with z | z <;> rw [w, x, y, z] <;> decide
end
def Kb (n : Nat) (t : ByteArray) (s : Nat) (q : Nat × Nat × Nat × Nat) : Bool :=
 decide (Wn (splitV n t q.1 q.2.1 q.2.2.1 q.2.2.2).1 = 2) && ((jJ1 (splitV n t q.1 q.2.1 q.2.2.1 q.2.2.2).1 s && jJ1 (splitV n t q.1 q.2.1 q.2.2.1 q.2.2.2).2 (Y6 n s)) || (jJ1 (splitV n t q.1 q.2.1 q.2.2.1 q.2.2.2).2 s && jJ1 (splitV n t q.1 q.2.1 q.2.2.1 q.2.2.2).1 (Y6 n s)))
def apartQ (n : Nat) (t : ByteArray) (s : Nat) (q r : Nat × Nat) : Bool :=
 (s.testBit q.1 && s.testBit q.2 && !s.testBit r.1 && !s.testBit r.2) && decide ((splitV n t q.1 q.2 r.1 r.2).1 = 2 ^ q.1 + 2 ^ q.2)
theorem Ug {n : Nat} (t : ByteArray) {s : Nat} (h0 : 3 ≤ n) (h1 : n ≤ 7) (hs : s < 2 ^ n) {a b c d : Nat} (hab : a < b) (hbc : b < c) (hcd : c < d) (hd : d < n) :
  Kb n t s (a, b, c, d) = ((Ky n t a b c d && jC5 s a b c d) || (Ky n t a c b d && jC5 s a c b d) || (Ky n t a d b c && jC5 s a d b c)) := by
 have hp := Kn (show n ≤ 7 by omega)
 have hr : Y6 n s < 128 := by unfold Y6; omega
 have hbit := (Wo h1 hs).2
 rw [jJ0 t h0 h1 (show a < n by omega) (show b < n by omega) (show c < n by omega) hd (by omega) (by omega) (by omega) (by omega) (by omega) (by omega), jJr t h0 h1 (show a < n by omega) (show b < n by omega) (show c < n by omega) hd (by omega) (by omega) (by omega) (by omega) (by omega) (by omega)]
 unfold Kb Ky splitV
 simp only
 generalize decide (-(chi n t b c d) * chi n t a c d > 0) = p
 generalize decide (chi n t b c d * chi n t a b d > 0) = q
 generalize decide (-(chi n t b c d) * chi n t a b c > 0) = r
 rw [(jCj (show a < 7 by omega) (show b < 7 by omega) (show c < 7 by omega) (show d < 7 by omega) (Q6.2 (by omega)) p q r).2]
 have f : ∀ i j k l : Nat, i < n → j < n → k < n → l < n → i ≠ j → k ≠ l → (jJ1 (2 ^ i + 2 ^ j) s && jJ1 (2 ^ k + 2 ^ l) (Y6 n s) || jJ1 (2 ^ k + 2 ^ l) s && jJ1 (2 ^ i + 2 ^ j) (Y6 n s)) = jC5 s i j k l := by
  intro i j k l hi hj hk hl hij hkl
  rw [jAo (by omega) (by omega) hij (by omega), jAo (by omega) (by omega) hkl hr, jAo (by omega) (by omega) hkl (by omega), jAo (by omega) (by omega) hij hr, hbit i hi, hbit j hj, hbit k hk, hbit l hl]
  unfold jC5
  rw [Bool.and_assoc, Bool.and_assoc, Bool.and_assoc, Bool.and_assoc, Bool.and_assoc, Bool.and_assoc]
 have f1 := f a b c d (by omega) (by omega) (by omega) hd (by omega) (by omega)
 have f2 := f a c b d (by omega) (by omega) (by omega) hd (by omega) (by omega)
 have f3 := f a d b c (by omega) hd (by omega) (by omega) (by omega) (by omega)
 cases p <;> cases q <;> cases r <;> simp only [splitN, if_true, if_false, Bool.false_eq_true, Nat.add_zero, Nat.zero_add, Bool.and_false, Bool.false_and, Bool.and_true, Bool.true_and, Bool.or_false, Bool.false_or, Bool.not_true, Bool.not_false, Bool.true_or, Bool.or_true] <;> first | rfl | exact f1 | exact f2 | exact f3
theorem apart_eq {n : Nat} (t : ByteArray) {s : Nat} (h1 : n ≤ 7) {x y z w : Nat} (hx : x < n) (hy : y < n) (hz : z < n) (hw : w < n) (e1 : x ≠ y) (e6 : z ≠ w) :
  apartQ n t s (x, y) (z, w) = true ↔ (s.testBit x = true ∧ s.testBit y = true ∧ s.testBit z = false ∧ s.testBit w = false) ∧ Ky n t x y z w = true := by
 unfold apartQ
 simp only [Bool.and_eq_true, Bool.not_eq_true']
 constructor
 ·rintro ⟨⟨⟨⟨b1, b2⟩, b3⟩, b4⟩, g⟩
  have ne : ∀ i j : Nat, s.testBit i = true → s.testBit j = false → i ≠ j := fun i j hi hj e => by rw [e, hj] at hi; cases hi
  refine ⟨⟨b1, b2, b3, b4⟩, ?_⟩
  unfold splitV at g
  rw [(jCj (show x < 7 by omega) (show y < 7 by omega) (show z < 7 by omega) (show w < 7 by omega) (Q6.2 ⟨e1, ne _ _ b1 b3, ne _ _ b1 b4, ne _ _ b2 b3, ne _ _ b2 b4, e6⟩) _ _ _).1] at g
  exact g
 ·rintro ⟨⟨b1, b2, b3, b4⟩, g⟩
  have ne : ∀ i j : Nat, s.testBit i = true → s.testBit j = false → i ≠ j := fun i j hi hj e => by rw [e, hj] at hi; cases hi
  refine ⟨⟨⟨⟨b1, b2⟩, b3⟩, b4⟩, ?_⟩
  unfold splitV
  rw [(jCj (show x < 7 by omega) (show y < 7 by omega) (show z < 7 by omega) (show w < 7 by omega) (Q6.2 ⟨e1, ne _ _ b1 b3, ne _ _ b1 b4, ne _ _ b2 b3, ne _ _ b2 b4, e6⟩) _ _ _).1]
  exact g
theorem jEi (s x y z w : Nat) : jC5 s x y z w = true ↔ (s.testBit x = true ∧ s.testBit y = true ∧ s.testBit z = false ∧ s.testBit w = false) ∨ (s.testBit z = true ∧ s.testBit w = true ∧ s.testBit x = false ∧ s.testBit y = false) := by
 simp only [jC5, Bool.or_eq_true, Bool.and_eq_true, Bool.not_eq_true', and_assoc]
theorem jQ2 {n : Nat} (t : ByteArray) {s : Nat} (h0 : 3 ≤ n) (h1 : n ≤ 7) (hs : s < 2 ^ n) : ((Z4 n).any (Kb n t s)) = (Y2 n).any fun q => (Y2 n).any (apartQ n t s q) := by
 rw [Bool.eq_iff_iff]
 constructor
 ·intro h
  obtain ⟨⟨a, b, c, d⟩, hm, hq⟩ := List.any_eq_true.1 h
  obtain ⟨hab, hbc, hcd, hd⟩ := Wd hm
  rw [Ug t h0 h1 hs hab hbc hcd hd] at hq
  have fin : ∀ x y z w : Nat, x < y → z < w → y < n → w < n → x ≠ z → x ≠ w → y ≠ z → y ≠ w → Ky n t x y z w = true → jC5 s x y z w = true → ((Y2 n).any fun q => (Y2 n).any (apartQ n t s q)) = true := by
   intro x y z w hxy hzw hy hw d1 d2 d3 d4 g1 g2
   rcases (jEi s x y z w).1 g2 with hb | hb
   ·exact List.any_eq_true.2 ⟨(x, y), Uk hxy hy, List.any_eq_true.2 ⟨(z, w), Uk hzw hw, (apart_eq t h1 (by omega) hy (by omega) hw (by omega) (by omega)).2 ⟨hb, g1⟩⟩⟩
   ·rw [← jDc t h0 h1 (show x < n by omega) hy (show z < n by omega) hw (by omega) d1 d2 d3 d4 (by omega)] at g1
    exact List.any_eq_true.2 ⟨(z, w), Uk hzw hw, List.any_eq_true.2 ⟨(x, y), Uk hxy hy, (apart_eq t h1 (by omega) hw (by omega) hy (by omega) (by omega)).2 ⟨hb, g1⟩⟩⟩
  simp only [Bool.or_eq_true, Bool.and_eq_true] at hq
  rcases hq with (⟨g1, g2⟩ | ⟨g1, g2⟩) | ⟨g1, g2⟩
  ·exact fin a b c d hab hcd (by omega) hd (by omega) (by omega) (by omega) (by omega) g1 g2
  ·exact fin a c b d (by omega) (by omega) (by omega) hd (by omega) (by omega) (by omega) (by omega) g1 g2
  ·exact fin a d b c (by omega) hbc (by omega) (by omega) (by omega) (by omega) (by omega) (by omega) g1 g2
 ·intro h
  obtain ⟨⟨x, y⟩, hm, hq⟩ := List.any_eq_true.1 h
  obtain ⟨⟨z, w⟩, hm', hq⟩ := List.any_eq_true.1 hq
  obtain ⟨hxy, hy⟩ := jCu hm
  obtain ⟨hzw, hw⟩ := jCu hm'
  obtain ⟨⟨b1, b2, b3, b4⟩, g⟩ := (apart_eq t h1 (by omega) hy (by omega) hw (by omega) (by omega)).1 hq
  have ne : ∀ i j : Nat, s.testBit i = true → s.testBit j = false → i ≠ j := fun i j hi hj e => by rw [e, hj] at hi; cases hi
  have d1 := ne _ _ b1 b3
  have d2 := ne _ _ b1 b4
  have d3 := ne _ _ b2 b3
  have d4 := ne _ _ b2 b4
  have fin : ∀ x y z w : Nat, x < y → z < w → y < n → w < n → x < z → x ≠ w → y ≠ z → y ≠ w → Ky n t x y z w = true → jC5 s x y z w = true → ((Z4 n).any (Kb n t s)) = true := by
   intro x y z w hxy hzw hy hw hxz d2 d3 d4 g1 g2
   by_cases o1 : y < z
   ·refine List.any_eq_true.2 ⟨(x, y, z, w), Uf hxy o1 hzw hw, ?_⟩
    rw [Ug t h0 h1 hs hxy o1 hzw hw, g1, g2]
    rfl
   ·by_cases o2 : y < w
    ·refine List.any_eq_true.2 ⟨(x, z, y, w), Uf hxz (by omega) o2 hw, ?_⟩
     rw [Ug t h0 h1 hs hxz (by omega) o2 hw, g1, g2]
     simp only [Bool.and_self, Bool.or_true, Bool.true_or]
    ·refine List.any_eq_true.2 ⟨(x, z, w, y), Uf hxz hzw (by omega) hy, ?_⟩
     rw [Ug t h0 h1 hs hxz hzw (by omega) hy, g1, g2]
     simp only [Bool.and_self, Bool.or_true]
  by_cases o : x < z
  ·exact fin x y z w hxy hzw hy hw o d2 d3 d4 g ((jEi _ _ _ _ _).2 (.inl ⟨b1, b2, b3, b4⟩))
  ·rw [← jDc t h0 h1 (show x < n by omega) hy (show z < n by omega) hw (by omega) d1 d2 d3 d4 (by omega)] at g
   exact fin z w x y hzw hxy hw hy (by omega) (by omega) (by omega) (by omega) g ((jEi _ _ _ _ _).2 (.inr ⟨b1, b2, b3, b4⟩))
end Go.Proofs.Ytckkfjdkaimmhaa.M
namespace Go.Proofs.Ytckkfjdkaimmhaa.PX
open Go.RowKit Go.Proofs.Ytckkfjdkaimmhaa.G Go.Proofs.YtckkfjdkaimmhaaW.PrintWords Go.Proofs.YtckkfjdkaimmhaaW.PrintLast Go.Proofs.YtckkfjdkaimmhaaW.PrintMore
attribute [local go_sem] max2_int min2_int Yd Yg Xh Xf Xq Xp   -- for this text's walks alone
set_option linter.unusedVariables false
set_option linter.unusedSimpArgs false
end Go.Proofs.Ytckkfjdkaimmhaa.PX
namespace Go.Proofs.Ytckkfjdkaimmhaa.M
open Go.RowKit Go.Proofs.YtckkfjdkaimmhaaW.PrintWords Go.Proofs.Ytckkfjdkaimmhaa.PX Go.Proofs.Ytckkfjdkaimmhaa.G Go.Proofs.YtckkfjdkaimmhaaW.PrintMore
theorem jG2 {n : Nat} (hn : n ≤ 7) : wrap64 (shl .i64 1 (n : Int) - 1) = ((2 ^ n - 1 : Nat) : Int) := by
 have := Kn hn
 have : 0 < 2 ^ n := Nat.pow_pos (by omega)
 rw [jDy hn, Qp (by omega) (by omega)]
 omega
theorem jCs {n : Nat} (hn : n ≤ 7) : X5.f (n : Int) = some ((2 ^ n - 1 : Nat) : Int) := by
 unfold X5.f
 rw [if_pos (by omega), jG2 hn]
end Go.Proofs.Ytckkfjdkaimmhaa.M
namespace Go.Proofs.Ytckkfjdkaimmhaa.PX
open Go.RowKit Go.Proofs.Ytckkfjdkaimmhaa.G Go.Proofs.YtckkfjdkaimmhaaW.PrintWords Go.Proofs.YtckkfjdkaimmhaaW.PrintLast Go.Proofs.YtckkfjdkaimmhaaW.PrintMore
attribute [local go_sem] max2_int min2_int Yd Yg Xh Xf Xq Xp   -- for this text's walks alone
set_option linter.unusedVariables false
set_option linter.unusedSimpArgs false
end Go.Proofs.Ytckkfjdkaimmhaa.PX
namespace Go.Proofs.Ytckkfjdkaimmhaa.M
open Go.RowKit Go.Proofs.YtckkfjdkaimmhaaW.PrintWords Go.Proofs.Ytckkfjdkaimmhaa.PX Go.Proofs.Ytckkfjdkaimmhaa.G Go.Proofs.YtckkfjdkaimmhaaW.PrintMore
def jIs (q : Nat × Nat × Nat) : S99 := ⟨(q.1 : Int), (q.2.1 : Int), (q.2.2 : Int)⟩
theorem jPc {n : Nat} (h0 : 3 ≤ n) (h1 : n ≤ 7) : Xt n = (Xi n).map jIs := jHc h0 h1
theorem jOr {qs : List (Nat × Nat × Nat)} {i : Nat} (h : i < qs.length) : Qu (qs.map jIs) (i : Int) = jIs qs[i] := by
 rw [jPr (by rw [List.length_map]; exact h), List.getElem_map]
theorem jJt {n : Nat} (h0 : 3 ≤ n) (h1 : n ≤ 7) : (Xi n).length ≤ 35 := by
 refine five (p := fun n => (Xi n).length ≤ 35) h0 h1 ?_ ?_ ?_ ?_ ?_ <;> decide +kernel
def jEu (n : Nat) (t : ByteArray) (p a b c : Nat) : Bool := decide (p ≠ a) && decide (p ≠ b) && decide (p ≠ c) && (K6 n t p a b c == (p : Int))
theorem jCi {n : Nat} {t : ByteArray} {p a b c : Nat} (h1 : p ≠ a) (h2 : p ≠ b) (h3 : p ≠ c) : jEu n t p a b c = (K6 n t p a b c == (p : Int)) := by
 unfold jEu
 rw [decide_eq_true h1, decide_eq_true h2, decide_eq_true h3]
 rfl
section
variable {n : Nat} {t : ByteArray} (h : Y1 n t = true) {a b c : Nat} (ha : a < n) (hb : b < n) (hc : c < n) (hab : a ≠ b) (hac : a ≠ c) (hbc : b ≠ c)
include h ha hb hc hab hac hbc
end
def inB (n : Nat) (t : ByteArray) (s p : Nat) : Bool := (Xi n).any fun q => jEu n t p q.1 q.2.1 q.2.2 && s.testBit q.1 && s.testBit q.2.1 && s.testBit q.2.2
theorem U5 {s k : Nat} (hs : s < 128) (hk : k ≤ 7) : Jf.f (s : Int) (k : Int) = some (s.testBit k) := by
 unfold Jf.f
 rw [jAs hk, if_pos (by omega)]
 have e := jJb hs hk
 unfold jQa at e
 rw [e]
 cases s.testBit k <;> rfl
section
variable {n : Nat} {t : ByteArray} (h : Y1 n t = true)
include h
theorem jEg {s p : Nat} (hs : s < 128) (hp : p < n) : Ev (fun k => Jj.f k (n : Int) t (s : Int) (p : Int)) (inB n t s p) := by
 obtain ⟨⟨h0, h1⟩, _, _⟩ := (Z7 _ _).1 h
 have h0 : 3 ≤ n := by omega
 have h1 : n ≤ 7 := by omega
 unfold Jj.f
 have key := jN3 (σ := Unit) (ρ := Bool) (n := n) (K := fun _ _ => some false) (L0 := fun a _ k => Jj.l0 k (s : Int) (p : Int) a (n : Int) t) (L1 := fun a b _ k => Jj.l1 k (s : Int) (p : Int) a b (n : Int) t) (L2 := fun a b c _ k => Jj.l2 k (s : Int) (p : Int) a b c (n : Int) t)
  (fun _ q => if jEu n t p q.1 q.2.1 q.2.2 && s.testBit q.1 && s.testBit q.2.1 && s.testBit q.2.2 then .error true else .ok ()) (fun u => ?_) (fun a ha u => ?_) (fun a ha u => ?_) (fun a b hab hb u => ?_) (fun a b hab hb u => ?_) (fun a b c hab hbc hc u => ?_) ()
 ·rw [Yj (fun q : Nat × Nat × Nat => jEu n t p q.1 q.2.1 q.2.2 && s.testBit q.1 && s.testBit q.2.1 && s.testBit q.2.2)] at key
  unfold inB
  cases hq : (Xi n).any fun q => jEu n t p q.1 q.2.1 q.2.2 && s.testBit q.1 && s.testBit q.2.1 && s.testBit q.2.2 with
  | true => rw [hq] at key; exact key
  | false => rw [hq] at key; exact key _ (Ev.now _)
 ·refine Goes.step ?_
  simp only [Jj.l0]
  exact Goes.neg (by omega) (Goes.ok (K := fun _ _ => some false) u)
 ·refine Goes.step ?_
  simp only [Jj.l0]
  refine Goes.pos (by omega) ?_
  rw [Qp (by omega) (by omega)]
  exact Goes.ok (K := fun _ k => Jj.l1 k (s : Int) (p : Int) (a : Int) ((a + 1 : Nat) : Int) (n : Int) t) u
 ·refine Goes.step ?_
  simp only [Jj.l1]
  refine Goes.neg (by omega) ?_
  rw [Qp (by omega) (by omega)]
  exact Goes.ok (K := fun _ k => Jj.l0 k (s : Int) (p : Int) ((a + 1 : Nat) : Int) (n : Int) t) u
 ·refine Goes.step ?_
  simp only [Jj.l1]
  refine Goes.pos (by omega) ?_
  rw [Qp (by omega) (by omega)]
  exact Goes.ok (K := fun _ k => Jj.l2 k (s : Int) (p : Int) (a : Int) (b : Int) ((b + 1 : Nat) : Int) (n : Int) t) u
 ·refine Goes.step ?_
  simp only [Jj.l2]
  refine Goes.neg (by omega) ?_
  rw [Qp (by omega) (by omega)]
  exact Goes.ok (K := fun _ k => Jj.l1 k (s : Int) (p : Int) (a : Int) ((b + 1 : Nat) : Int) (n : Int) t) u
 ·refine Goes.step ?_
  simp only [Jj.l2]
  refine Goes.pos (by omega) ?_
  rw [Qp (by omega) (by omega)]
  have on : Goes (ρ := Bool) (.ok ()) (fun (_ : Unit) k => Jj.l2 k (s : Int) (p : Int) (a : Int) (b : Int) ((c + 1 : Nat) : Int) (n : Int) t) (fun k => Jj.l2 k (s : Int) (p : Int) (a : Int) (b : Int) ((c : Int) + 1) (n : Int) t) := Goes.ok (K := fun (_ : Unit) k => Jj.l2 k (s : Int) (p : Int) (a : Int) (b : Int) ((c + 1 : Nat) : Int) (n : Int) t) ()
  by_cases e1 : p = a
  ·rw [show jEu n t p a b c = false by simp [jEu, e1]]
   exact Goes.pos (by omega) on
  refine Goes.neg (by omega) ?_
  by_cases e2 : p = b
  ·rw [show jEu n t p a b c = false by simp [jEu, e2]]
   exact Goes.pos (by omega) on
  refine Goes.neg (by omega) ?_
  by_cases e3 : p = c
  ·rw [show jEu n t p a b c = false by simp [jEu, e3]]
   exact Goes.pos (by omega) on
  refine Goes.neg (by omega) (Goes.call (U5 hs (by omega)) ?_)
  rw [jCi e1 e2 e3]
  cases s.testBit a with
  | false => rw [Bool.and_false, Bool.false_and, Bool.false_and]; exact Goes.neg (by decide) on
  | true =>
   refine Goes.pos (by trivial) (Goes.call (U5 hs (by omega)) ?_)
   cases s.testBit b with
   | false => rw [Bool.and_false, Bool.false_and]; exact Goes.neg (by decide) on
   | true =>
    refine Goes.pos (by trivial) (Goes.call (U5 hs (by omega)) ?_)
    cases s.testBit c with
    | false => rw [Bool.and_false]; exact Goes.neg (by decide) on
    | true =>
     refine Goes.pos (by trivial) (Goes.ev (jDq h hp (by omega) (by omega) hc (Q6.2 (by omega))) ?_)
     by_cases g : K6 n t p a b c = (p : Int)
     ·rw [beq_iff_eq.2 g]
      exact Goes.pos g (Goes.ret _)
     ·rw [beq_eq_false_iff_ne.2 g]
      exact Goes.neg g on
theorem jCd {s p : Nat} (hs : s < 128) (hp : p < n) (hsp : s.testBit p = false) : Ev (fun k => Jv.f k (Vv n t) (s : Int) (p : Int)) (inB n t s p) := by
 obtain ⟨⟨h0, h1⟩, _, _⟩ := (Z7 _ _).1 h
 have h0 : 3 ≤ n := by omega
 have h1 : n ≤ 7 := by omega
 unfold Jv.f
 rw [jEa]
 refine Ev.bind (jDa h0 h1) ?_
 rw [jPc h0 h1]
 have hl : ((Xi n).map jIs).length = (Xi n).length := List.length_map ..
 have aA := jJt h0 h1
 have key := Vx (σ := Unit) (ρ := Bool) (lo := 0) (n := (Xi n).length) (K := fun _ _ => some false) (L := fun i _ k => Jv.l0 k (Vv n t) (s : Int) (p : Int) ((Xi n).map jIs) (((Xi n).map jIs).length : Int) i)
  (fun _ i => if jEu n t p ((Xi n).getD i (0, 0, 0)).1 ((Xi n).getD i (0, 0, 0)).2.1 ((Xi n).getD i (0, 0, 0)).2.2 && s.testBit ((Xi n).getD i (0, 0, 0)).1 && s.testBit ((Xi n).getD i (0, 0, 0)).2.1 && s.testBit ((Xi n).getD i (0, 0, 0)).2.2 then .error true else .ok ())
  (fun u => ?_) (fun i _ hi u => ?_) (by omega) ()
 ·rw [U2 (0, 0, 0) (fun (_ : Unit) (q : Nat × Nat × Nat) => if jEu n t p q.1 q.2.1 q.2.2 && s.testBit q.1 && s.testBit q.2.1 && s.testBit q.2.2 then (.error true : Except Bool Unit) else .ok ()),
   Yj (fun q : Nat × Nat × Nat => jEu n t p q.1 q.2.1 q.2.2 && s.testBit q.1 && s.testBit q.2.1 && s.testBit q.2.2)] at key
  unfold inB
  cases hq : (Xi n).any fun q => jEu n t p q.1 q.2.1 q.2.2 && s.testBit q.1 && s.testBit q.2.1 && s.testBit q.2.2 with
  | true => rw [hq] at key; exact key
  | false => rw [hq] at key; exact key _ (Ev.now _)
 ·refine Goes.step ?_
  simp only [Jv.l0]
  exact Goes.neg (by omega) (Goes.ok (K := fun _ _ => some false) u)
 ·have hg : (Xi n).getD i (0, 0, 0) = (Xi n)[i] := by rw [List.getD_eq_getElem?_getD, List.getElem?_eq_getElem hi]; rfl
  have hm := List.getElem_mem hi
  rw [hg]
  refine Goes.step ?_
  simp only [Jv.l0, jOr hi]
  generalize (Xi n)[i] = q at *
  obtain ⟨a, b, c⟩ := q
  obtain ⟨hab, hbc, hc⟩ := Ul hm
  simp only [jIs]
  refine Goes.pos (by omega) (Goes.pos (by omega) (Goes.pos (by omega) (Goes.pos (by omega) (Goes.pos (by omega) (Goes.pos (by omega) ?_)))))
  rw [Qp (x := (i : Int) + 1) (by omega) (by omega)]
  have on : Goes (ρ := Bool) (.ok ()) (fun (_ : Unit) k => Jv.l0 k (Vv n t) (s : Int) (p : Int) ((Xi n).map jIs) (((Xi n).map jIs).length : Int) ((i + 1 : Nat) : Int)) (fun k => Jv.l0 k (Vv n t) (s : Int) (p : Int) ((Xi n).map jIs) (((Xi n).map jIs).length : Int) ((i : Int) + 1)) :=
   Goes.ok (K := fun (_ : Unit) k => Jv.l0 k (Vv n t) (s : Int) (p : Int) ((Xi n).map jIs) (((Xi n).map jIs).length : Int) ((i + 1 : Nat) : Int)) ()
  have hmask := (jFt hs).2.1 a b c hab hbc (by omega)
  by_cases g : Go.bits .and .i64 (s : Int) (jFk a b c) = jFk a b c
  ·obtain ⟨g1, g2, g3⟩ := hmask.1 g
   have e1 : p ≠ a := fun e => by rw [e, g1] at hsp; cases hsp
   have e2 : p ≠ b := fun e => by rw [e, g2] at hsp; cases hsp
   have e3 : p ≠ c := fun e => by rw [e, g3] at hsp; cases hsp
   rw [g1, g2, g3, jCi e1 e2 e3, Bool.and_true, Bool.and_true, Bool.and_true]
   refine Goes.pos g (Goes.ev (jGr h hp (by omega) (by omega) hc (Q6.2 (by omega))) ?_)
   cases K6 n t p a b c == (p : Int) with
   | true => exact Goes.pos (by trivial) (Goes.ret _)
   | false => exact Goes.neg (by decide) on
  ·have e : (jEu n t p a b c && s.testBit a && s.testBit b && s.testBit c) = false := by
    rw [Bool.eq_false_iff]
    simp only [ne_eq, Bool.and_eq_true]
    exact fun e => g (hmask.2 ⟨e.1.1.2, e.1.2, e.2⟩)
   rw [e]
   exact Goes.neg g on
end
def We (n : Nat) (t : ByteArray) (s x : Nat) : Bool := if s.testBit x = true then inB n t (Y6 n s) x else inB n t s x
def jF7 (n : Nat) (t : ByteArray) (s : Nat) : Bool := !((List.range' 0 (n - 0)).any (We n t s)) && !((Z4 n).any (Kb n t s))
section
variable {n : Nat} {t : ByteArray} (h : Y1 n t = true)
include h
theorem jL2 {s : Nat} (hs : s < 2 ^ n) : Ev (fun k => Jc.f k (Vv n t) (s : Int)) (jF7 n t s) := by
 obtain ⟨⟨h0, h1⟩, _, _⟩ := (Z7 _ _).1 h
 have h0 : 3 ≤ n := by omega
 have h1 : n ≤ 7 := by omega
 have hp := Kn h1
 obtain ⟨hr, hbit⟩ := Wo h1 hs
 have aC : Y6 n s < 128 := by unfold Y6; omega
 obtain ⟨hq, aD⟩ := jGc h0 h1
 unfold Jc.f
 rw [jEa]
 refine Zv (jCs h1) ?_
 rw [hr]
 have quads : Ev (fun k => Jc.l1 k (Vv n t) (s : Int) (Y6 n s : Int) ((Z4 n).map jAg) (((Z4 n).map jAg).length : Int) 0) (!((Z4 n).any (Kb n t s))) := by
  have hl : ((Z4 n).map jAg).length = (Z4 n).length := List.length_map ..
  have key := Vx (σ := Unit) (ρ := Bool) (lo := 0) (n := (Z4 n).length) (K := fun _ _ => some true) (L := fun i _ k => Jc.l1 k (Vv n t) (s : Int) (Y6 n s : Int) ((Z4 n).map jAg) (((Z4 n).map jAg).length : Int) i)
   (fun _ i => if Kb n t s ((Z4 n).getD i (0, 0, 0, 0)) then .error false else .ok ()) (fun u => ?_) (fun i _ hi u => ?_) (by omega) ()
  ·rw [U2 (0, 0, 0, 0) (fun (_ : Unit) (q : Nat × Nat × Nat × Nat) => (if Kb n t s q then .error false else .ok () : Except Bool Unit)), Yj (Kb n t s)] at key
   cases hq : (Z4 n).any (Kb n t s) with
   | true => rw [hq] at key; exact key
   | false => rw [hq] at key; exact key _ (Ev.now _)
  ·refine Goes.step ?_
   simp only [Jc.l1]
   exact Goes.neg (by omega) (Goes.ok (K := fun _ _ => some true) u)
  ·have hg : (Z4 n).getD i (0, 0, 0, 0) = (Z4 n)[i] := by rw [List.getD_eq_getElem?_getD, List.getElem?_eq_getElem hi]; rfl
   have hm := List.getElem_mem hi
   rw [hg]
   refine Goes.step ?_
   simp only [Jc.l1, jG6 hi]
   generalize (Z4 n)[i] = q at *
   obtain ⟨a, b, c, d⟩ := q
   obtain ⟨hab, hbc, hcd, hd⟩ := Wd hm
   simp only [jAg]
   have hlt := jB6 (n := n) t (show a < 7 by omega) (show b < 7 by omega) (show c < 7 by omega) (show d < 7 by omega) (Q6.2 (by omega))
   refine Goes.pos (by omega) (Goes.pos (by omega) (Goes.pos (by omega) (Goes.ev (jC9 h (by omega) (by omega) (by omega) hd (Q6.2 (by omega))) (Goes.call (jNl hlt.1) ?_))))
   rw [Qp (by omega) (by omega)]
   have nx : Goes (.ok ()) (fun (_ : Unit) k => Jc.l1 k (Vv n t) (s : Int) (Y6 n s : Int) ((Z4 n).map jAg) (((Z4 n).map jAg).length : Int) ((i + 1 : Nat) : Int)) (fun k => Jc.l1 k (Vv n t) (s : Int) (Y6 n s : Int) ((Z4 n).map jAg) (((Z4 n).map jAg).length : Int) ((i + 1 : Nat) : Int)) := Goes.ok (K := fun (_ : Unit) k => Jc.l1 k (Vv n t) (s : Int) (Y6 n s : Int) ((Z4 n).map jAg) (((Z4 n).map jAg).length : Int) ((i + 1 : Nat) : Int)) ()
   unfold Kb jJ1
   simp only
   by_cases g0 : Wn (splitV n t a b c d).1 = 2
   ·rw [decide_eq_true g0, Bool.true_and]
    refine Goes.pos (by omega) ?_
    by_cases g1 : Go.bits .and .i64 ((splitV n t a b c d).1 : Int) (s : Int) = ((splitV n t a b c d).1 : Int)
    ·rw [decide_eq_true g1, Bool.true_and]
     refine Goes.pos g1 ?_
     by_cases g2 : Go.bits .and .i64 ((splitV n t a b c d).2 : Int) (Y6 n s : Int) = ((splitV n t a b c d).2 : Int)
     ·rw [decide_eq_true g2, Bool.true_or]
      exact Goes.pos g2 (Goes.ret _)
     ·rw [decide_eq_false g2, Bool.false_or]
      refine Goes.neg g2 ?_
      by_cases g3 : Go.bits .and .i64 ((splitV n t a b c d).2 : Int) (s : Int) = ((splitV n t a b c d).2 : Int)
      ·rw [decide_eq_true g3, Bool.true_and]
       refine Goes.pos g3 ?_
       by_cases g4 : Go.bits .and .i64 ((splitV n t a b c d).1 : Int) (Y6 n s : Int) = ((splitV n t a b c d).1 : Int)
       ·rw [decide_eq_true g4]
        exact Goes.pos g4 (Goes.ret _)
       ·rw [decide_eq_false g4]
        exact Goes.neg g4 nx
      ·rw [decide_eq_false g3, Bool.false_and]
       exact Goes.neg g3 nx
    ·rw [decide_eq_false g1, Bool.false_and, Bool.false_or]
     refine Goes.neg g1 ?_
     by_cases g3 : Go.bits .and .i64 ((splitV n t a b c d).2 : Int) (s : Int) = ((splitV n t a b c d).2 : Int)
     ·rw [decide_eq_true g3, Bool.true_and]
      refine Goes.pos g3 ?_
      by_cases g4 : Go.bits .and .i64 ((splitV n t a b c d).1 : Int) (Y6 n s : Int) = ((splitV n t a b c d).1 : Int)
      ·rw [decide_eq_true g4]
       exact Goes.pos g4 (Goes.ret _)
      ·rw [decide_eq_false g4]
       exact Goes.neg g4 nx
     ·rw [decide_eq_false g3, Bool.false_and]
      exact Goes.neg g3 nx
   ·rw [decide_eq_false g0, Bool.false_and]
    exact Goes.neg (by omega) nx
 have key := Vx (σ := Unit) (ρ := Bool) (lo := 0) (n := n) (K := fun _ k => (Q9.f k (n : Int)).bind fun aA => Jc.l1 k (Vv n t) (s : Int) (Y6 n s : Int) aA (aA.length : Int) 0) (L := fun x _ k => Jc.l0 k (Vv n t) (s : Int) (Y6 n s : Int) x)
  (fun _ x => if We n t s x then .error false else .ok ()) (fun u => ?_) (fun x _ hx u => ?_) (by omega) ()
 ·rw [Yj (We n t s)] at key
  unfold jF7
  cases hn : (List.range' 0 (n - 0)).any (We n t s) with
  | true => rw [hn] at key; exact key
  | false =>
   rw [hn] at key
   rw [Bool.not_false, Bool.true_and]
   refine key _ (Ev.bind (jEd h0 h1) ?_)
   rw [hq]
   exact quads
 ·refine Goes.step ?_
  simp only [Jc.l0, jEa]
  exact Goes.neg (by omega) (Goes.ok (K := fun (_ : Unit) k => (Q9.f k (n : Int)).bind fun aA => Jc.l1 k (Vv n t) (s : Int) (Y6 n s : Int) aA (aA.length : Int) 0) u)
 ·have eb := jJb (s := s) (k := x) (by omega) (by omega)
  unfold jQa at eb
  refine Goes.step ?_
  simp only [Jc.l0, jEa]
  rw [eb, Qp (x := (x : Int) + 1) (by omega) (by omega)]
  refine Goes.pos (by omega) (Goes.pos (by omega) ?_)
  cases hb : s.testBit x with
  | true =>
   have e : We n t s x = inB n t (Y6 n s) x := by unfold We; rw [hb]; rfl
   rw [e]
   refine Goes.pos (by rfl) (Goes.ev (jCd h aC hx (by rw [hbit x hx, hb]; rfl)) ?_)
   cases inB n t (Y6 n s) x with
   | true => exact Goes.pos rfl (Goes.ret _)
   | false => exact Goes.neg (by decide) (Goes.ok (K := fun (_ : Unit) k => Jc.l0 k (Vv n t) (s : Int) (Y6 n s : Int) ((x + 1 : Nat) : Int)) u)
  | false =>
   have e : We n t s x = inB n t s x := by unfold We; rw [hb]; rfl
   rw [e]
   refine Goes.neg (by decide) (Goes.ev (jCd h (show s < 128 by omega) hx hb) ?_)
   cases inB n t s x with
   | true => exact Goes.pos rfl (Goes.ret _)
   | false => exact Goes.neg (by decide) (Goes.ok (K := fun (_ : Unit) k => Jc.l0 k (Vv n t) (s : Int) (Y6 n s : Int) ((x + 1 : Nat) : Int)) u)
end
def jOe : Bool := (List.range 128).all fun s => decide (Zn.f 20 (s : Int) = some (Wn s : Int))
theorem jIu : jOe = true := by decide +kernel
theorem jPk {s : Nat} (hs : s < 128) : Ev (fun k => Zn.f k (s : Int)) (Wn s : Int) := Ev.of (Zn.mono _) (of_decide_eq_true (List.all_eq_true.1 jIu s (List.mem_range.2 hs)))
section
variable {n : Nat} {t : ByteArray} (h : Y1 n t = true)
include h
theorem jMg {s : Nat} (hs : s < 2 ^ n) : Ev (fun k => Qh.f k (n : Int) t (s : Int)) (jF7 n t s) := by
 obtain ⟨⟨h0, h1⟩, _, _⟩ := (Z7 _ _).1 h
 have h0 : 3 ≤ n := by omega
 have h1 : n ≤ 7 := by omega
 have hp := Kn h1
 have hpos : 0 < 2 ^ n := Nat.pow_pos (by omega)
 obtain ⟨hr, hbit⟩ := Wo h1 hs
 have aA : Y6 n s < 128 := by unfold Y6; omega
 unfold Qh.f
 rw [jAs h1, jG2 h1, Qp (by omega) (by omega), show ((2 ^ n - 1 : Nat) : Int) - (s : Int) = (Y6 n s : Int) by unfold Y6; omega]
 refine Qm (by omega) ?_
 have quads : Ev (fun k => Qh.l1 k (s : Int) 0 (n : Int) t) (!((Z4 n).any (Kb n t s))) := by
  rw [jQ2 t h0 h1 hs]
  have key := jFh (n := n) (σ := Unit) (ρ := Bool) (K := fun _ _ => some true) (L0 := fun a _ k => Qh.l1 k (s : Int) a (n : Int) t) (L1 := fun a b _ k => Qh.l2 k (s : Int) a b (n : Int) t)
   (fun _ q => if (Y2 n).any (apartQ n t s q) then .error false else .ok ()) (fun u => ?_) (fun a hn u => ?_) (fun a hn u => ?_) (fun a b hab hb u => ?_) ()
  ·rw [Yj (fun q => (Y2 n).any (apartQ n t s q))] at key
   cases hq : (Y2 n).any fun q => (Y2 n).any (apartQ n t s q) with
   | true => rw [hq] at key; exact key
   | false => rw [hq] at key; exact key _ (Ev.now _)
  ·refine Goes.step ?_
   simp only [Qh.l1]
   exact Goes.neg (by omega) (Goes.ok (K := fun _ _ => some true) u)
  ·refine Goes.step ?_
   simp only [Qh.l1]
   rw [Qp (x := (a : Int) + 1) (by omega) (by omega)]
   exact Goes.pos (by omega) (Goes.ok (K := fun (_ : Unit) k => Qh.l2 k (s : Int) (a : Int) ((a + 1 : Nat) : Int) (n : Int) t) u)
  ·refine Goes.step ?_
   simp only [Qh.l2]
   rw [Qp (x := (a : Int) + 1) (by omega) (by omega)]
   exact Goes.neg (by omega) (Goes.ok (K := fun (_ : Unit) k => Qh.l1 k (s : Int) ((a + 1 : Nat) : Int) (n : Int) t) u)
  ·refine Goes.step ?_
   simp only [Qh.l2]
   refine Goes.pos (by omega) ?_
   have inner := jFh (n := n) (σ := Unit) (ρ := Bool) (K := fun _ k => Qh.l2 k (s : Int) (a : Int) ((b + 1 : Nat) : Int) (n : Int) t) (L0 := fun c _ k => Qh.l3 k (s : Int) (a : Int) (b : Int) c (n : Int) t) (L1 := fun c d _ k => Qh.l4 k (s : Int) (a : Int) (b : Int) c d (n : Int) t)
    (fun _ q => if apartQ n t s (a, b) q then .error false else .ok ()) (fun u => ?_) (fun c hn u => ?_) (fun c hn u => ?_) (fun c d hcd hd u => ?_) ()
   ·rw [Yj (apartQ n t s (a, b))] at inner
    exact inner
   ·refine Goes.step ?_
    simp only [Qh.l3]
    rw [Qp (x := (b : Int) + 1) (by omega) (by omega)]
    exact Goes.neg (by omega) (Goes.ok (K := fun (_ : Unit) k => Qh.l2 k (s : Int) (a : Int) ((b + 1 : Nat) : Int) (n : Int) t) u)
   ·refine Goes.step ?_
    simp only [Qh.l3]
    rw [Qp (x := (c : Int) + 1) (by omega) (by omega)]
    exact Goes.pos (by omega) (Goes.ok (K := fun (_ : Unit) k => Qh.l4 k (s : Int) (a : Int) (b : Int) (c : Int) ((c + 1 : Nat) : Int) (n : Int) t) u)
   ·refine Goes.step ?_
    simp only [Qh.l4]
    rw [Qp (x := (c : Int) + 1) (by omega) (by omega)]
    exact Goes.neg (by omega) (Goes.ok (K := fun (_ : Unit) k => Qh.l3 k (s : Int) (a : Int) (b : Int) ((c + 1 : Nat) : Int) (n : Int) t) u)
   ·have nx : Goes (.ok ()) (fun (_ : Unit) k => Qh.l4 k (s : Int) (a : Int) (b : Int) (c : Int) ((d + 1 : Nat) : Int) (n : Int) t) (fun k => Qh.j5 k (s : Int) (a : Int) (b : Int) (c : Int) (d : Int) true (n : Int) t) := by
     refine Goes.step ?_
     simp only [Qh.j5]
     rw [Qp (x := (d : Int) + 1) (by omega) (by omega)]
     exact Goes.pos (by first | rfl | trivial) (Goes.ok (K := fun (_ : Unit) k => Qh.l4 k (s : Int) (a : Int) (b : Int) (c : Int) ((d + 1 : Nat) : Int) (n : Int) t) ())
    refine Goes.step ?_
    simp only [Qh.l4]
    refine Goes.pos (by omega) (Goes.call (U5 (by omega) (by omega)) ?_)
    unfold apartQ
    simp only
    cases g1 : s.testBit a with
    | false => exact Goes.neg (by decide) nx
    | true =>
     refine Goes.pos rfl (Goes.call (U5 (by omega) (by omega)) ?_)
     cases g2 : s.testBit b with
     | false => exact Goes.neg (by decide) nx
     | true =>
      refine Goes.pos rfl (Goes.call (U5 (by omega) (by omega)) ?_)
      cases g3 : s.testBit c with
      | true => exact Goes.pos rfl nx
      | false =>
       refine Goes.neg (by decide) (Goes.call (U5 (by omega) (by omega)) ?_)
       cases g4 : s.testBit d with
       | true => exact nx
       | false =>
        have ne : ∀ i j : Nat, s.testBit i = true → s.testBit j = false → i ≠ j := fun i j hi hj e => by rw [e, hj] at hi; cases hi
        have d1 := ne _ _ g1 g3
        have d2 := ne _ _ g1 g4
        have d3 := ne _ _ g2 g3
        have d4 := ne _ _ g2 g4
        refine Goes.step ?_
        simp only [Qh.j5]
        have p1 := Kn (show a ≤ 7 by omega)
        have p2 := Kn (show b ≤ 7 by omega)
        have p3 : 0 < 2 ^ a := Nat.pow_pos (by omega)
        have p4 : 0 < 2 ^ b := Nat.pow_pos (by omega)
        rw [jAs (show a ≤ 7 by omega), jAs (show b ≤ 7 by omega), jDy (show a ≤ 7 by omega), jDy (show b ≤ 7 by omega), Qp (x := ((2 ^ a : Nat) : Int) + ((2 ^ b : Nat) : Int)) (by omega) (by omega), Qp (x := (d : Int) + 1) (by omega) (by omega)]
        refine Goes.neg (by decide) (Goes.ev (jDi h (by omega) hb (by omega) hd (Q6.2 (by omega))) (Goes.pos (by omega) (Goes.pos (by omega) ?_)))
        by_cases g5 : (splitV n t a b c d).1 = 2 ^ a + 2 ^ b
        ·rw [decide_eq_true g5]
         exact Goes.pos (by rw [g5]; omega) (Goes.ret _)
        ·rw [decide_eq_false g5]
         exact Goes.neg (by omega) (Goes.ok (K := fun (_ : Unit) k => Qh.l4 k (s : Int) (a : Int) (b : Int) (c : Int) ((d + 1 : Nat) : Int) (n : Int) t) u)
 have key := Vx (σ := Unit) (ρ := Bool) (lo := 0) (n := n) (K := fun _ k => Qh.l1 k (s : Int) 0 (n : Int) t) (L := fun x _ k => Qh.l0 k (s : Int) (Y6 n s : Int) x (n : Int) t)
  (fun _ x => if We n t s x then .error false else .ok ()) (fun u => ?_) (fun x _ hx u => ?_) (by omega) ()
 ·rw [Yj (We n t s)] at key
  unfold jF7
  cases hn : (List.range' 0 (n - 0)).any (We n t s) with
  | true => rw [hn] at key; exact key
  | false =>
   rw [hn] at key
   rw [Bool.not_false, Bool.true_and]
   exact key _ quads
 ·refine Goes.step ?_
  simp only [Qh.l0]
  exact Goes.neg (by omega) (Goes.ok (K := fun (_ : Unit) k => Qh.l1 k (s : Int) 0 (n : Int) t) u)
 ·have hbr := hbit x hx
  refine Goes.step ?_
  simp only [Qh.l0]
  rw [Qp (x := (x : Int) + 1) (by omega) (by omega)]
  refine Goes.pos (by omega) (Goes.call (U5 (by omega) (by omega)) ?_)
  cases hb : s.testBit x with
  | true =>
   have e : We n t s x = inB n t (Y6 n s) x := by unfold We; rw [hb]; rfl
   rw [hb] at hbr
   rw [e]
   refine Goes.pos rfl (Goes.ev (jEg h aA hx) ?_)
   cases inB n t (Y6 n s) x with
   | true => exact Goes.pos rfl (Goes.ret _)
   | false =>
    refine Goes.neg (by decide) (Goes.call (U5 aA (by omega)) ?_)
    rw [hbr]
    exact Goes.neg (by decide) (Goes.ok (K := fun (_ : Unit) k => Qh.l0 k (s : Int) (Y6 n s : Int) ((x + 1 : Nat) : Int) (n : Int) t) u)
  | false =>
   have e : We n t s x = inB n t s x := by unfold We; rw [hb]; rfl
   rw [hb] at hbr
   rw [e]
   refine Goes.neg (by decide) (Goes.call (U5 aA (by omega)) ?_)
   rw [hbr]
   refine Goes.pos rfl (Goes.ev (jEg h (show s < 128 by omega) hx) ?_)
   cases inB n t s x with
   | true => exact Goes.pos rfl (Goes.ret _)
   | false => exact Goes.neg (by decide) (Goes.ok (K := fun (_ : Unit) k => Qh.l0 k (s : Int) (Y6 n s : Int) ((x + 1 : Nat) : Int) (n : Int) t) u)
end
def jFp (c : Nat → Bool) (k : Int) (s : Nat) : Bool := decide ((Wn s : Int) = k) && c s
def jGp (n : Nat) (c : Nat → Bool) (k : Int) : List Int := ((List.range' 0 (2 ^ n)).filter (jFp c k)).map fun (s : Nat) => (s : Int)
theorem jFa (n : Nat) (c : Nat → Bool) (k : Int) : (List.range' 0 (2 ^ n - 0)).foldlM (fun (u : List Int) s => (.ok (if jFp c k s then u ++ [(s : Int)] else u) : Except (List Int) (List Int))) [] = .ok (jGp n c k) := by
 rw [Xy, foldl_filter, List.nil_append]
 rfl
theorem jFf {n : Nat} (hn : n ≤ 7) (c : Nat → Bool) (k : Int) : (jGp n c k).length ≤ 128 := by
 unfold jGp
 rw [List.length_map]
 refine Nat.le_trans (List.length_filter_le _ _) ?_
 rw [List.length_range']
 exact Kn hn
def jI3 (n : Int) (t : ByteArray) (q : Int) : List Int := if Yi n t = true ∧ 0 ≤ q ∧ q ≤ n then jGp n.toNat (jF7 n.toNat t) q else []
theorem jGb (n : Int) (t : ByteArray) (q : Int) : (jI3 n t q).length ≤ 128 := by
 unfold jI3
 by_cases h : Yi n t = true ∧ 0 ≤ q ∧ q ≤ n
 ·rw [if_pos h]
  obtain ⟨N, rfl, _, h3, h7⟩ := Yu h.1
  exact jFf (by omega) _ _
 ·rw [if_neg h]
  exact Nat.zero_le _
theorem jFq (n : Int) (t : ByteArray) (q : Int) (hs : t.size ≤ 9223372036854775807) : Ev (fun k => J2.f k n t q) (jI3 n t q) := by
 unfold J2.f jI3
 refine Ev.bind (jAi n t hs) ?_
 by_cases ho : Yi n t = true
 ·rw [if_pos ho]
  obtain ⟨N, rfl, h, h0, h1⟩ := Yu ho
  simp only [Int.toNat_natCast]
  refine Qm (by first | rfl | trivial) ?_
  by_cases q0 : q < 0
  ·rw [if_neg (fun e => by omega)]
   refine Qm q0 (Ji ?_)
   simp only [J2.j0]
   exact Qm (by first | rfl | trivial) (Ev.now _)
  ·refine Jn q0 (Ji ?_)
   simp only [J2.j0]
   by_cases q1 : q > (N : Int)
   ·rw [if_neg (fun e => by omega)]
    exact Qm (decide_eq_true q1) (Ev.now _)
   ·rw [if_pos ⟨ho, by omega, by omega⟩]
    refine Jn (by simpa using q1) ?_
    have hp := Kn h1
    have hpos : 0 < 2 ^ N := Nat.pow_pos (by omega)
    have key := X7 (σ := List Int) (ρ := List Int) (lo := 0) (n := 2 ^ N) (K := fun s _ => some s) (L := fun x s k => J2.l0 k q (Vv N t) s x (N : Int) t) (fun x s => s.length ≤ x)
     (fun u s => .ok (if jFp (jF7 N t) q s then u ++ [(s : Int)] else u)) (fun s _ => ?_) (fun x _ hx s hs => ?_) (fun x _ hx s hs s' e => ?_) (by omega) [] (Nat.le_refl _)
    ·rw [jFa] at key
     exact key _ (Ev.now _)
    ·refine Goes.step ?_
     simp only [J2.l0]
     exact Goes.call (jCs (by omega)) (Goes.neg (by omega) (Goes.ok (K := fun s _ => some s) s))
    ·refine Goes.step ?_
     simp only [J2.l0]
     rw [Qp (x := (x : Int) + 1) (by omega) (by omega)]
     refine Goes.call (jCs (by omega)) (Goes.pos (by omega) (Goes.call (jNl (by omega)) ?_))
     unfold jFp
     by_cases g : (Wn x : Int) = q
     ·rw [decide_eq_true g, Bool.true_and]
      refine Goes.pos g (Goes.pos (Vw _ _) (Goes.ev (jL2 h hx) ?_))
      cases jF7 N t x with
      | true => exact Goes.pos rfl (Goes.pos (by omega) (Goes.ok (K := fun s k => J2.l0 k q (Vv N t) s ((x + 1 : Nat) : Int) (N : Int) t) _))
      | false => exact Goes.neg (by decide) (Goes.ok (K := fun s k => J2.l0 k q (Vv N t) s ((x + 1 : Nat) : Int) (N : Int) t) _)
     ·rw [decide_eq_false g, Bool.false_and]
      exact Goes.neg g (Goes.ok (K := fun s k => J2.l0 k q (Vv N t) s ((x + 1 : Nat) : Int) (N : Int) t) _)
    ·cases e
     split
     ·rw [List.length_append, List.length_singleton]; omega
     ·omega
 ·rw [if_neg ho, if_neg (fun e => ho e.1)]
  refine Jn (by decide) (Ji ?_)
  simp only [J2.j0]
  exact Qm (by first | rfl | trivial) (Ev.now _)
theorem jFr (n : Int) (t : ByteArray) (q : Int) (hs : t.size ≤ 9223372036854775807) : Ev (fun k => Zb.f k n t q) (jI3 n t q) := by
 unfold Zb.f jI3
 refine Zv rfl (Ev.bind (V9 n t hs) ?_)
 by_cases ho : Yi n t = true
 ·obtain ⟨N, rfl, h, h0, h1⟩ := Yu ho
  simp only [Int.toNat_natCast]
  refine Qm ho (Zv (jEo _ _ _) (Ji ?_))
  simp only [Zb.j0]
  by_cases g : 0 ≤ q ∧ q ≤ (N : Int)
  ·rw [if_pos ⟨ho, g⟩, decide_eq_true g.1, decide_eq_true g.2]
   refine Jn (by decide) ?_
   have hp := Kn h1
   have hpos : 0 < 2 ^ N := Nat.pow_pos (by omega)
   have key := X7 (σ := List Int) (ρ := List Int) (lo := 0) (n := 2 ^ N) (K := fun s _ => some s) (L := fun x s k => Zb.l0 k q s x (N : Int) t) (fun x s => s.length ≤ x)
    (fun u s => .ok (if jFp (jF7 N t) q s then u ++ [(s : Int)] else u)) (fun s _ => ?_) (fun x _ hx s hs => ?_) (fun x _ hx s hs s' e => ?_) (by omega) [] (Nat.le_refl _)
   ·rw [jFa] at key
    exact key _ (Ev.now _)
   ·refine Goes.step ?_
    simp only [Zb.l0]
    rw [jAs h1, jDy h1]
    exact Goes.pos (by omega) (Goes.neg (by omega) (Goes.ok (K := fun s _ => some s) s))
   ·refine Goes.step ?_
    simp only [Zb.l0]
    rw [jAs h1, jDy h1, Qp (x := (x : Int) + 1) (by omega) (by omega)]
    refine Goes.pos (by omega) (Goes.pos (by omega) (Goes.ev (jPk (by omega)) ?_))
    unfold jFp
    by_cases g : (Wn x : Int) = q
    ·rw [decide_eq_true g, Bool.true_and]
     refine Goes.pos g (Goes.ev (jMg h hx) ?_)
     cases jF7 N t x with
     | true => exact Goes.pos rfl (Goes.pos (by omega) (Goes.ok (K := fun s k => Zb.l0 k q s ((x + 1 : Nat) : Int) (N : Int) t) _))
     | false => exact Goes.neg (by decide) (Goes.ok (K := fun s k => Zb.l0 k q s ((x + 1 : Nat) : Int) (N : Int) t) _)
    ·rw [decide_eq_false g, Bool.false_and]
     exact Goes.neg g (Goes.ok (K := fun s k => Zb.l0 k q s ((x + 1 : Nat) : Int) (N : Int) t) _)
   ·cases e
    split
    ·rw [List.length_append, List.length_singleton]; omega
    ·omega
  ·rw [if_neg (fun e => g e.2)]
   refine Qm ?_ (Ev.now _)
   cases e : decide (0 ≤ q) && decide (q ≤ (N : Int)) with
   | false => rfl
   | true => exact absurd (by simpa using e) g
 ·rw [if_neg (fun e => ho e.1)]
  refine Jn ho (Ji ?_)
  simp only [Zb.j0]
  exact Qm (by first | rfl | trivial) (Ev.now _)
end Go.Proofs.Ytckkfjdkaimmhaa.M
namespace Go.Proofs.Ytckkfjdkaimmhaa.M
open Go.RowKit Go.Proofs.YtckkfjdkaimmhaaW.PrintWords Go.Proofs.Ytckkfjdkaimmhaa.PX
theorem jJd (n : Int) : Go.bits .and .i64 n 255 = n % 256 := by
 have aA : (BitVec.ofInt 64 255).toNat = 2 ^ 8 - 1 := by decide
 have key : (BitVec.ofInt 64 n &&& BitVec.ofInt 64 255).toNat = (n % ((2 ^ 64 : Nat) : Int)).toNat % 2 ^ 8 := by
  rw [BitVec.toNat_and, BitVec.toNat_ofInt, aA, Nat.and_two_pow_sub_one_eq_mod]
 show IntKind.i64.wrap ((BitVec.ofInt 64 n &&& BitVec.ofInt 64 255).toNat : Nat) = n % 256
 rw [key, IntKind.wrap_i64]
 omega
def Cur (l : List Int) (i : Int) : Prop := 0 ≤ i ∧ i ≤ (l.length : Int)
theorem jCl {l : List Int} (hl : l.length ≤ 1048576) {i : Int} (hc : Cur l i) (h : Int) : ∃ x i' h', Xv.f l i h = some (x, i', h') ∧ (0 ≤ x ∧ x ≤ 255) ∧ Cur l i' := by
 obtain ⟨h0, h1⟩ := hc
 unfold Xv.f
 by_cases g : i < (l.length : Int)
 ·rw [if_pos g, if_pos h0, jJd, jJd]
  refine ⟨_, _, _, rfl, by omega, ?_, ?_⟩
  ·rw [Qp (by omega) (by omega)]; omega
  ·rw [Qp (by omega) (by omega)]; omega
 ·rw [if_neg g, jJd]
  exact ⟨_, _, _, rfl, by omega, h0, h1⟩
theorem Vu {l : List Int} (hl : l.length ≤ 1048576) {i : Int} (hc : Cur l i) (h n : Int) : ∃ x i' h', Jz.f l i h n = some (x, i', h') ∧ (n ≤ 0 → x = 0) ∧ (0 < n → 0 ≤ x ∧ x < n) ∧ Cur l i' := by
 unfold Jz.f
 by_cases g : n ≤ 0
 ·rw [if_pos g]
  exact ⟨_, _, _, rfl, fun _ => rfl, fun h => by omega, hc⟩
 ·rw [if_neg g]
  have tm : ∀ x : Int, 0 ≤ x → 0 ≤ Int.tmod x n ∧ Int.tmod x n < n := fun x hx => by
   rw [Int.tmod_eq_emod_of_nonneg hx]
   exact ⟨Int.emod_nonneg _ (by omega), Int.emod_lt_of_pos _ (by omega)⟩
  by_cases g' : n ≤ 256
  ·rw [if_pos g']
   obtain ⟨x, i1, h1, e1, b1, c1⟩ := jCl hl hc h
   rw [e1]
   simp only [Option.bind_some]
   rw [if_neg (by omega)]
   exact ⟨_, _, _, rfl, fun h => by omega, fun _ => tm x b1.1, c1⟩
  ·rw [if_neg g']
   obtain ⟨x, i1, h1, e1, b1, c1⟩ := jCl hl hc h
   obtain ⟨y, i2, h2, e2, b2, c2⟩ := jCl hl c1 h1
   obtain ⟨z, i3, h3, e3, b3, c3⟩ := jCl hl c2 h2
   obtain ⟨w, i4, h4, e4, b4, c4⟩ := jCl hl c3 h3
   rw [e1]
   simp only [Option.bind_some]
   rw [e2]
   simp only [Option.bind_some]
   rw [e3]
   simp only [Option.bind_some]
   rw [e4]
   simp only [Option.bind_some]
   rw [if_neg (by omega)]
   refine ⟨_, _, _, rfl, fun h => by omega, fun _ => tm _ ?_, c4⟩
   rw [Qp (x := x * 16777216) (by omega) (by omega), Qp (x := y * 65536) (by omega) (by omega), Qp (x := z * 256) (by omega) (by omega), Qp (x := x * 16777216 + y * 65536) (by omega) (by omega)]
   rw [Qp (x := x * 16777216 + y * 65536 + z * 256) (by omega) (by omega), Qp (by omega) (by omega)]
   omega
theorem jNr (l : List Int) (_ : l.length ≤ 1048576) : ∃ h, Ev (fun k => Xc.f k l) (l, 0, h) := by
 have key : ∀ (d i : Nat) (x : Int), i + d = l.length → ∃ h, Ev (fun k => Xc.l0 k l x (i : Int)) (l, 0, h) := by
  intro d
  induction d with
  | zero =>
   intro i x hi
   refine ⟨x, Ji ?_⟩
   simp only [Xc.l0]
   exact Jn (by omega) (Ev.now _)
  | succ d ih =>
   intro i x hi
   by_cases g : (i : Int) < 4000
   ·obtain ⟨h, hh⟩ := ih (i + 1) (Go.bits .and .i64 (wrap64 ((wrap64 ((wrap64 (x * 131)) + (wrap64 (rd l (i : Int))))) + 7)) 1073741823) (by omega)
    refine ⟨h, Ji ?_⟩
    simp only [Xc.l0]
    rw [Qp (x := (i : Int) + 1) (by omega) (by omega)]
    exact Qm (by omega) (Qm g (Qm (by omega) hh))
   ·refine ⟨x, Ji ?_⟩
    simp only [Xc.l0]
    exact Qm (by omega) (Jn g (Ev.now _))
 unfold Xc.f
 exact key l.length 0 _ (by omega)
theorem jSc (l : List Int) : Cur l 0 := ⟨Int.le_refl 0, by omega⟩
theorem jKa {l : List Int} (hl : l.length ≤ 1048576) {i : Int} (hc : Cur l i) (h : Int) (ts : List ByteArray) (ht : ts ≠ []) : ∃ x i' h', Y7.f l i h ts = some (x, i', h') ∧ x ∈ ts ∧ Cur l i' := by
 have hp : 0 < ts.length := List.length_pos_iff.2 ht
 obtain ⟨x, i', h', e, _, b, c⟩ := Vu hl hc h (ts.length : Int)
 have b := b (by omega)
 unfold Y7.f
 rw [e]
 simp only [Option.bind_some]
 rw [if_pos b.1, if_pos b.2]
 refine ⟨_, _, _, rfl, ?_, c⟩
 obtain ⟨j, rfl⟩ := Int.eq_ofNat_of_zero_le b.1
 have hj : j < ts.length := by omega
 unfold jOb
 rw [Int.toNat_natCast, List.getD_eq_getElem?_getD, List.getElem?_eq_getElem hj]
 exact List.getElem_mem hj
theorem jIr {l : List Int} (hl : l.length ≤ 1048576) {i : Int} (hc : Cur l i) (h : Int) (ts : List Int) (ht : ts ≠ []) : ∃ x i' h', Y0.f l i h ts = some (x, i', h') ∧ x ∈ ts ∧ Cur l i' := by
 have hp : 0 < ts.length := List.length_pos_iff.2 ht
 obtain ⟨x, i', h', e, _, b, c⟩ := Vu hl hc h (ts.length : Int)
 have b := b (by omega)
 unfold Y0.f
 rw [e]
 simp only [Option.bind_some]
 rw [if_pos b.1, if_pos b.2]
 refine ⟨_, _, _, rfl, ?_, c⟩
 obtain ⟨j, rfl⟩ := Int.eq_ofNat_of_zero_le b.1
 have hj : j < ts.length := by omega
 unfold rd
 rw [Int.toNat_natCast, List.getD_eq_getElem?_getD, List.getElem?_eq_getElem hj]
 exact List.getElem_mem hj
theorem jB8 {l : List Int} (hl : l.length ≤ 1048576) {i : Int} (hc : Cur l i) (h n : Int) : ∃ b i' h', Xk.f l i h n = some (b, i', h') ∧ Cur l i' := by
 obtain ⟨x, i', h', e, _, _, c⟩ := Vu hl hc h n
 unfold Xk.f
 rw [e]
 exact ⟨_, _, _, rfl, c⟩
abbrev IP := S83
theorem jSl {l : List IP} {i : Nat} (h : i < l.length) : Js l (i : Int) = l[i] := by
 unfold Js
 rw [Int.toNat_natCast, List.getD_eq_getElem?_getD, List.getElem?_eq_getElem h]
 rfl
end Go.Proofs.Ytckkfjdkaimmhaa.M
namespace Go.Proofs.Ytckkfjdkaimmhaa.M
open Go.RowKit Go.Proofs.YtckkfjdkaimmhaaW.PrintWords Go.Proofs.Ytckkfjdkaimmhaa.PX Go.Proofs.Ytckkfjdkaimmhaa.G
def Kl (most : Int) (p : IP) : Bool := (decide (-most ≤ p.f0) && decide (p.f0 ≤ most)) && (decide (-most ≤ p.f1) && decide (p.f1 ≤ most))
def jBc (a b c : IP) : Int := (b.f0 - a.f0) * (c.f1 - a.f1) - (b.f1 - a.f1) * (c.f0 - a.f0)
def jRm (x : Int) : Int := if x < 0 then -1 else if x > 0 then 1 else 0
theorem jA5 {most : Int} {p : IP} : Kl most p = true ↔ (-most ≤ p.f0 ∧ p.f0 ≤ most) ∧ (-most ≤ p.f1 ∧ p.f1 ≤ most) := by
 unfold Kl
 simp only [Bool.and_eq_true, decide_eq_true_eq]
theorem jLa (p : IP) (most : Int) (h0 : 0 ≤ most) (h1 : most ≤ 1000000) : Vj.f p.f0 p.f1 most = some (Kl most p) := by
 have one : ∀ x : Int, Zz.f x (-most) most = some (decide (-most ≤ x) && decide (x ≤ most)) := by
  intro x
  unfold Zz.f
  by_cases h : x ≥ -most
  ·rw [if_pos h, decide_eq_true (show -most ≤ x from h), Bool.true_and]
  ·rw [if_neg h, decide_eq_false (show ¬ -most ≤ x from h), Bool.false_and]
 unfold Vj.f Kl
 rw [Qp (by omega) (by omega), one, one]
 cases decide (-most ≤ p.f0) && decide (p.f0 ≤ most) <;> rfl
theorem jNu {x y : Int} (h1 : -2000 ≤ x) (h2 : x ≤ 2000) (h3 : -2000 ≤ y) (h4 : y ≤ 2000) : -4000000 ≤ x * y ∧ x * y ≤ 4000000 := by
 have h := Int.natAbs_mul x y
 have h' : x.natAbs * y.natAbs ≤ 2000 * 2000 := Nat.mul_le_mul (by omega) (by omega)
 omega
theorem jOa {a b c : IP} (ha : Kl 1000 a = true) (hb : Kl 1000 b = true) (hc : Kl 1000 c = true) :
  wrap64 ((wrap64 ((wrap64 (b.f0 - a.f0)) * (wrap64 (c.f1 - a.f1)))) - (wrap64 ((wrap64 (b.f1 - a.f1)) * (wrap64 (c.f0 - a.f0))))) = jBc a b c ∧ -8000000 ≤ jBc a b c ∧ jBc a b c ≤ 8000000 := by
 obtain ⟨⟨a1, a2⟩, a3, a4⟩ := jA5.1 ha
 obtain ⟨⟨b1, b2⟩, b3, b4⟩ := jA5.1 hb
 obtain ⟨⟨c1, c2⟩, c3, c4⟩ := jA5.1 hc
 have m1 := jNu (x := b.f0 - a.f0) (y := c.f1 - a.f1) (by omega) (by omega) (by omega) (by omega)
 have m2 := jNu (x := b.f1 - a.f1) (y := c.f0 - a.f0) (by omega) (by omega) (by omega) (by omega)
 rw [Qp (x := b.f0 - a.f0) (by omega) (by omega), Qp (x := c.f1 - a.f1) (by omega) (by omega), Qp (x := b.f1 - a.f1) (by omega) (by omega), Qp (x := c.f0 - a.f0) (by omega) (by omega)]
 rw [Qp (x := (b.f0 - a.f0) * (c.f1 - a.f1)) (by omega) (by omega), Qp (x := (b.f1 - a.f1) * (c.f0 - a.f0)) (by omega) (by omega)]
 unfold jBc
 exact ⟨Qp (by omega) (by omega), by omega, by omega⟩
def jMq (a b c : IP) : Bool := Kl 1000 a && (Kl 1000 b && Kl 1000 c)
theorem jCp {a b c : IP} : jMq a b c = true ↔ Kl 1000 a = true ∧ Kl 1000 b = true ∧ Kl 1000 c = true := by
 unfold jMq
 simp only [Bool.and_eq_true]
theorem jE0 {a b c : IP} (h : jMq a b c = true) : X8.f a.f0 a.f1 b.f0 b.f1 c.f0 c.f1 = some (jBc a b c) := by
 obtain ⟨ha, hb, hc⟩ := jCp.1 h
 unfold X8.f
 rw [(jOa ha hb hc).1]
def pt (l : List IP) (i : Nat) : IP := Js l (i : Int)
theorem jOc {l : List IP} {i : Nat} (h : i < l.length) : pt l i = l[i] := jSl h
def jC4 (l : List IP) (q : Nat × Nat × Nat) : Bool := decide (jBc (pt l q.1) (pt l q.2.1) (pt l q.2.2) = 0)
def jAj (l : List IP) : Bool := (decide (3 ≤ l.length) && decide (l.length ≤ 7)) && (l.all (Kl 50) && !((Xi l.length).any (jC4 l)))
theorem jCb {p : IP} (h : Kl 50 p = true) : Kl 1000 p = true := by
 rw [jA5] at h ⊢
 omega
theorem jDf {l : List IP} : jAj l = true ↔ (3 ≤ l.length ∧ l.length ≤ 7) ∧ (∀ p ∈ l, Kl 50 p = true) ∧ ∀ a b c, a < b → b < c → c < l.length → jBc (pt l a) (pt l b) (pt l c) ≠ 0 := by
 unfold jAj
 simp only [Bool.and_eq_true, decide_eq_true_eq, List.all_eq_true, Bool.not_eq_true', List.any_eq_false, jC4]
 constructor
 ·rintro ⟨h1, h2, h3⟩
  exact ⟨h1, h2, fun a b c hab hbc hc => h3 (a, b, c) (jA1 hab hbc hc)⟩
 ·rintro ⟨h1, h2, h3⟩
  exact ⟨h1, h2, fun ⟨a, b, c⟩ hq => h3 a b c (Ul hq).1 (Ul hq).2.1 (Ul hq).2.2⟩
theorem jI8 {l : List IP} (h : l.all (Kl 50) = true) {a b c : Nat} (ha : a < l.length) (hb : b < l.length) (hc : c < l.length) : jMq (pt l a) (pt l b) (pt l c) = true := by
 have key : ∀ {i : Nat}, i < l.length → Kl 1000 (pt l i) = true := fun {i} hi => by
  rw [jOc hi]
  exact jCb (List.all_eq_true.1 h _ (List.getElem_mem hi))
 exact jCp.2 ⟨key ha, key hb, key hc⟩
theorem jIp (x lo hi : Int) : Zz.f x lo hi = some (decide (lo ≤ x) && decide (x ≤ hi)) := by
 unfold Zz.f
 by_cases h : x ≥ lo
 ·rw [if_pos h, decide_eq_true (show lo ≤ x from h), Bool.true_and]
 ·rw [if_neg h, decide_eq_false (show ¬ lo ≤ x from h), Bool.false_and]
def jA9 (l : List IP) (k : Nat) : Bool := !Kl 50 (pt l k) || (List.range' 0 (k - 0)).any fun j => (List.range' 0 (j - 0)).any fun i => jC4 l (i, j, k)
theorem jI2 (l : List IP) : (!((List.range' 0 (l.length - 0)).any (jA9 l))) = (l.all (Kl 50) && !((Xi l.length).any (jC4 l))) := by
 rw [Bool.eq_iff_iff]
 simp only [Bool.not_eq_true', List.any_eq_false, Bool.and_eq_true, List.all_eq_true, jA9, Bool.or_eq_true, not_or, Bool.not_eq_false, List.any_eq_true, not_exists, not_and, List.mem_range'_1]
 constructor
 ·intro h
  refine ⟨fun p hp => ?_, fun ⟨a, b, c⟩ hq => ?_⟩
  ·obtain ⟨i, hi, rfl⟩ := List.getElem_of_mem hp
   have := (h i (by omega)).1
   rw [jOc hi] at this
   simpa using this
  ·obtain ⟨h1, h2, h3⟩ := Ul hq
   exact (h c (by omega)).2 b (by omega) a (by omega)
 ·rintro ⟨h1, h2⟩ k hk
  refine ⟨?_, fun j hj i hi => h2 (i, j, k) (jA1 (by omega) (by omega) (by omega))⟩
  rw [jOc (show k < l.length by omega)]
  simpa using h1 _ (List.getElem_mem _)
theorem jGw (l : List IP) (hl : l.length ≤ 10000000) : Ev (fun q => Qq.f q l) (jAj l) := by
 unfold Qq.f
 refine Zv (jIp _ _ _) ?_
 by_cases hn : 3 ≤ l.length ∧ l.length ≤ 7
 ·refine Qm (by simp; omega) (Y5 ?_ (show (!((List.range' 0 (l.length - 0)).any (jA9 l))) = jAj l from ?_))
  ·have key := X7 (σ := Unit) (ρ := Bool) (lo := 0) (n := l.length) (K := fun _ _ => some true) (L := fun x _ q => Qq.l0 q l x) (fun k _ => ∀ i, i < k → Kl 50 (pt l i) = true) (fun _ k => if jA9 l k then .error false else .ok ()) (fun u _ => ?_) (fun k _ hk u hI => ?_) (fun k _ hk u hI u' e => ?_) (by omega) () (fun i hi => absurd hi (Nat.not_lt_zero _))
   ·rw [Yj (jA9 l)] at key
    cases hq : (List.range' 0 (l.length - 0)).any (jA9 l) with
    | true => rw [hq] at key; exact key
    | false => rw [hq] at key; exact key _ (Ev.now _)
   ·refine Goes.step ?_
    simp only [Qq.l0]
    exact Goes.neg (by omega) (Goes.ok (K := fun _ _ => some true) u)
   ·refine Goes.step ?_
    simp only [Qq.l0]
    refine Goes.pos (by omega) (Goes.pos (by omega) (Goes.call (jLa (pt l k) 50 (by decide) (by decide)) ?_))
    cases hf : Kl 50 (pt l k) with
    | false => exact Goes.neg (by decide) (Goes.cast (Goes.ret _) (by simp [jA9, hf]))
    | true =>
     refine Goes.pos rfl ?_
     have one := Vx (σ := Unit) (ρ := Bool) (lo := 0) (n := k) (K := fun _ q => Qq.l0 q l ((k + 1 : Nat) : Int)) (L := fun x _ q => Qq.l1 q l (k : Int) x) (fun _ j => if (List.range' 0 (j - 0)).any (fun i => jC4 l (i, j, k)) then .error false else .ok ()) (fun u => ?_) (fun j _ hj u => ?_) (by omega) ()
     ·rw [Yj (fun j => (List.range' 0 (j - 0)).any fun i => jC4 l (i, j, k))] at one
      refine one.cast ?_
      simp [jA9, hf]
     ·refine Goes.step ?_
      simp only [Qq.l1]
      rw [Qp (by omega) (by omega)]
      exact Goes.neg (by omega) (Goes.ok (K := fun (_ : Unit) q => Qq.l0 q l ((k + 1 : Nat) : Int)) u)
     ·refine Goes.step ?_
      simp only [Qq.l1]
      refine Goes.pos (by omega) ?_
      have two := Vx (σ := Unit) (ρ := Bool) (lo := 0) (n := j) (K := fun _ q => Qq.l1 q l (k : Int) ((j + 1 : Nat) : Int)) (L := fun x _ q => Qq.l2 q l (k : Int) (j : Int) x) (fun _ i => if jC4 l (i, j, k) then .error false else .ok ()) (fun u => ?_) (fun i _ hi u => ?_) (by omega) ()
      ·rw [Yj (fun i => jC4 l (i, j, k))] at two
       exact two
      ·refine Goes.step ?_
       simp only [Qq.l2]
       rw [Qp (by omega) (by omega)]
       exact Goes.neg (by omega) (Goes.ok (K := fun (_ : Unit) q => Qq.l1 q l (k : Int) ((j + 1 : Nat) : Int)) u)
      ·refine Goes.step ?_
       simp only [Qq.l2]
       rw [Qp (x := (i : Int) + 1) (by omega) (by omega)]
       refine Goes.pos (by omega) (Goes.pos (by omega) (Goes.pos (by omega) (Goes.pos (by omega) (Goes.pos (by omega) (Goes.pos (by omega) (Goes.pos (by omega) ?_))))))
       have nn : ∀ x, x ≤ k → Kl 1000 (pt l x) = true := fun x hx => by
        by_cases e : x = k
        ·subst e; exact jCb hf
        ·exact jCb (hI x (by omega))
       refine Goes.call (jE0 (a := pt l i) (b := pt l j) (c := pt l k) (jCp.2 ⟨nn i (by omega), nn j (by omega), nn k (by omega)⟩)) ?_
       by_cases g : jBc (pt l i) (pt l j) (pt l k) = 0
       ·exact Goes.pos g (Goes.cast (Goes.ret _) (by simp [jC4, g]))
       ·exact Goes.neg g (Goes.cast (Goes.ok (K := fun (_ : Unit) q => Qq.l2 q l (k : Int) (j : Int) ((i + 1 : Nat) : Int)) u) (by simp [jC4, g]))
   ·intro i hi
    by_cases ei : i = k
    ·subst ei
     cases hf : Kl 50 (pt l i) with
     | true => rfl
     | false => simp [jA9, hf] at e
    ·exact hI i (by omega)
  ·unfold jAj
   rw [jI2]
   simp [hn.1, hn.2]
 ·refine Jn (by simp; omega) (Y5 (Ev.now _) ?_)
  unfold jAj
  have : (decide (3 ≤ l.length) && decide (l.length ≤ 7)) = false := by simp; omega
  rw [this]
  rfl
end Go.Proofs.Ytckkfjdkaimmhaa.M
namespace Go.Proofs.Ytckkfjdkaimmhaa.PX
open Go.RowKit Go.Proofs.Ytckkfjdkaimmhaa.G Go.Proofs.YtckkfjdkaimmhaaW.PrintWords Go.Proofs.YtckkfjdkaimmhaaW.PrintLast Go.Proofs.YtckkfjdkaimmhaaW.PrintMore
attribute [local go_sem] max2_int min2_int Yd Yg Xh Xf Xq Xp   -- for this text's walks alone
set_option linter.unusedVariables false
set_option linter.unusedSimpArgs false
end Go.Proofs.Ytckkfjdkaimmhaa.PX
namespace Go.Proofs.Ytckkfjdkaimmhaa.M
open Go.RowKit Go.Proofs.YtckkfjdkaimmhaaW.PrintWords Go.Proofs.Ytckkfjdkaimmhaa.PX Go.Proofs.Ytckkfjdkaimmhaa.G
theorem jM7 {x3 x5 : Int} {ps : List IP} {l : List Int} {i h p q : Int} {x8 : Nat} (h8 : x8 < ps.length) (hps : ps.length ≤ 100) (d : Nat) : ∀ (x9 : Nat) (x7 : Bool), x9 + d = x8 →
  ∃ aA, ∀ r, Ev (fun k => Qn.l1 k x3 ps x5 aA ((x8 + 1 : Nat) : Int) l i h p q) r → Ev (fun k => Qn.l2 k x3 ps x5 x7 (x8 : Int) (x9 : Int) l i h p q) r := by
 induction d with
 | zero =>
  intro x9 x7 hd
  refine ⟨x7, fun r hr => Ji ?_⟩
  simp only [Qn.l2]
  rw [Qp (x := (x8 : Int) + 1) (by omega) (by omega)]
  exact Jn (by omega) hr
 | succ d ih =>
  intro x9 x7 hd
  cases x7 with
  | false =>
   refine ⟨false, fun r hr => Ji ?_⟩
   simp only [Qn.l2]
   rw [Qp (x := (x8 : Int) + 1) (by omega) (by omega)]
   exact Qm (by omega) (Jn (by decide) hr)
  | true =>
   obtain ⟨v, hv⟩ : ∃ v, X8.f ((Js ps (x9 : Int)).f0) ((Js ps (x9 : Int)).f1) ((Js ps (x8 : Int)).f0) ((Js ps (x8 : Int)).f1) p q = some v := ⟨_, rfl⟩
   obtain ⟨aA, h'⟩ := ih (x9 + 1) (v != 0) (by omega)
   refine ⟨aA, fun r hr => Ji ?_⟩
   simp only [Qn.l2]
   rw [Qp (x := (x9 : Int) + 1) (by omega) (by omega)]
   exact Qm (by omega) (Qm (by trivial) (Qm (by omega) (Qm (by omega) (Qm (by omega) (Qm (by omega) (Zv hv (h' r hr)))))))
theorem jNb {x3 : Int} {x5 : Nat} (h5 : x5 ≤ 12) {ps : List IP} {l : List Int} {i h p q : Int} (hps : ps.length ≤ 100) (d : Nat) : ∀ (x8 : Nat) (x7 : Bool), x8 + d = ps.length →
  ∃ ps' : List IP, ps'.length ≤ ps.length + 1 ∧ ∀ r, Ev (fun k => Qn.l0 k x3 ps' ((x5 + 1 : Nat) : Int) l i h) r → Ev (fun k => Qn.l1 k x3 ps (x5 : Int) x7 (x8 : Int) l i h p q) r := by
 have fin : ∀ (x8 : Nat) (x7 : Bool), ∃ ps' : List IP, ps'.length ≤ ps.length + 1 ∧ ∀ r, Ev (fun k => Qn.l0 k x3 ps' ((x5 + 1 : Nat) : Int) l i h) r → Ev (fun k => Qn.j3 k x3 ps (x5 : Int) x7 (x8 : Int) false l i h p q) r := by
  intro x8 x7
  cases x7 with
  | true =>
   refine ⟨ps ++ [(⟨p, q⟩ : IP)], by simp, fun r hr => Ji ?_⟩
   simp only [Qn.j3]
   rw [Qp (x := (x5 : Int) + 1) (by omega) (by omega)]
   exact Jn (by decide) (Qm (by trivial) (Qm (by omega) hr))
  | false =>
   refine ⟨ps, by omega, fun r hr => Ji ?_⟩
   simp only [Qn.j3]
   rw [Qp (x := (x5 : Int) + 1) (by omega) (by omega)]
   exact Jn (by decide) (Jn (by decide) hr)
 induction d with
 | zero =>
  intro x8 x7 hd
  obtain ⟨ps', hl, hr⟩ := fin x8 x7
  refine ⟨ps', hl, fun r h => Ji ?_⟩
  simp only [Qn.l1]
  exact Jn (by omega) (hr r h)
 | succ d ih =>
  intro x8 x7 hd
  cases x7 with
  | false =>
   obtain ⟨ps', hl, hr⟩ := fin x8 false
   refine ⟨ps', hl, fun r h => Ji ?_⟩
   simp only [Qn.l1]
   exact Qm (by omega) (hr r h)
  | true =>
   obtain ⟨aA, hi⟩ := jM7 (x3 := x3) (x5 := (x5 : Int)) (l := l) (i := i) (h := h) (p := p) (q := q) (ps := ps) (x8 := x8) (by omega) hps x8 0 (!(((Js ps (x8 : Int)).f0) == p) || (!(((Js ps (x8 : Int)).f1) == q))) (by omega)
   obtain ⟨ps', hl, hr⟩ := ih (x8 + 1) aA (by omega)
   refine ⟨ps', hl, fun r h => Ji ?_⟩
   simp only [Qn.l1]
   refine Qm (by omega) (Ji ?_)
   simp only [Qn.j3]
   exact Qm (by trivial) (Qm (by omega) (Qm (by omega) (hi r (hr r h))))
theorem jFc {l : List Int} (hl : l.length ≤ 1048576) {i : Int} (hc : Cur l i) (h : Int) : ∃ (ps : List IP) (i' h' : Int), Ev (fun k => Qn.f k l i h) (ps, i', h') ∧ 3 ≤ ps.length ∧ ps.length ≤ 20 ∧ Cur l i' := by
 have done : ∀ (x5 : Nat) (ps : List IP) (i h x3 : Int), ps.length ≤ 12 → Cur l i → ∃ (ps' : List IP) (i' h' : Int), Ev (fun k => Qn.j1 k x3 ps (x5 : Int) false l i h) (ps', i', h') ∧ 3 ≤ ps'.length ∧ ps'.length ≤ 20 ∧ Cur l i' := by
  intro x5 ps i h x3 hp hc
  by_cases g : (ps.length : Int) < 3
  ·refine ⟨[(⟨0, 0⟩ : IP), (⟨4, 1⟩ : IP), (⟨1, 3⟩ : IP), (⟨2, 2⟩ : IP)], i, h, Ji ?_, by simp, by simp, hc⟩
   simp only [Qn.j1]
   exact Jn (by decide) (Qm g (Ev.now _))
  ·refine ⟨ps, i, h, Ji ?_, by omega, by omega, hc⟩
   simp only [Qn.j1]
   exact Jn (by decide) (Jn g (Ev.now _))
 have key : ∀ (d x5 : Nat) (ps : List IP) (i h x3 : Int), x5 + d = 12 → ps.length ≤ x5 → Cur l i → ∃ (ps' : List IP) (i' h' : Int), Ev (fun k => Qn.l0 k x3 ps (x5 : Int) l i h) (ps', i', h') ∧ 3 ≤ ps'.length ∧ ps'.length ≤ 20 ∧ Cur l i' := by
  intro d
  induction d with
  | zero =>
   intro x5 ps i h x3 hd hp hc
   obtain ⟨ps', i', h', e, r⟩ := done x5 ps i h x3 (by omega) hc
   refine ⟨ps', i', h', Ji ?_, r⟩
   simp only [Qn.l0]
   exact Jn (by omega) e
  | succ d ih =>
   intro x5 ps i h x3 hd hp hc
   by_cases g : (ps.length : Int) < x3
   ·obtain ⟨x, i1, h1, e1, _, _, c1⟩ := Vu hl hc h 13
    obtain ⟨y, i2, h2, e2, _, _, c2⟩ := Vu hl c1 h1 13
    obtain ⟨aA, hl1, hr1⟩ := jNb (x3 := x3) (x5 := x5) (by omega) (l := l) (i := i2) (h := h2) (p := wrap64 (x - 6)) (q := wrap64 (y - 6)) (ps := ps) (by omega) ps.length 0 true (by omega)
    obtain ⟨ps', i', h', e, r⟩ := ih (x5 + 1) aA i2 h2 x3 (by omega) (by omega) c2
    refine ⟨ps', i', h', Ji ?_, r⟩
    simp only [Qn.l0]
    refine Qm (by omega) (Ji ?_)
    simp only [Qn.j1]
    exact Qm (decide_eq_true g) (Zv e1 (Zv e2 (hr1 _ e)))
   ·obtain ⟨ps', i', h', e, r⟩ := done x5 ps i h x3 (by omega) hc
    refine ⟨ps', i', h', Ji ?_, r⟩
    simp only [Qn.l0]
    rw [decide_eq_false g]
    exact Qm (by omega) e
 obtain ⟨x, i1, h1, e1, _, _, c1⟩ := Vu hl hc h 4
 obtain ⟨ps', i', h', e, r⟩ := key 12 0 [] i1 h1 (wrap64 (3 + x)) rfl (Nat.le_refl _) c1
 refine ⟨ps', i', h', ?_, r⟩
 unfold Qn.f
 exact Zv e1 e
def sgC (x : Int) : UInt8 := if x > 0 then 43 else 45
def mkB (l : List UInt8) : ByteArray := ⟨l.toArray⟩
theorem jAm (l : List UInt8) : (mkB l).size = l.length := by simp [mkB, ByteArray.size]
theorem jD3 (l l' : List UInt8) : mkB l ++ mkB l' = mkB (l ++ l') := by
 apply ByteArray.ext
 rw [ByteArray.data_append]
 simp [mkB]
theorem jGm (x : Int) : Xd.f x = some (mkB [sgC x]) := by
 unfold Xd.f sgC
 split <;> rfl
def jSe (n : Nat) (s : Nat → Int) (x : Nat) : Int := match V3 (Xt n) 0 x with | some z => sgv z.1 (s z.2) | none => 0
def jRy (n : Nat) (s : Nat → Int) (a b c : Nat) : Int := jSe n s (ix3 a b c)
theorem jMv (n : Nat) (t : ByteArray) (a b c : Nat) : chi n t a b c = jRy n (sgB t) a b c := rfl
def Kk (n p : Nat) : S99 := (Xt n).getD p ⟨0, 0, 0⟩
theorem jCg {n p : Nat} (h : p < (Xt n).length) : Kk n p = (Xt n)[p] := by
 unfold Kk
 rw [List.getD_eq_getElem?_getD, List.getElem?_eq_getElem h]; rfl
def jSf (n : Nat) : Bool := (List.range (Xt n).length).all fun p => (V3 (Xt n) 0 (ix3 (Kk n p).f0.toNat (Kk n p).f1.toNat (Kk n p).f2.toNat) == some (false, p)) && decide ((Kk n p).f0 < (Kk n p).f1) && decide ((Kk n p).f1 < (Kk n p).f2) && decide ((Kk n p).f2 < n) && decide (0 ≤ (Kk n p).f0)
theorem jL5 {n : Nat} (h0 : 3 ≤ n) (h1 : n ≤ 7) : (jSf n && decide ((Xt n).length ≤ 35)) = true := by
 refine five (p := fun n => (jSf n && decide ((Xt n).length ≤ 35)) = true) h0 h1 ?_ ?_ ?_ ?_ ?_ <;> decide +kernel
theorem jOq {n p : Nat} (h0 : 3 ≤ n) (h1 : n ≤ 7) (hp : p < (Xt n).length) : ∃ a b c : Nat, (Xt n)[p] = ⟨(a : Int), (b : Int), (c : Int)⟩ ∧ a < b ∧ b < c ∧ c < n ∧ V3 (Xt n) 0 (ix3 a b c) = some (false, p) := by
 have h := jL5 h0 h1
 simp only [Bool.and_eq_true, decide_eq_true_eq] at h
 have h := List.all_eq_true.1 h.1 p (List.mem_range.2 hp)
 simp only [Bool.and_eq_true, decide_eq_true_eq, beq_iff_eq] at h
 obtain ⟨⟨⟨⟨g0, g1⟩, g2⟩, g3⟩, g4⟩ := h
 rw [jCg hp] at *
 generalize (Xt n)[p] = y at *
 obtain ⟨x0, x1, x2⟩ := y
 simp only at *
 refine ⟨x0.toNat, x1.toNat, x2.toNat, ?_, by omega, by omega, by omega, g0⟩
 rw [Int.toNat_of_nonneg (by omega), Int.toNat_of_nonneg (by omega), Int.toNat_of_nonneg (by omega)]
theorem jOs {n p a b c : Nat} {neg : Bool} (s : Nat → Int) (h : V3 (Xt n) 0 (ix3 a b c) = some (neg, p)) : jRy n s a b c = sgv neg (s p) := by
 unfold jRy jSe
 rw [h]
def jLl (n : Nat) (s : Nat → Int) : ByteArray := mkB ((List.range (Xt n).length).map fun p => sgC (s p))
theorem jD1 {α β : Type} (f : α → β) (l : List α) : ∀ s : List β, l.foldl (fun s a => s ++ [f a]) s = s ++ l.map f := by
 induction l with
 | nil => intro s; simp
 | cons x l ih => intro s; rw [List.foldl_cons, ih, List.map_cons, List.append_assoc]; rfl
theorem jKu (n : Nat) (s : Nat → Int) : (jLl n s).data.toList = (List.range (Xt n).length).map fun p => sgC (s p) := rfl
theorem jLg {n : Nat} (s : Nat → Int) (h0 : 3 ≤ n) (h1 : n ≤ 7) : Y1 n (jLl n s) = true := by
 rw [Z7]
 refine ⟨by omega, ?_, fun c hc => ?_⟩
 ·rw [← (jBf h0 h1).2, jLl, jAm, List.length_map, List.length_range]
 ·rw [jKu, List.mem_map] at hc
  obtain ⟨p, _, rfl⟩ := hc
  unfold sgC
  split <;> simp
theorem jHy {n : Nat} {s : Nat → Int} (g : Nat × Nat × Nat → UInt8) (h0 : 3 ≤ n) (h1 : n ≤ 7) (h : ∀ (p : Nat) (hp : p < (Xt n).length) (a b c : Nat), (Xt n)[p] = ⟨(a : Int), (b : Int), (c : Int)⟩ → sgC (s p) = g (a, b, c)) : mkB ((Xi n).map g) = jLl n s := by
 unfold jLl
 congr 1
 have e := jHc h0 h1
 have el : (Xi n).length = (Xt n).length := by rw [e, List.length_map]
 refine List.ext_getElem (by rw [List.length_map, List.length_map, List.length_range, el]) fun p hp1 hp2 => ?_
 rw [List.length_map, List.length_range] at hp2
 simp only [List.getElem_map, List.getElem_range]
 have hp : p < (Xi n).length := by omega
 have e1 : (Xt n)[p] = ⟨((Xi n)[p].1 : Int), ((Xi n)[p].2.1 : Int), ((Xi n)[p].2.2 : Int)⟩ := by
  simp only [e, List.getElem_map]
 exact (h p hp2 _ _ _ e1).symm
def jJl (l : List IP) (q : Nat) : Int := jRm (jBc (pt l (Kk l.length q).f0.toNat) (pt l (Kk l.length q).f1.toNat) (pt l (Kk l.length q).f2.toNat))
def Wz (l : List IP) : Int × ByteArray × Bool := if jAj l = true then ((l.length : Int), jLl l.length (jJl l), true) else (0, ⟨#[]⟩, false)
theorem jMj {l : List IP} {q a b c : Nat} (hq : q < (Xt l.length).length) (e : (Xt l.length)[q] = ⟨(a : Int), (b : Int), (c : Int)⟩) : jJl l q = jRm (jBc (pt l a) (pt l b) (pt l c)) := by
 unfold jJl
 rw [jCg hq, e]
 rfl
theorem jM2 (x : Int) : (jRm x > 0) ↔ x > 0 := by
 unfold jRm
 split
 ·constructor <;> intro h <;> omega
 ·split <;> constructor <;> intro h <;> omega
theorem jBq (l : List IP) (hl : l.length ≤ 10000000) : Ev (fun q => Q8.f q l) (Wz l) := by
 unfold Q8.f Wz
 refine Ev.bind (jGw l hl) ?_
 by_cases ha : jAj l = true
 ·rw [if_pos ha]
  refine Qm ha ?_
  obtain ⟨⟨h0, h1⟩, hn, _⟩ := jDf.1 ha
  have hn' : l.all (Kl 50) = true := List.all_eq_true.2 hn
  have key := jJm (σ := List UInt8) (ρ := Int × ByteArray × Bool) (n := l.length) h1 List.length 0 (L0 := fun x s q => Q8.l0 q l x (l.length : Int) (mkB s))
   (L1 := fun x y s q => Q8.l1 q l x y (l.length : Int) (mkB s)) (L2 := fun x y z s q => Q8.l2 q l x y z (l.length : Int) (mkB s)) (K := fun s _ => some ((l.length : Int), mkB s, true))
   (fun s q => .ok (s ++ [sgC (jBc (pt l q.1) (pt l q.2.1) (pt l q.2.2))])) (fun s q s' e => by cases e; rw [List.length_append]; exact Nat.le_refl _)
   (fun s => ?_) (fun a ha s => ?_) (fun a ha s => ?_) (fun a b hab hb s => ?_) (fun a b hab hb s => ?_) (fun a b c hab hbc hc s hs => ?_) [] (Nat.le_refl _)
  ·rw [Xy, jD1, List.nil_append] at key
   have et : mkB ((Xi l.length).map fun q => sgC (jBc (pt l q.1) (pt l q.2.1) (pt l q.2.2))) = jLl l.length (jJl l) := jHy (fun q => sgC (jBc (pt l q.1) (pt l q.2.1) (pt l q.2.2))) h0 h1 fun p hp a b c e => by
    rw [jMj hp e]
    unfold sgC
    simp only [jM2]
   rw [← et]
   exact key _ (Ev.now _)
  ·refine Goes.step ?_
   simp only [Q8.l0]
   exact Goes.neg (by omega) (Goes.ok (K := fun s (_ : Nat) => some ((l.length : Int), mkB s, true)) s)
  ·refine Goes.step ?_
   simp only [Q8.l0]
   rw [Qp (by omega) (by omega)]
   exact Goes.pos (by omega) (Goes.ok (K := fun s q => Q8.l1 q l (a : Int) ((a + 1 : Nat) : Int) (l.length : Int) (mkB s)) s)
  ·refine Goes.step ?_
   simp only [Q8.l1]
   rw [Qp (x := (a : Int) + 1) (by omega) (by omega)]
   exact Goes.neg (by omega) (Goes.ok (K := fun s q => Q8.l0 q l ((a + 1 : Nat) : Int) (l.length : Int) (mkB s)) s)
  ·refine Goes.step ?_
   simp only [Q8.l1]
   rw [Qp (x := (b : Int) + 1) (by omega) (by omega)]
   exact Goes.pos (by omega) (Goes.ok (K := fun s q => Q8.l2 q l (a : Int) (b : Int) ((b + 1 : Nat) : Int) (l.length : Int) (mkB s)) s)
  ·refine Goes.step ?_
   simp only [Q8.l2]
   rw [Qp (x := (b : Int) + 1) (by omega) (by omega)]
   exact Goes.neg (by omega) (Goes.ok (K := fun s q => Q8.l1 q l (a : Int) ((b + 1 : Nat) : Int) (l.length : Int) (mkB s)) s)
  ·refine Goes.step ?_
   simp only [Q8.l2]
   rw [Qp (x := (c : Int) + 1) (by omega) (by omega)]
   refine Goes.pos (by omega) (Goes.pos (by omega) (Goes.pos (by omega) (Goes.pos (by omega) (Goes.pos (by omega) (Goes.pos (by omega) (Goes.call (jE0 (a := pt l a) (b := pt l b) (c := pt l c) (jI8 hn' (by omega) (by omega) (by omega))) (Goes.call (jGm _) (Goes.pos ?_ ?_))))))))
   ·rw [jAm, jAm]
    simp only [List.length_singleton]
    omega
   ·rw [jD3]
    exact Goes.ok (K := fun s q => Q8.l2 q l (a : Int) (b : Int) ((c + 1 : Nat) : Int) (l.length : Int) (mkB s)) _
 ·rw [if_neg ha]
  exact Jn ha (Ev.now _)
theorem jBp (ps : List IP) : (0 ≤ (Wz ps).1 ∧ (Wz ps).1 ≤ 7) ∧ (Wz ps).2.1.size ≤ 35 := by
 unfold Wz
 by_cases g : jAj ps = true
 ·rw [if_pos g]
  obtain ⟨⟨h0, h1⟩, _⟩ := jDf.1 g
  have := jBm (jLg (jJl ps) h0 h1)
  simp only
  omega
 ·rw [if_neg g]
  decide
theorem jKh {l : List Int} (hl : l.length ≤ 1048576) {i : Int} (hc : Cur l i) (h : Int) : ∃ (n : Int) (t : ByteArray) (i' h' : Int), Ev (fun k => Zl.f k l i h) (n, t, i', h') ∧ (0 ≤ n ∧ n ≤ 7) ∧ t.size ≤ 100 ∧ Cur l i' := by
 obtain ⟨b, i1, h1, e1, c1⟩ := jB8 hl hc h 5
 cases b with
 | true =>
  obtain ⟨x, i2, h2, e2, _, b2, c2⟩ := Vu hl c1 h1 3
  have b2 := b2 (by omega)
  have key : ∀ (d x5 : Nat) (i h : Int) (t : ByteArray) (n : Int), n ∈ [(3 : Int), 4, 5] → x5 + d = 20 → t.size ≤ x5 → Cur l i → ∃ (t' : ByteArray) (i' h' : Int), Ev (fun k => Zl.l0 k n (x5 : Int) l i h n t) (n, t', i', h') ∧ t'.size ≤ 100 ∧ Cur l i' := by
   intro d
   induction d with
   | zero =>
    intro x5 i h t n hn hd ht hc
    refine ⟨t, i, h, Ji ?_, by omega, hc⟩
    simp only [Zl.l0]
    refine Jn ?_ (Ev.now _)
    have : wrap64 (Int.tdiv (wrap64 ((wrap64 (n * (wrap64 (n - 1)))) * (wrap64 (n - 2)))) 6) ≤ 10 := by
     simp only [List.mem_cons, List.not_mem_nil, or_false] at hn
     rcases hn with rfl | rfl | rfl <;> decide +kernel
    omega
   | succ d ih =>
    intro x5 i h t n hn hd ht hc
    by_cases g : (x5 : Int) < wrap64 (Int.tdiv (wrap64 ((wrap64 (n * (wrap64 (n - 1)))) * (wrap64 (n - 2)))) 6)
    ·obtain ⟨y, i3, h3, e3, m3, c3⟩ := jKa hl hc h [(⟨#[43]⟩ : ByteArray), (⟨#[45]⟩ : ByteArray), (⟨#[43]⟩ : ByteArray)] (by simp)
     have hy : y.size = 1 := by
      simp only [List.mem_cons, List.not_mem_nil, or_false] at m3
      rcases m3 with rfl | rfl | rfl <;> rfl
     obtain ⟨t', i', h', e, r⟩ := ih (x5 + 1) i3 h3 (t ++ y) n hn (by omega) (by rw [ByteArray.size_append]; omega) c3
     refine ⟨t', i', h', Ji ?_, r⟩
     simp only [Zl.l0]
     rw [Qp (x := (x5 : Int) + 1) (by omega) (by omega)]
     exact Qm g (Zv e3 (Qm (by simp only; omega) e))
    ·refine ⟨t, i, h, Ji ?_, by omega, hc⟩
     simp only [Zl.l0]
     exact Jn g (Ev.now _)
  have hn : (3 + x) ∈ [(3 : Int), 4, 5] := by
   have : x = 0 ∨ x = 1 ∨ x = 2 := by omega
   rcases this with rfl | rfl | rfl <;> decide
  obtain ⟨t', i', h', e, r⟩ := key 20 0 i2 h2 (⟨#[]⟩ : ByteArray) (3 + x) hn rfl (Nat.le_refl _) c2
  refine ⟨3 + x, t', i', h', ?_, by omega, r⟩
  unfold Zl.f
  refine Zv e1 (Qm (by trivial) (Zv e2 ?_))
  simp only
  rw [Qp (by omega) (by omega)]
  exact e
 | false =>
  obtain ⟨ps, i2, h2, e2, m1, m2, c2⟩ := jFc hl c1 h1
  have hs := jBq ps (by omega)
  have hb := jBp ps
  refine ⟨(Wz ps).1, (Wz ps).2.1, i2, h2, ?_, hb.1, by omega, c2⟩
  unfold Zl.f
  exact Zv e1 (Jn (by simp) (Ev.bind e2 (Ev.bind hs (Ev.now _))))
theorem jK1 {l : List Int} (hl : l.length ≤ 1048576) {i : Int} (hc : Cur l i) (h : Int) : ∃ (n : Int) (t : ByteArray) (i' h' : Int), Ev (fun k => Xl.f k l i h) (n, t, i', h') ∧ (0 ≤ n ∧ n ≤ 8) ∧ t.size ≤ 101 ∧ Cur l i' := by
 obtain ⟨n, t, i1, h1, e1, m1, m2, c1⟩ := jKh hl hc h
 obtain ⟨x, i2, h2, e2, _, _, c2⟩ := Vu hl c1 h1 18
 by_cases g : x = 0
 ·obtain ⟨y, i3, h3, e3, m3, c3⟩ := jIr hl c2 h2 [2, 8, 4, 5] (by decide)
  have hy : 0 ≤ y ∧ y ≤ 8 := by
   simp only [List.mem_cons, List.not_mem_nil, or_false] at m3
   omega
  refine ⟨y, t, i3, h3, ?_, hy, by omega, c3⟩
  unfold Xl.f
  exact Ev.bind e1 (Zv e2 (Qm g (Zv e3 (Ev.now _))))
 ·by_cases g1 : x = 1
  ·obtain ⟨y, i3, h3, e3, m3, c3⟩ := jKa hl c2 h2 [(⟨#[43]⟩ : ByteArray), (⟨#[48]⟩ : ByteArray)] (by simp)
   have hy : y.size = 1 := by
    simp only [List.mem_cons, List.not_mem_nil, or_false] at m3
    rcases m3 with rfl | rfl <;> rfl
   refine ⟨n, t ++ y, i3, h3, ?_, by omega, by rw [ByteArray.size_append]; omega, c3⟩
   unfold Xl.f
   exact Ev.bind e1 (Zv e2 (Jn g (Qm g1 (Zv e3 (Qm (by simp only; omega) (Ev.now _))))))
  ·refine ⟨n, t, i2, h2, ?_, by omega, by omega, c2⟩
   unfold Xl.f
   exact Ev.bind e1 (Zv e2 (Jn g (Jn g1 (Ev.now _))))
theorem jIn {l : List Int} (hl : l.length ≤ 1048576) {i : Int} (hc : Cur l i) (h : Int) (n : Nat) (hn : n ≤ 100) : ∃ (o : List Int) (i' h' : Int), Ev (fun k => Xg.f k l i h (n : Int)) (o, i', h') ∧ o.length = n ∧ o.Nodup ∧ (∀ x ∈ o, 0 ≤ x ∧ x < (n : Int)) ∧ Cur l i' := by
 have key : ∀ (d m : Nat) (o : List Int) (i h : Int), m + d = n → o.length = m → o.Nodup → (∀ x ∈ o, 0 ≤ x ∧ x < (m : Int)) → Cur l i → ∃ (o' : List Int) (i' h' : Int), Ev (fun k => Xg.l0 k (n : Int) o (m : Int) l i h) (o', i', h') ∧ o'.length = n ∧ o'.Nodup ∧ (∀ x ∈ o', 0 ≤ x ∧ x < (n : Int)) ∧ Cur l i' := by
  intro d
  induction d with
  | zero =>
   intro m o i h hd ho hnd hb hc
   obtain rfl : m = n := by omega
   refine ⟨o, i, h, Ji ?_, ho, hnd, hb, hc⟩
   simp only [Xg.l0]
   exact Jn (by omega) (Ev.now _)
  | succ d ih =>
   intro m o i h hd ho hnd hb hc
   obtain ⟨x, i1, h1, e1, _, b1, c1⟩ := Vu hl hc h ((o.length : Int) + 1)
   have b1 := b1 (by omega)
   obtain ⟨j, rfl⟩ := Int.eq_ofNat_of_zero_le b1.1
   have hlen : (o.take j ++ [(m : Int)] ++ ([] ++ o.drop j)).length = m + 1 := by
    rw [List.length_append, List.length_append, List.nil_append, List.length_take, List.length_drop, List.length_singleton]
    omega
   have hperm : (o.take j ++ [(m : Int)] ++ ([] ++ o.drop j)).Perm ((m : Int) :: o) := by
    rw [List.nil_append, List.append_assoc, List.singleton_append]
    refine List.perm_middle.trans ?_
    rw [List.take_append_drop]
   have hmo : (m : Int) ∉ o := fun hm => by have := hb _ hm; omega
   obtain ⟨o', i', h', e, r⟩ := ih (m + 1) (o.take j ++ [(m : Int)] ++ ([] ++ o.drop j)) i1 h1 (by omega) hlen (hperm.nodup_iff.2 (List.nodup_cons.2 ⟨hmo, hnd⟩)) (fun y hy => by
    rcases List.mem_cons.1 (hperm.mem_iff.1 hy) with rfl | hy
    ·omega
    ·have := hb _ hy; omega) c1
   refine ⟨o', i', h', Ji ?_, r⟩
   simp only [Xg.l0]
   rw [Qp (x := (o.length : Int) + 1) (by omega) (by omega), Qp (x := (m : Int) + 1) (by omega) (by omega)]
   refine Qm (by omega) (Zv e1 (Zv rfl (Qm (by simp only; omega) (Qm (by simp only; omega) (Zv rfl (Qm ?_ (Zv rfl (Zv rfl (Qm ?_ (Zv rfl (Qm ?_ e)))))))))))
   ·simp only [List.length_nil, Int.toNat_natCast, List.length_drop]; omega
   ·simp only [Int.toNat_natCast, List.length_take]; omega
   ·simp only [Int.toNat_natCast, List.length_append, List.length_take, List.length_drop, List.length_nil, List.length_singleton]; omega
 unfold Xg.f
 exact key n 0 [] i h (by omega) rfl List.nodup_nil (fun x hx => by cases hx) hc
end Go.Proofs.Ytckkfjdkaimmhaa.M
namespace Go.Proofs.Ytckkfjdkaimmhaa.PX
open Go.RowKit Go.Proofs.Ytckkfjdkaimmhaa.G Go.Proofs.YtckkfjdkaimmhaaW.PrintWords Go.Proofs.YtckkfjdkaimmhaaW.PrintLast Go.Proofs.YtckkfjdkaimmhaaW.PrintMore
attribute [local go_sem] max2_int min2_int Yd Yg Xh Xf Xq Xp   -- for this text's walks alone
set_option linter.unusedVariables false
set_option linter.unusedSimpArgs false
end Go.Proofs.Ytckkfjdkaimmhaa.PX
namespace Go.Proofs.Ytckkfjdkaimmhaa.M
open Go.RowKit Go.Proofs.YtckkfjdkaimmhaaW.PrintWords Go.Proofs.Ytckkfjdkaimmhaa.PX Go.Proofs.Ytckkfjdkaimmhaa.G Go.Proofs.YtckkfjdkaimmhaaW.PrintMore
def par (set : Int) (a b c : Nat) : Bool := decide (Go.bits .and .i64 (wrap64 ((wrap64 ((shr .i64 set (IntKind.u64.wrap (a : Int))) + (shr .i64 set (IntKind.u64.wrap (b : Int))))) + (shr .i64 set (IntKind.u64.wrap (c : Int))))) 1 = 1)
theorem jEj {a : Nat} (h : a ≤ 1000) : 0 ≤ IntKind.u64.wrap (a : Int) := by
 simp [IntKind.wrap, IntKind.signed, IntKind.bits]; omega
def jR1 (n : Nat) (set : Int) (s : Nat → Int) : Nat → Int := fun p => if par set (Kk n p).f0.toNat (Kk n p).f1.toNat (Kk n p).f2.toNat then -(s p) else s p
theorem jFj {n : Nat} {t : ByteArray} (h : Y1 n t = true) (set : Int) : Ev (fun k => Q0.f k (n : Int) t set) ((n : Int), jLl n (jR1 n set (sgB t))) := by
 obtain ⟨⟨h0, h1⟩, _, _⟩ := (Z7 _ _).1 h
 have h0 : 3 ≤ n := by omega
 have h1 : n ≤ 7 := by omega
 unfold Q0.f
 have key := jJm (σ := List UInt8) (ρ := Int × ByteArray) (n := n) (K := fun u _ => some ((n : Int), mkB u)) (L0 := fun a u k => Q0.l0 k set a (n : Int) t (n : Int) (mkB u)) (L1 := fun a b u k => Q0.l1 k set a b (n : Int) t (n : Int) (mkB u))
  (L2 := fun a b c u k => Q0.l2 k set a b c (n : Int) t (n : Int) (mkB u)) h1 List.length 0 (fun u q => .ok (u ++ [sgC (if par set q.1 q.2.1 q.2.2 then -(chi n t q.1 q.2.1 q.2.2) else chi n t q.1 q.2.1 q.2.2)]))
  (Wq _ _ fun s a => by rw [List.length_append]; exact Nat.le_refl _) (fun u => ?_) (fun a ha u => ?_) (fun a ha u => ?_) (fun a b hab hb u => ?_) (fun a b hab hb u => ?_) (fun a b c hab hbc hc u hu => ?_) [] (Nat.le_refl _)
 ·rw [Xy, jD1, List.nil_append] at key
  refine Y5 (key _ (Ev.now _)) ?_
  refine Prod.ext rfl ?_
  show mkB _ = jLl n _
  unfold jLl
  congr 1
  have e := jHc h0 h1
  have el : (Xi n).length = (Xt n).length := by rw [e, List.length_map]
  refine List.ext_getElem (by rw [List.length_map, List.length_map, List.length_range, el]) fun p hp1 hp2 => ?_
  rw [List.length_map, List.length_range] at hp2
  obtain ⟨a, b, c, e1, hab, hbc, hc, hlk⟩ := jOq h0 h1 hp2
  simp only [List.getElem_map, List.getElem_range, jR1, jCg hp2, e1, Int.toNat_natCast]
  have e2 : (Xi n)[p]'(by rw [el]; exact hp2) = (a, b, c) := by
   have : (Xt n)[p] = ⟨(((Xi n)[p]'(by rw [el]; exact hp2)).1 : Int), (((Xi n)[p]'(by rw [el]; exact hp2)).2.1 : Int), (((Xi n)[p]'(by rw [el]; exact hp2)).2.2 : Int)⟩ := by
    simp only [e, List.getElem_map]
   rw [e1] at this
   injection this with i1 i2 i3
   refine Prod.ext ?_ (Prod.ext ?_ ?_)
   ·exact (Int.ofNat_inj.1 i1).symm
   ·exact (Int.ofNat_inj.1 i2).symm
   ·exact (Int.ofNat_inj.1 i3).symm
  rw [e2, jMv, jOs _ hlk]
  rfl
 ·refine Goes.step ?_
  simp only [Q0.l0]
  exact Goes.neg (by omega) (Goes.ok (K := fun u _ => some ((n : Int), mkB u)) u)
 ·refine Goes.step ?_
  simp only [Q0.l0]
  refine Goes.pos (by omega) ?_
  rw [Qp (by omega) (by omega)]
  exact Goes.ok (K := fun u k => Q0.l1 k set (a : Int) ((a + 1 : Nat) : Int) (n : Int) t (n : Int) (mkB u)) u
 ·refine Goes.step ?_
  simp only [Q0.l1]
  refine Goes.neg (by omega) ?_
  rw [Qp (by omega) (by omega)]
  exact Goes.ok (K := fun u k => Q0.l0 k set ((a + 1 : Nat) : Int) (n : Int) t (n : Int) (mkB u)) u
 ·refine Goes.step ?_
  simp only [Q0.l1]
  refine Goes.pos (by omega) ?_
  rw [Qp (by omega) (by omega)]
  exact Goes.ok (K := fun u k => Q0.l2 k set (a : Int) (b : Int) ((b + 1 : Nat) : Int) (n : Int) t (n : Int) (mkB u)) u
 ·refine Goes.step ?_
  simp only [Q0.l2]
  refine Goes.neg (by omega) ?_
  rw [Qp (by omega) (by omega)]
  exact Goes.ok (K := fun u k => Q0.l1 k set (a : Int) ((b + 1 : Nat) : Int) (n : Int) t (n : Int) (mkB u)) u
 ·refine Goes.step ?_
  simp only [Q0.l2]
  refine Goes.pos (by omega) (Goes.ev (Km h (by omega) (by omega) hc (by omega) (by omega) (by omega)) (Goes.pos (jEj (by omega)) (Goes.pos (jEj (by omega)) (Goes.pos (jEj (by omega)) ?_))))
  have hpm := Vf (a := a) (b := b) (c := c) t h0 h1 (by omega) (by omega) hc (by omega) (by omega) (by omega)
  rw [Qp (x := (c : Int) + 1) (by omega) (by omega)]
  have fin : ∀ v, Goes (ρ := Int × ByteArray) (.ok (u ++ [sgC v])) (fun u k => Q0.l2 k set (a : Int) (b : Int) ((c + 1 : Nat) : Int) (n : Int) t (n : Int) (mkB u)) (fun k => if (mkB u).size + (mkB [sgC v]).size ≤ 9223372036854775807 then Q0.l2 k set (a : Int) (b : Int) ((c : Int) + 1) (n : Int) t (n : Int) (mkB u ++ mkB [sgC v]) else none) := fun v => by
   refine Goes.pos (by rw [jAm, jAm, List.length_cons, List.length_nil]; omega) ?_
   rw [jD3]
   exact Goes.ok (K := fun u k => Q0.l2 k set (a : Int) (b : Int) ((c + 1 : Nat) : Int) (n : Int) t (n : Int) (mkB u)) _
  by_cases g : par set a b c = true
  ·refine Goes.pos (of_decide_eq_true g) (Goes.call (jGm _) ?_)
   rw [Qp (by omega) (by omega)]
   simp only [g, if_true]
   exact fin _
  ·refine Goes.neg (fun e => g (decide_eq_true e)) (Goes.call (jGm _) ?_)
   simp only [g]
   exact fin _
end Go.Proofs.Ytckkfjdkaimmhaa.M
namespace Go.Proofs.Ytckkfjdkaimmhaa.PX
open Go.RowKit Go.Proofs.Ytckkfjdkaimmhaa.G Go.Proofs.YtckkfjdkaimmhaaW.PrintWords Go.Proofs.YtckkfjdkaimmhaaW.PrintLast Go.Proofs.YtckkfjdkaimmhaaW.PrintMore
attribute [local go_sem] max2_int min2_int Yd Yg Xh Xf Xq Xp   -- for this text's walks alone
set_option linter.unusedVariables false
set_option linter.unusedSimpArgs false
end Go.Proofs.Ytckkfjdkaimmhaa.PX
namespace Go.Proofs.Ytckkfjdkaimmhaa.M
open Go.RowKit Go.Proofs.YtckkfjdkaimmhaaW.PrintWords Go.Proofs.Ytckkfjdkaimmhaa.PX Go.Proofs.Ytckkfjdkaimmhaa.G Go.Proofs.YtckkfjdkaimmhaaW.PrintMore
def jBv (n : Int) (t : ByteArray) : Prop := (0 ≤ n ∧ n ≤ 8) ∧ t.size ≤ 101
theorem jKv {l : List Int} (hl : l.length ≤ 1048576) {i : Int} (hc : Cur l i) (h : Int) : ∃ (n : Int) (t : ByteArray) (i' h' : Int), Ev (fun k => Zm.f k l i h) (n, t, i', h') ∧ jBv n t ∧ Cur l i' := by
 obtain ⟨n, t, i1, h1, e1, m1, m2, c1⟩ := jK1 hl hc h
 have ea := jB0 n t (by omega)
 have no : ∀ (i h : Int), Cur l i → ∃ (n' : Int) (t' : ByteArray) (i' h' : Int), Ev (fun k => Zm.j0 k false l i h n t) (n', t', i', h') ∧ jBv n' t' ∧ Cur l i' := fun i h hc => by
  refine ⟨n, t, i, h, Ji ?_, ⟨m1, m2⟩, hc⟩
  simp only [Zm.j0]
  exact Jn (by decide) (Ev.now _)
 by_cases g : Y1 n t = true
 ·obtain ⟨b, i2, h2, e2, c2⟩ := jB8 hl c1 h1 4
  cases b with
  | false =>
   obtain ⟨n', t', i', h', e, r⟩ := no i2 h2 c2
   refine ⟨n', t', i', h', ?_, r⟩
   unfold Zm.f
   exact Ev.bind e1 (Ev.bind ea (Qm g (Zv e2 e)))
  | true =>
   obtain ⟨⟨h0, h1'⟩, _, _⟩ := (Z7 _ _).1 g
   obtain ⟨N, rfl⟩ := Int.eq_ofNat_of_zero_le m1.1
   obtain ⟨x, i3, h3, e3, _, b3, c3⟩ := Vu hl c2 h2 (N : Int)
   have b3 := b3 (by omega)
   obtain ⟨y, rfl⟩ := Int.eq_ofNat_of_zero_le b3.1
   have er := jFj g (shl .i64 1 (IntKind.u64.wrap (y : Int)))
   have hs := jBm (jLg (jR1 N (shl .i64 1 (IntKind.u64.wrap (y : Int))) (sgB t)) (n := N) (by omega) (by omega))
   refine ⟨(N : Int), _, i3, h3, ?_, ⟨m1, Nat.le_trans hs (by decide)⟩, c3⟩
   unfold Zm.f
   refine Ev.bind e1 (Ev.bind ea (Qm g (Zv e2 (Ji ?_))))
   simp only [Zm.j0]
   exact Qm (by trivial) (Zv e3 (Qm (jEj (by omega)) (Ev.bind er (Ev.now _))))
 ·obtain ⟨n', t', i', h', e, r⟩ := no i1 h1 c1
  refine ⟨n', t', i', h', ?_, r⟩
  unfold Zm.f
  exact Ev.bind e1 (Ev.bind ea (Jn g e))
theorem jQn (a b : Int) : Yv.f a b = some (if a > b then a else b) := by
 unfold Yv.f
 split <;> rfl
theorem jQb (b : Bool) : X9.f b = some (if b = true then 1 else 0) := by cases b <;> rfl
theorem Un (l : List Int) (hl : l.length ≤ 10000000) : Ev (fun k => Ze.f k l l) true := by
 unfold Ze.f
 refine Qm rfl ?_
 have key : ∀ (d i : Nat), i + d = l.length → Ev (fun k => Ze.l0 k l l (i : Int)) true := by
  intro d
  induction d with
  | zero =>
   intro i hi
   refine Ji ?_
   simp only [Ze.l0]
   exact Jn (by omega) (Ev.now _)
  | succ d ih =>
   intro i hi
   refine Ji ?_
   simp only [Ze.l0]
   rw [Qp (by omega) (by omega)]
   exact Qm (by omega) (Qm (by omega) (Qm (by omega) (Qm (by trivial) (ih (i + 1) (by omega)))))
 exact key l.length 0 (by omega)
end Go.Proofs.Ytckkfjdkaimmhaa.M
namespace Go.Proofs.Ytckkfjdkaimmhaa.PX
open Go.RowKit Go.Proofs.Ytckkfjdkaimmhaa.G Go.Proofs.YtckkfjdkaimmhaaW.PrintWords Go.Proofs.YtckkfjdkaimmhaaW.PrintLast Go.Proofs.YtckkfjdkaimmhaaW.PrintMore
attribute [local go_sem] max2_int min2_int Yd Yg Xh Xf Xq Xp   -- for this text's walks alone
set_option linter.unusedVariables false
set_option linter.unusedSimpArgs false
end Go.Proofs.Ytckkfjdkaimmhaa.PX
namespace Go.Proofs.Ytckkfjdkaimmhaa.M
open Go.RowKit Go.Proofs.YtckkfjdkaimmhaaW.PrintWords Go.Proofs.Ytckkfjdkaimmhaa.PX Go.Proofs.Ytckkfjdkaimmhaa.G Go.Proofs.YtckkfjdkaimmhaaW.PrintMore
theorem jE6 {l : List Int} (hl : l.length ≤ 1048576) {i : Int} (hc : Cur l i) (h : Int) : ∃ (n : Int) (t : ByteArray) (i' h' : Int), Ev (fun k => Xz.f k l i h) (n, t, i', h') ∧ jBv n t ∧ Cur l i' := by
 obtain ⟨b, i1, h1, e1, c1⟩ := jB8 hl hc h 8
 cases b with
 | true =>
  obtain ⟨n, t, i2, h2, e2, s, c2⟩ := jKv hl c1 h1
  refine ⟨n, t, i2, h2, ?_, s, c2⟩
  unfold Xz.f
  exact Zv e1 (Qm (by trivial) (Ev.bind e2 (Ev.now _)))
 | false =>
  obtain ⟨ps, i2, h2, e2, _, m, c2⟩ := jFc hl c1 h1
  have z := jBp ps
  refine ⟨(Wz ps).1, (Wz ps).2.1, i2, h2, ?_, ⟨by omega, by omega⟩, c2⟩
  unfold Xz.f
  exact Zv e1 (Jn (by simp) (Ev.bind e2 (Ev.bind (jBq ps (by omega)) (Ev.now _))))
theorem jHi {l : List Int} (hl : l.length ≤ 1048576) : ∃ (h : Int) (n : Int) (t : ByteArray) (i' h' : Int), Ev (fun k => Xc.f k l) (l, 0, h) ∧ Ev (fun k => Xz.f k l 0 h) (n, t, i', h') ∧ jBv n t ∧ Cur l i' := by
 obtain ⟨h, hn⟩ := jNr l hl
 obtain ⟨n, t, i, h', e, s, c⟩ := jE6 hl (jSc l) h
 exact ⟨h, n, t, i, h', hn, e, s, c⟩
theorem jJ8 {l : List Int} (hl : l.length ≤ 1048576) : ∃ (n : Int) (t : ByteArray) (o : List Int), Ev (fun k => Vo.f k l) (n, t, o) ∧ jBv n t ∧ o.length = 4 := by
 obtain ⟨h, hn⟩ := jNr l hl
 obtain ⟨n, t, i1, h1, e1, m1, c1⟩ := jE6 hl (jSc l) h
 obtain ⟨M, hM⟩ : ∃ M : Nat, (if (4 : Int) > n then 4 else n) = (M : Int) ∧ 4 ≤ M ∧ M ≤ 8 := by
  obtain ⟨⟨h0, h8⟩, _⟩ := m1
  split
  ·exact ⟨4, rfl, by omega, by omega⟩
  ·obtain ⟨N, rfl⟩ := Int.eq_ofNat_of_zero_le h0
   exact ⟨N, rfl, by omega, by omega⟩
 obtain ⟨o, i2, h2, e2, lo, _, _, c2⟩ := jIn hl c1 h1 M (by omega)
 obtain ⟨b, i3, h3, e3, c3⟩ := jB8 hl c2 h2 14
 have em := jQn 4 n
 rw [hM.1] at em
 cases b with
 | false =>
  refine ⟨n, t, o.take (4 : Int).toNat, ?_, m1, by rw [List.length_take]; simp; omega⟩
  unfold Vo.f
  exact Ev.bind hn (Ev.bind e1 (Zv em (Ev.bind e2 (Zv e3 (Jn (by simp) (Qm (by simp only; omega) (Ev.now _)))))))
 | true =>
  obtain ⟨x, i4, h4, e4, _, _, c4⟩ := Vu hl c3 h3 8
  refine ⟨n, t, (o.set (0 : Int).toNat (wrap64 (x - 1))).take (4 : Int).toNat, ?_, m1, by rw [List.length_take, List.length_set]; simp; omega⟩
  unfold Vo.f
  exact Ev.bind hn (Ev.bind e1 (Zv em (Ev.bind e2 (Zv e3 (Qm (by trivial) (Zv e4 (Qm (by simp only; omega) (Qm (by simp only; omega) (Ev.now _)))))))))
theorem jSk {l : List (List Int)} {i : Nat} (h : i < l.length) : Yz l (i : Int) = l[i] := by
 unfold Yz
 rw [Int.toNat_natCast, List.getD_eq_getElem?_getD, List.getElem?_eq_getElem h]; rfl
theorem Wy (L : List (List Int)) (hl : L.length ≤ 10000 ∧ ∀ r ∈ L, r.length ≤ 10000) : Ev (fun k => Zx.f k L L) true := by
 unfold Zx.f
 refine Qm rfl ?_
 have l0 := hl.1
 have key : ∀ (d i : Nat), i + d = L.length → Ev (fun k => Zx.l0 k L L (i : Int)) true := by
  intro d
  induction d with
  | zero =>
   intro i hi
   refine Ji ?_
   simp only [Zx.l0]
   exact Jn (by omega) (Ev.now _)
  | succ d ih =>
   intro i hi
   refine Ji ?_
   simp only [Zx.l0]
   rw [Qp (by omega) (by omega), jSk (show i < L.length by omega)]
   exact Qm (by omega) (Qm (by omega) (Qm (by omega) (Ev.bind (Un _ (Nat.le_trans (hl.2 _ (List.getElem_mem _)) (by decide))) (Qm rfl (ih (i + 1) (by omega))))))
 exact key L.length 0 (by omega)
theorem jMo (l : List Int) (hl : l.length ≤ 1000) (hb : ∀ x ∈ l, 0 ≤ x ∧ x ≤ 1000) : Ev (fun k => X0.f k l) l.sum := by
 unfold X0.f
 have key : ∀ (rest dn : List Int), dn ++ rest = l → (0 ≤ dn.sum ∧ dn.sum ≤ 1000 * (dn.length : Int)) → Ev (fun k => X0.l0 k l dn.sum (dn.length : Int)) l.sum := by
  intro rest
  induction rest with
  | nil =>
   intro dn e _
   rw [List.append_nil] at e
   subst e
   refine Ji ?_
   simp only [X0.l0]
   exact Jn (by omega) (Ev.now _)
  | cons x rest ih =>
   intro dn e b
   have hx := hb x (by rw [← e]; simp)
   have hlen : l.length = dn.length + (rest.length + 1) := by rw [← e, List.length_append, List.length_cons]
   have hrd : rd l (dn.length : Int) = x := by
    unfold rd
    rw [← e, Int.toNat_natCast, List.getD_eq_getElem?_getD, List.getElem?_append_right (Nat.le_refl _)]
    simp
   have hs : (dn ++ [x]).sum = dn.sum + x := by simp
   have hn : ((dn ++ [x]).length : Int) = (dn.length : Int) + 1 := by simp
   have key := ih (dn ++ [x]) (by rw [List.append_assoc]; exact e) (by rw [hs, hn]; omega)
   rw [hs, hn] at key
   refine Ji ?_
   simp only [X0.l0]
   refine Qm (by omega) (Qm (by omega) ?_)
   rw [hrd, Qp (x := dn.sum + x) (by omega) (by omega), Qp (x := (dn.length : Int) + 1) (by omega) (by omega)]
   exact key
 exact key l [] rfl (by simp)
def Wv (n : Nat) (t : ByteArray) (q : Nat × Nat) : Bool := decide (((leftV n t q.1 q.2 : Int) - (leftV n t q.2 q.1 : Int)) ≥ -1) && decide (((leftV n t q.1 q.2 : Int) - (leftV n t q.2 q.1 : Int)) ≤ 1)
def jJ5 (q : Nat × Nat) : List Int := [(q.1 : Int), (q.2 : Int)]
def jAt (n : Int) (t : ByteArray) : List (List Int) := if Yi n t = true then ((Y2 n.toNat).filter (Wv n.toNat t)).map jJ5 else []
theorem jF1 (n : Nat) (t : ByteArray) : (Y2 n).foldlM (fun (u : List (List Int)) q => (.ok (if Wv n t q then u ++ [jJ5 q] else u) : Except (List (List Int)) (List (List Int)))) [] = .ok (((Y2 n).filter (Wv n t)).map jJ5) := by
 rw [Xy, foldl_filter, List.nil_append]
theorem jDu : ∀ n : Nat, n ≤ 7 → (Y2 n).length ≤ 21 := by decide +kernel
theorem jJg (n : Int) (t : ByteArray) (hs : t.size ≤ 9223372036854775807) : Ev (fun k => Q5.f k n t) (jAt n t) := by
 unfold Q5.f jAt
 refine Ev.bind (jAi n t hs) ?_
 by_cases h : Yi n t = true
 ·rw [if_pos h, if_pos h]
  obtain ⟨N, rfl, ha, h3, h7⟩ := Yu h
  simp only [Int.toNat_natCast]
  refine Qm (by first | rfl | trivial) ?_
  have key := jKd (n := N) (σ := List (List Int)) (ρ := List (List Int)) (K := fun s _ => some s) (L0 := fun a s k => Q5.l0 k (Vv N t) s a (N : Int) t) (L1 := fun a b s k => Q5.l1 k (Vv N t) s a b (N : Int) t)
   h7 List.length 0 (fun s q => .ok (if Wv N t q then s ++ [jJ5 q] else s)) (Wq _ _ fun s a => by split <;> simp) (fun s => ?_) (fun a hn s => ?_) (fun a hn s => ?_) (fun a b hab hb s hs => ?_) [] (Nat.le_refl _)
  ·rw [jF1] at key
   exact key _ (Ev.now _)
  ·refine Goes.step ?_
   simp only [Q5.l0]
   exact Goes.neg (by omega) (Goes.ok (K := fun s _ => some s) s)
  ·refine Goes.step ?_
   simp only [Q5.l0]
   rw [Qp (x := (a : Int) + 1) (by omega) (by omega)]
   exact Goes.pos (by omega) (Goes.ok (K := fun s k => Q5.l1 k (Vv N t) s (a : Int) ((a + 1 : Nat) : Int) (N : Int) t) s)
  ·refine Goes.step ?_
   simp only [Q5.l1]
   rw [Qp (x := (a : Int) + 1) (by omega) (by omega)]
   exact Goes.neg (by omega) (Goes.ok (K := fun s k => Q5.l0 k (Vv N t) s ((a + 1 : Nat) : Int) (N : Int) t) s)
  ·have b1 := Wt N t a b
   have b2 := Wt N t b a
   refine Goes.step ?_
   simp only [Q5.l1]
   rw [Qp (x := (b : Int) + 1) (by omega) (by omega)]
   refine Goes.pos (by omega) (Goes.pos (Vw _ _) (Goes.ev (Ud ha (by omega) (by omega)) (Goes.ev (Ud ha (by omega) (by omega)) ?_)))
   rw [Qp (x := (leftV N t a b : Int) - (leftV N t b a : Int)) (by omega) (by omega)]
   by_cases g1 : (leftV N t a b : Int) - (leftV N t b a : Int) ≥ -1
   ·refine Goes.pos g1 ?_
    by_cases g2 : (leftV N t a b : Int) - (leftV N t b a : Int) ≤ 1
    ·rw [show Wv N t (a, b) = true by unfold Wv; rw [decide_eq_true g1, decide_eq_true g2]; rfl]
     exact Goes.pos g2 (Goes.pos (by omega) (Goes.ok (K := fun s k => Q5.l1 k (Vv N t) s (a : Int) ((b + 1 : Nat) : Int) (N : Int) t) _))
    ·rw [show Wv N t (a, b) = false by unfold Wv; rw [decide_eq_false g2, Bool.and_false]]
     exact Goes.neg g2 (Goes.ok (K := fun s k => Q5.l1 k (Vv N t) s (a : Int) ((b + 1 : Nat) : Int) (N : Int) t) _)
   ·rw [show Wv N t (a, b) = false by unfold Wv; rw [decide_eq_false g1, Bool.false_and]]
    exact Goes.neg g1 (Goes.ok (K := fun s k => Q5.l1 k (Vv N t) s (a : Int) ((b + 1 : Nat) : Int) (N : Int) t) _)
 ·rw [if_neg h, if_neg h]
  exact Jn (by decide) (Ev.now _)
theorem jKy (n : Int) (t : ByteArray) (hs : t.size ≤ 9223372036854775807) : Ev (fun k => Qi.f k n t) (jAt n t) := by
 unfold Qi.f jAt
 have hA := V9 n t hs
 by_cases h : Yi n t = true
 ·rw [if_pos h]
  rw [h] at hA
  obtain ⟨N, rfl, ha, h3, h7⟩ := Yu h
  simp only [Int.toNat_natCast]
  have key := jKd (n := N) (σ := List (List Int)) (ρ := List (List Int)) (K := fun s _ => some s) (L0 := fun a s k => Qi.l0 k s a (N : Int) t) (L1 := fun a b s k => Qi.l1 k s a b (N : Int) t)
   h7 List.length 0 (fun s q => .ok (if Wv N t q then s ++ [jJ5 q] else s)) (Wq _ _ fun s a => by split <;> simp) (fun s => ?_) (fun a hn s => ?_) (fun a hn s => ?_) (fun a b hab hb s hs => ?_) [] (Nat.le_refl _)
  ·rw [jF1] at key
   exact key _ (Ev.now _)
  ·refine Goes.step ?_
   simp only [Qi.l0]
   refine Goes.neg (by omega) (Goes.step ?_)
   simp only [Qi.j1]
   exact Goes.neg (by decide) (Goes.ok (K := fun s _ => some s) s)
  ·refine Goes.step ?_
   simp only [Qi.l0]
   refine Goes.pos (by omega) (Goes.ev hA (Goes.step ?_))
   simp only [Qi.j1]
   rw [Qp (x := (a : Int) + 1) (by omega) (by omega)]
   exact Goes.pos (by first | rfl | trivial) (Goes.ok (K := fun s k => Qi.l1 k s (a : Int) ((a + 1 : Nat) : Int) (N : Int) t) s)
  ·refine Goes.step ?_
   simp only [Qi.l1]
   rw [Qp (x := (a : Int) + 1) (by omega) (by omega)]
   exact Goes.neg (by omega) (Goes.ok (K := fun s k => Qi.l0 k s ((a + 1 : Nat) : Int) (N : Int) t) s)
  ·have b1 := Wt N t a b
   have b2 := Wt N t b a
   refine Goes.step ?_
   simp only [Qi.l1]
   rw [Qp (x := (b : Int) + 1) (by omega) (by omega)]
   refine Goes.pos (by omega) (Goes.ev (Kz ha (by omega) (by omega) (by omega)) (Goes.ev (Kz ha (by omega) (by omega) (by omega)) ?_))
   rw [Qp (x := (leftV N t a b : Int) - (leftV N t b a : Int)) (by omega) (by omega)]
   refine Goes.call (jEo _ _ _) ?_
   cases g : Wv N t (a, b) with
   | true => exact Goes.pos g (Goes.pos (by omega) (Goes.ok (K := fun s k => Qi.l1 k s (a : Int) ((b + 1 : Nat) : Int) (N : Int) t) _))
   | false => exact Goes.neg (fun e => by rw [show Wv N t (a, b) = true from e] at g; cases g) (Goes.ok (K := fun s k => Qi.l1 k s (a : Int) ((b + 1 : Nat) : Int) (N : Int) t) _)
 ·rw [if_neg h]
  rw [Bool.eq_false_iff.2 h] at hA
  refine Ji ?_
  simp only [Qi.l0]
  by_cases g : 0 < n
  ·refine Qm g (Ev.bind hA (Ji ?_))
   simp only [Qi.j1]
   exact Jn (by decide) (Ev.now _)
  ·refine Jn g (Ji ?_)
   simp only [Qi.j1]
   exact Jn (by decide) (Ev.now _)
end Go.Proofs.Ytckkfjdkaimmhaa.M
namespace Go.Proofs.Ytckkfjdkaimmhaa.PX
open Go.RowKit Go.Proofs.Ytckkfjdkaimmhaa.G Go.Proofs.YtckkfjdkaimmhaaW.PrintWords Go.Proofs.YtckkfjdkaimmhaaW.PrintLast Go.Proofs.YtckkfjdkaimmhaaW.PrintMore
attribute [local go_sem] max2_int min2_int Yd Yg Xh Xf Xq Xp   -- for this text's walks alone
set_option linter.unusedVariables false
set_option linter.unusedSimpArgs false
end Go.Proofs.Ytckkfjdkaimmhaa.PX
namespace Go.Proofs.Ytckkfjdkaimmhaa.M
open Go.RowKit Go.Proofs.YtckkfjdkaimmhaaW.PrintWords Go.Proofs.Ytckkfjdkaimmhaa.PX Go.Proofs.Ytckkfjdkaimmhaa.G Go.Proofs.YtckkfjdkaimmhaaW.PrintMore
def jOg (n : Nat) (t : ByteArray) (s p : Nat) : Bool := s.testBit p && !inB n t s p
def jPy (n : Nat) (t : ByteArray) (s : Nat) : Nat := jH6 (jOg n t s) n
theorem jLz {ρ : Type} (c : Nat → Bool) (n : Nat) : (List.range' 0 (n - 0)).foldlM (fun (s : Nat) p => (.ok (if c p then s + 2 ^ p else s) : Except ρ Nat)) 0 = .ok (jH6 c n) := by
 rw [Xy, Nat.sub_zero, ← List.range_eq_range']
 congr 1
 induction n with
 | zero => rfl
 | succ n ih => rw [List.range_succ, List.foldl_append, ih]; rfl
section
variable {n : Nat} {t : ByteArray} (h : Y1 n t = true)
include h
theorem jNa {s : Nat} (hs : s < 128) : Ev (fun k => Zk.f k (n : Int) t (s : Int)) (jPy n t s : Int) := by
 obtain ⟨⟨h0, h1⟩, _, _⟩ := (Z7 _ _).1 h
 unfold Zk.f
 have key := X7 (σ := Nat) (ρ := Int) (lo := 0) (n := n) (K := fun u _ => some (u : Int)) (L := fun i u k => Zk.l0 k (s : Int) (u : Int) i (n : Int) t)
  (fun i u => u < 2 ^ i) (fun u p => .ok (if jOg n t s p then u + 2 ^ p else u)) (fun u _ => ?_) (fun p _ hp u hu => ?_) (fun p _ hp u hu u' e => ?_) (by omega) 0 (by decide)
 ·rw [jLz] at key
  exact key _ (Ev.now _)
 ·refine Goes.step ?_
  simp only [Zk.l0]
  exact Goes.neg (by omega) (Goes.ok (K := fun u _ => some (u : Int)) u)
 ·refine Goes.step ?_
  simp only [Zk.l0]
  refine Goes.pos (by omega) (Goes.call (U5 hs (by omega)) ?_)
  have pw := Kn (k := p) (by omega)
  rw [jAs (k := p) (by omega), jDy (k := p) (by omega), Qp (x := (p : Int) + 1) (by omega) (by omega), Qp (x := (u : Int) + ((2 ^ p : Nat) : Int)) (by omega) (by omega)]
  unfold jOg
  cases hb : s.testBit p with
  | false => exact Goes.neg (by simp) (Goes.ok (K := fun (u : Nat) k => Zk.l0 k (s : Int) (u : Int) ((p + 1 : Nat) : Int) (n : Int) t) u)
  | true =>
   refine Goes.pos (by trivial) (Goes.ev (jEg h hs hp) ?_)
   cases inB n t s p with
   | true => exact Goes.pos (by trivial) (Goes.ok (K := fun (u : Nat) k => Zk.l0 k (s : Int) (u : Int) ((p + 1 : Nat) : Int) (n : Int) t) u)
   | false => exact Goes.neg (by decide) (Goes.pos (by omega) (Goes.ok (K := fun (u : Nat) k => Zk.l0 k (s : Int) (u : Int) ((p + 1 : Nat) : Int) (n : Int) t) (u + 2 ^ p)))
 ·cases e
  rw [Nat.pow_succ]
  split <;> omega
end
theorem jO1 {n : Nat} (t : ByteArray) (s : Nat) (hn : n ≤ 7) : jPy n t s < 128 := jHe _ hn
theorem jD8 {n : Nat} (t : ByteArray) (s : Nat) {p : Nat} (hn : n ≤ 7) (hp : p < n) : (jPy n t s).testBit p = jOg n t s p := jHr _ hn hp
end Go.Proofs.Ytckkfjdkaimmhaa.M
namespace Go.Proofs.Ytckkfjdkaimmhaa.M
open Go.RowKit Go.Proofs.YtckkfjdkaimmhaaW.PrintWords Go.Proofs.Ytckkfjdkaimmhaa.PX Go.Proofs.Ytckkfjdkaimmhaa.G
theorem jCt {n : Nat} {P : Nat → Nat → Nat → Nat → Prop} (h1 : ∀ a b c d, a < n → b < n → c < n → d < n → P b a c d → P a b c d) (h2 : ∀ a b c d, a < n → b < n → c < n → d < n → P a c b d → P a b c d) (h3 : ∀ a b c d, a < n → b < n → c < n → d < n → P a b d c → P a b c d)
  (base : ∀ a b c d, a < b → b < c → c < d → d < n → P a b c d) {a b c d : Nat} (ha : a < n) (hb : b < n) (hc : c < n) (hd : d < n) (hx : Yq a b c d = true) : P a b c d := by
 obtain ⟨e1, e2, e3, e4, e5, e6⟩ := Q6.1 hx
 have A : ∀ a b c d : Nat, a < b → b < c → c < n → d < n → d ≠ a → d ≠ b → d ≠ c → P a b c d := by
  intro a b c d hab hbc hc hd k1 k2 k3
  rcases Nat.lt_or_gt_of_ne k3 with g | g
  ·refine h3 _ _ _ _ (by omega) (by omega) hc hd ?_
   rcases Nat.lt_or_gt_of_ne k2 with g' | g'
   ·refine h2 _ _ _ _ (by omega) (by omega) hd hc ?_
    rcases Nat.lt_or_gt_of_ne k1 with g'' | g''
    ·exact h1 _ _ _ _ (by omega) hd (by omega) hc (base _ _ _ _ g'' hab hbc hc)
    ·exact base _ _ _ _ g'' g' hbc hc
   ·exact base _ _ _ _ hab g' g hc
  ·exact base _ _ _ _ hab hbc g hd
 have B : ∀ a b c d : Nat, a < b → b < n → c < n → d < n → Yq a b c d = true → P a b c d := by
  intro a b c d hab hb hc hd hx
  obtain ⟨e1, e2, e3, e4, e5, e6⟩ := Q6.1 hx
  rcases Nat.lt_or_gt_of_ne e4 with g | g
  ·exact A _ _ _ _ hab g hc hd (by omega) (by omega) (by omega)
  ·refine h2 _ _ _ _ (by omega) hb hc hd ?_
   rcases Nat.lt_or_gt_of_ne e2 with g' | g'
   ·exact A _ _ _ _ g' g hb hd (by omega) (by omega) (by omega)
   ·exact h1 _ _ _ _ (by omega) hc hb hd (A _ _ _ _ g' hab hb hd (by omega) (by omega) (by omega))
 rcases Nat.lt_or_gt_of_ne e1 with g | g
 ·exact B _ _ _ _ g hb hc hd hx
 ·exact h1 _ _ _ _ ha hb hc hd (B _ _ _ _ g ha hc hd (Q6.2 (by omega)))
structure Ord (n : Nat) (f : Nat → Nat → Nat → Int) : Prop where
 pm : ∀ a b c, a < n → b < n → c < n → a ≠ b → b ≠ c → a ≠ c → f a b c = 1 ∨ f a b c = -1
 s1 : ∀ a b c, a < n → b < n → c < n → f b a c = -f a b c
 s2 : ∀ a b c, a < n → b < n → c < n → f a c b = -f a b c
 gp : ∀ x a b c d, x < n → a < n → b < n → c < n → d < n → Yq a b c d = true → x ≠ a → x ≠ b → x ≠ c → x ≠ d → ¬ (f x a b * f x c d = f x a d * f x b c ∧ f x a d * f x b c = -(f x a c) * f x b d)
 ac : ∀ a b c d, a < n → b < n → c < n → d < n → Yq a b c d = true → ¬ (f a c d = -(f b c d) ∧ f a b d = f b c d ∧ f a b c = -(f b c d))
theorem jGd {n : Nat} {t : ByteArray} : ∀ (d x : Nat), Uy n t x d = [] → ∀ y, x ≤ y → y < x + d → jCy n t y (qs1 (Yk n y) 0 (Yk n y).length) = none := by
 intro d
 induction d with
 | zero => intro x _ y h1 h2; omega
 | succ d ih =>
  intro x h y h1 h2
  rw [Uy] at h
  cases hs : jCy n t x (qs1 (Yk n x) 0 (Yk n x).length) with
  | some v =>
   rw [hs] at h
   obtain ⟨q, _, hq⟩ := List.exists_of_findSome?_eq_some hs
   unfold jMp at hq
   split at hq
   ·cases hq; cases h
   ·cases hq
  | none =>
   rw [hs] at h
   by_cases e : y = x
   ·subst e; exact hs
   ·exact ih (x + 1) h y (by omega) (by omega)
theorem jP0 {n : Nat} {t : ByteArray} (ho : Y1 (n : Int) t = true) (hb0 : jLn n t = []) (h0 : 3 ≤ n) (h1 : n ≤ 7) : ∀ x a b c d, x < n → a < n → b < n → c < n → d < n → Yq a b c d = true → x ≠ a → x ≠ b → x ≠ c → x ≠ d → ¬ (chi n t x a b * chi n t x c d = chi n t x a d * chi n t x b c ∧ chi n t x a d * chi n t x b c = -(chi n t x a c) * chi n t x b d) := by
 have s1 : ∀ a b c, a < n → b < n → c < n → chi n t b a c = -chi n t a b c := fun a b c ha hb hc => Vl t h0 h1 (by omega) (by omega) (by omega)
 have s2 : ∀ a b c, a < n → b < n → c < n → chi n t a c b = -chi n t a b c := fun a b c ha hb hc => Vm t h0 h1 (by omega) (by omega) (by omega)
 intro x a b c d hx ha hb hc hd hq k1 k2 k3 k4
 refine jCt (n := n) (P := fun a b c d => x ≠ a → x ≠ b → x ≠ c → x ≠ d → ¬ (chi n t x a b * chi n t x c d = chi n t x a d * chi n t x b c ∧ chi n t x a d * chi n t x b c = -(chi n t x a c) * chi n t x b d)) ?_ ?_ ?_ ?_ ha hb hc hd hq k1 k2 k3 k4
 ·intro a b c d ha hb hc hd hP k1 k2 k3 k4 hh
  refine hP k2 k1 k3 k4 ?_
  rw [s2 x a b hx ha hb]
  have e1 := hh.1
  have e2 := hh.2
  constructor
  ·rw [Int.neg_mul, e1, e2, Int.neg_mul, Int.neg_neg, Int.mul_comm]
  ·rw [Int.mul_comm (chi n t x b d), Int.neg_mul, Int.mul_comm (chi n t x b c)]
   rw [Int.neg_mul] at e2
   omega
 ·intro a b c d ha hb hc hd hP k1 k2 k3 k4 hh
  refine hP k1 k3 k2 k4 ?_
  have e1 := hh.1
  have e2 := hh.2
  have e3 : chi n t x c b = -chi n t x b c := s2 x b c hx hb hc
  rw [e3]
  rw [Int.neg_mul] at e2
  constructor
  ·rw [Int.mul_neg]; omega
  ·rw [Int.mul_neg, Int.neg_mul]; omega
 ·intro a b c d ha hb hc hd hP k1 k2 k3 k4 hh
  refine hP k1 k2 k4 k3 ?_
  have e1 := hh.1
  have e2 := hh.2
  have e3 : chi n t x d c = -chi n t x c d := s2 x c d hx hc hd
  rw [e3]
  rw [Int.neg_mul] at e2
  constructor
  ·rw [Int.mul_neg]; omega
  ·rw [Int.neg_mul]; omega
 ·intro a b c d hab hbc hcd hd k1 k2 k3 k4 hh
  have hA : Y1 (n : Int) t = true := ho
  have hb := hb0
  unfold jLn at hb
  rw [if_pos hA, Int.toNat_natCast] at hb
  have hs := jGd n 0 hb x (by omega) (by omega)
  have hcq := jKj h0 h1
  simp only [jRw, Bool.and_eq_true, List.all_eq_true, List.mem_range, decide_eq_true_eq] at hcq
  rw [← hcq.1.1 x hx, (jGc h0 h1).1] at hs
  unfold jCy at hs
  have hq := List.findSome?_eq_none_iff.1 hs (a, b, c, d) (List.mem_filter.2 ⟨Uf hab hbc hcd hd, by simp only [noX, Bool.and_eq_true, decide_eq_true_eq]; omega⟩)
  unfold jMp at hq
  split at hq
  ·cases hq
  ·rename_i hbk
   refine hbk ?_
   unfold brk
   rw [Bool.and_eq_true, decide_eq_true_eq, decide_eq_true_eq]
   exact hh
theorem jO8 {n : Nat} {t : ByteArray} (aA : jNt n t = true) (h0 : 3 ≤ n) (h1 : n ≤ 7) : ∀ a b c d, a < n → b < n → c < n → d < n → Yq a b c d = true → ¬ (chi n t a c d = -(chi n t b c d) ∧ chi n t a b d = chi n t b c d ∧ chi n t a b c = -(chi n t b c d)) := by
 have s1 : ∀ a b c, a < n → b < n → c < n → chi n t b a c = -chi n t a b c := fun a b c ha hb hc => Vl t h0 h1 (by omega) (by omega) (by omega)
 have s2 : ∀ a b c, a < n → b < n → c < n → chi n t a c b = -chi n t a b c := fun a b c ha hb hc => Vm t h0 h1 (by omega) (by omega) (by omega)
 intro a b c d ha hb hc hd hq
 refine jCt (n := n) (P := fun a b c d => Yq a b c d = true → ¬ (chi n t a c d = -(chi n t b c d) ∧ chi n t a b d = chi n t b c d ∧ chi n t a b c = -(chi n t b c d))) ?_ ?_ ?_ ?_ ha hb hc hd hq hq
 ·intro a b c d ha hb hc hd hP hx hh
  refine hP (Q6.2 (by have := Q6.1 hx; omega)) ?_
  have e1 := s1 a b d ha hb hd
  have e2 := s1 a b c ha hb hc
  omega
 ·intro a b c d ha hb hc hd hP hx hh
  refine hP (Q6.2 (by have := Q6.1 hx; omega)) ?_
  have e1 := s1 b c d hb hc hd
  have e2 := s2 a b c ha hb hc
  omega
 ·intro a b c d ha hb hc hd hP hx hh
  refine hP (Q6.2 (by have := Q6.1 hx; omega)) ?_
  have e1 := s2 b c d hb hc hd
  have e2 := s2 a c d ha hc hd
  omega
 ·intro a b c d hab hbc hcd hd hx hh
  have hac := aA
  unfold jNt at hac
  rw [Bool.not_eq_true', List.any_eq_false] at hac
  refine hac (a, b, c, d) (Uf hab hbc hcd hd) ?_
  obtain ⟨e1, e2, e3⟩ := hh
  unfold Um
  simp only [e1, e2, e3, decide_eq_true_eq]
  rcases Vf (n := n) (a := b) (b := c) (c := d) t h0 h1 (by omega) (by omega) hd (by omega) (by omega) (by omega) with e | e <;> rw [e] <;> decide +kernel
theorem Kh {n : Nat} {t : ByteArray} (h : Yi n t = true) : Ord n (chi n t) := by
 obtain ⟨N, hN, ho, h0, h1⟩ := Yu h
 obtain rfl : n = N := by omega
 have hm : jLn n t = [] ∧ jNt n t = true := by
  unfold Yi jB3 at h
  simp only [Bool.and_eq_true, Int.toNat_natCast, List.isEmpty_iff] at h
  exact ⟨h.1.2, h.2⟩
 have s1 : ∀ a b c, a < n → b < n → c < n → chi n t b a c = -chi n t a b c := fun a b c ha hb hc => Vl t h0 h1 (by omega) (by omega) (by omega)
 have s2 : ∀ a b c, a < n → b < n → c < n → chi n t a c b = -chi n t a b c := fun a b c ha hb hc => Vm t h0 h1 (by omega) (by omega) (by omega)
 exact ⟨fun a b c ha hb hc hab hbc hac => Vf t h0 h1 ha hb hc hab hbc hac, s1, s2, jP0 ho hm.1 h0 h1, jO8 hm.2 h0 h1⟩
end Go.Proofs.Ytckkfjdkaimmhaa.M
