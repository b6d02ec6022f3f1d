/- A part of proofs about signs and points: what some functions answer, and that their calls answer so. No condition. -/
import Derived.Test.YtckkfjdkaimmhaaProg
import Derived.Laws.Bits128
import Derived.Test.YtckkfjdkaimmhaaV1
import Derived.Test.YtckkfjdkaimmhaaBkagmrh1
import Derived.Test.YtckkfjdkaimmhaaBkagmrh2
import Derived.Test.YtckkfjdkaimmhaaBkagmrh3
import Derived.Test.YtckkfjdkaimmhaaBkagmrh4
set_option linter.unusedVariables false
set_option linter.unusedSimpArgs false
namespace Go.Proofs.Ytckkfjdkaimmhaa.PX
open Go.RowKit Go.Proofs.Ytckkfjdkaimmhaa.G Go.Proofs.YtckkfjdkaimmhaaW.PrintWords Go.Proofs.YtckkfjdkaimmhaaW.PrintLast Go.Proofs.YtckkfjdkaimmhaaW.PrintMore
attribute [local go_sem] max2_int min2_int max_two min_two max_three min_three max_four min_four   -- for this text's walks alone
set_option linter.unusedVariables false
set_option linter.unusedSimpArgs false
/-! ### laws_FnHulls: function 5 -/
mutual
def laws_FnHulls.j0 : Nat → List Int → List (List Int) → Int → Int → Bool → Int → ByteArray → Int → ByteArray → Option (Bool)
 | 0, _, _, _, _, _, _, _, _, _ => none
 | k + 1, x4, x5, x9, x10, x78, x1208000, x1208001, x1223000, x1223001 => if x78 = true then (some false) else ((spec_IsAcyclic.f k x1208000 x1208001).bind fun t1239 => (if t1239 = true then (if (x4.length : Int) < 3 then (laws_FnHulls.j1 k x4 x5 x9 x10 true x1208000 x1208001 x1223000 x1223001) else ((impl_HullSize.f k x1208000 x1208001).bind fun t1241 => (if (x4.length : Int) = t1241 then (if (x5.length : Int) = 0 then (laws_FnHulls.j1 k x4 x5 x9 x10 true x1208000 x1208001 x1223000 x1223001) else (if 0 < (x5.length : Int) then (if ((rd_L6 x5 0).length : Int) = (x4.length : Int) then ((impl_IsConvex.f k x1208000 x1208001).bind fun t1243 => (laws_FnHulls.j1 k x4 x5 x9 x10 (t1243 != ((x4.length : Int) == x1208000)) x1208000 x1208001 x1223000 x1223001)) else (laws_FnHulls.j1 k x4 x5 x9 x10 true x1208000 x1208001 x1223000 x1223001)) else (none))) else (laws_FnHulls.j1 k x4 x5 x9 x10 true x1208000 x1208001 x1223000 x1223001)))) else (if (x4.length : Int) = 0 then (if (x5.length : Int) = 0 then ((impl_HullSize.f k x1208000 x1208001).bind fun t1240 => (some (t1240 == (-1)))) else (some false)) else (some false))))
def laws_FnHulls.j1 : Nat → List Int → List (List Int) → Int → Int → Bool → Int → ByteArray → Int → ByteArray → Option (Bool)
 | 0, _, _, _, _, _, _, _, _, _ => none
 | k + 1, x4, x5, x9, x10, x128, x1208000, x1208001, x1223000, x1223001 => if x128 = true then (some false) else (laws_FnHulls.l0 k x4 x5 x9 x10 0 x1208000 x1208001 x1223000 x1223001)
def laws_FnHulls.l0 : Nat → List Int → List (List Int) → Int → Int → Int → Int → ByteArray → Int → ByteArray → Option (Bool)
 | 0, _, _, _, _, _, _, _, _, _ => none
 | k + 1, x4, x5, x9, x10, x11, x1208000, x1208001, x1223000, x1223001 => if x11 < (x4.length : Int) then (if 0 ≤ x11 then ((impl_IsExtreme.f k x1208000 x1208001 (rd x4 x11)).bind fun t1245 => (if t1245 = true then (if (x4.length : Int) = 0 then (none) else (if 0 ≤ (Int.tmod (wrap64 (x11 + 1)) (x4.length : Int)) then (if (Int.tmod (wrap64 (x11 + 1)) (x4.length : Int)) < (x4.length : Int) then ((spec_LeftCount.f k x1208000 x1208001 (rd x4 x11) (rd x4 (Int.tmod (wrap64 (x11 + 1)) (x4.length : Int)))).bind fun t1248 => (if t1248 = (wrap64 (x1208000 - 2)) then (if 0 < (x4.length : Int) then (if (rd x4 x11) < (rd x4 0) then (some false) else (laws_FnHulls.l0 k x4 x5 x9 x10 (wrap64 (x11 + 1)) x1208000 x1208001 x1223000 x1223001)) else (none)) else (some false))) else (none)) else (none))) else (some false))) else (none)) else (laws_FnHulls.l1 k x5 x9 x10 0 0 x1208000 x1208001 x1223000 x1223001)
def laws_FnHulls.l1 : Nat → List (List Int) → Int → Int → Int → Int → Int → ByteArray → Int → ByteArray → Option (Bool)
 | 0, _, _, _, _, _, _, _, _, _ => none
 | k + 1, x5, x9, x10, x12, x13, x1208000, x1208001, x1223000, x1223001 => if x13 < (x5.length : Int) then (if 0 ≤ x13 then (laws_FnHulls.l1 k x5 x9 x10 (wrap64 (x12 + ((rd_L6 x5 x13).length : Int))) (wrap64 (x13 + 1)) x1208000 x1208001 x1223000 x1223001) else (none)) else (if x12 = x1208000 then ((impl_InHull.f k x1223000 x1223001 x9 x10).bind fun t1252 => (if t1252 = true then ((impl_IsExtreme.f k x1223000 x1223001 x10).bind fun t1253 => (some (!t1253))) else (some true))) else (some false))
end
def laws_FnHulls.f (k : Nat) (l0 : List Int) : Option (Bool) := (laws_big.f l0).bind fun t1204 => (if t1204 = true then (some true) else ((spec_DrawHullOf.f k l0).bind fun bt1205 => ((impl_HullOf.f k bt1205.1 bt1205.2).bind fun t1208 => ((impl_LayersOf.f k bt1205.1 bt1205.2).bind fun t1211 => ((spec_DrawIsExtreme.f k l0).bind fun bt1214 => ((spec_DrawInHull.f k l0).bind fun bt1218 => ((spec_HullOf.f k bt1205.1 bt1205.2).bind fun t1223 => ((laws_sameInts.f k t1208 t1223).bind fun t1226 => (if t1226 = true then ((spec_LayersOf.f k bt1205.1 bt1205.2).bind fun t1227 => ((laws_sameLists.f k t1211 t1227).bind fun t1230 => (if t1230 = true then ((impl_IsExtreme.f k bt1214.1 bt1214.2.1 bt1214.2.2).bind fun t1231 => ((spec_IsExtreme.f k bt1214.1 bt1214.2.1 bt1214.2.2).bind fun t1232 => (if (t1231 != t1232) = true then (laws_FnHulls.j0 k t1208 t1211 bt1218.2.2.1 bt1218.2.2.2 true bt1205.1 bt1205.2 bt1218.1 bt1218.2.1) else ((impl_InHull.f k bt1218.1 bt1218.2.1 bt1218.2.2.1 bt1218.2.2.2).bind fun t1233 => ((spec_InHull.f k bt1218.1 bt1218.2.1 bt1218.2.2.1 bt1218.2.2.2).bind fun t1234 => (if (t1233 != t1234) = true then (laws_FnHulls.j0 k t1208 t1211 bt1218.2.2.1 bt1218.2.2.2 true bt1205.1 bt1205.2 bt1218.1 bt1218.2.1) else ((impl_HullSize.f k bt1205.1 bt1205.2).bind fun t1235 => ((spec_HullSize.f k bt1205.1 bt1205.2).bind fun t1236 => (if t1235 = t1236 then ((impl_IsConvex.f k bt1205.1 bt1205.2).bind fun t1237 => ((spec_IsConvex.f k bt1205.1 bt1205.2).bind fun t1238 => (laws_FnHulls.j0 k t1208 t1211 bt1218.2.2.1 bt1218.2.2.2 (t1237 != t1238) bt1205.1 bt1205.2 bt1218.1 bt1218.2.1))) else (laws_FnHulls.j0 k t1208 t1211 bt1218.2.2.1 bt1218.2.2.2 true bt1205.1 bt1205.2 bt1218.1 bt1218.2.1)))))))))) else (laws_FnHulls.j0 k t1208 t1211 bt1218.2.2.1 bt1218.2.2.2 true bt1205.1 bt1205.2 bt1218.1 bt1218.2.1)))) else (laws_FnHulls.j0 k t1208 t1211 bt1218.2.2.1 bt1218.2.2.2 true bt1205.1 bt1205.2 bt1218.1 bt1218.2.1))))))))))
def laws_FnHulls.T8 : Bool × List (List Nat × List Nat) := (true, [([], []), ([], []), ([1], [1]), ([0, 2, 2], [0, 2]), ([3], [3]), ([4, 3], [4]), ([5], [5]), ([5], [5]), ([7, 5, 5], [5, 7]), ([6, 8, 8, 5], [5, 6, 8]), ([9, 5], [5, 9]), ([5, 10], [5, 10]), ([11, 9], [11]), ([12], [12]), ([12], [12]), ([13, 14, 12, 12], [12, 13, 14]), ([12], [12]), ([12], [12]), ([16, 17, 15, 12], [12, 16, 17]), ([15, 18, 12], [12, 15, 18]), ([12, 19], [12, 19]), ([20, 18], [20]), ([21], [21]), ([21], [21]), ([21], [21]), ([22, 23, 24, 21, 21], [21, 22, 23, 24]), ([21], [21]), ([21], [21]), ([21], [21]), ([26, 27, 28, 25, 21], [21, 26, 27, 28]), ([25, 29, 21], [21, 25, 29]), ([21, 30], [21, 30]), ([31, 29], [31]), ([32], [32]), ([33, 32, 32], [32, 33]), ([32], [32]), ([35, 34, 32], [32, 35]), ([34, 36, 32], [32, 34, 36]), ([32, 37], [32, 37]), ([38, 36], [38]), ([39], [39]), ([40, 39, 39], [39, 40]), ([39], [39]), ([42, 41, 39], [39, 42]), ([41, 43, 39], [39, 41, 43]), ([39, 44], [39, 44])])
def laws_FnHulls.B8 : List Nat := [0, 0, 2, 7, 15, 31, 63, 63, 191, 511, 1023, 2047, 4095, 8191, 8191, 32767, 8191, 8191, 262143, 524287, 1048575, 2097151, 4194303, 4194303, 4194303, 33554431, 4194303, 4194303, 4194303, 536870911, 1073741823, 2147483647, 4294967295, 8589934591, 17179869183, 8589934591, 68719476735, 137438953471, 274877906943, 549755813887, 1099511627775, 2199023255551, 1099511627775, 8796093022207, 17592186044415, 35184372088831]
theorem laws_FnHulls.tab8 : rtab .any (opsOf Try.f5 8) = laws_FnHulls.T8 := by kernel_rfl
theorem laws_FnHulls.bits8 : waitsOk laws_FnHulls.T8.2 laws_FnHulls.B8 = true := by kernel_rfl
def laws_FnHulls.T12 : Bool × List (List Nat × List Nat) := (true, [([], []), ([0], [0]), ([1], [1]), ([2], [2]), ([3], [3]), ([4, 3], [3, 4]), ([3], [3]), ([6, 3, 3], [3, 6]), ([5, 7, 3], [3, 5, 7]), ([3, 8], [3, 8]), ([9, 7], [9]), ([10], [10]), ([11, 10], [10, 11]), ([12, 10], [10, 12]), ([10, 13], [10, 13]), ([14, 10], [14]), ([15], [15]), ([16, 15], [15, 16]), ([17, 15], [15, 17]), ([18, 15], [15, 18]), ([15], [15]), ([20, 15], [15, 20]), ([19, 21, 15], [15, 19, 21]), ([15, 22], [15, 22]), ([23, 15], [23]), ([24], [24]), ([25, 24, 24], [24, 25]), ([24], [24]), ([27, 24], [24, 27]), ([24], [24]), ([29, 24], [24, 29]), ([28, 30, 24], [24, 28, 30]), ([26, 31, 24], [24, 26, 31]), ([24, 32], [24, 32])])
def laws_FnHulls.B12 : List Nat := [0, 1, 3, 7, 15, 31, 15, 79, 255, 511, 1023, 2047, 4095, 8191, 16383, 32767, 65535, 131071, 262143, 524287, 65535, 1114111, 4194303, 8388607, 16777215, 33554431, 67108863, 33554431, 167772159, 33554431, 570425343, 2046820351, 4294967295, 8589934591]
theorem laws_FnHulls.tab12 : rtab .any (opsOf Try.f5 12) = laws_FnHulls.T12 := by kernel_rfl
theorem laws_FnHulls.bits12 : waitsOk laws_FnHulls.T12.2 laws_FnHulls.B12 = true := by kernel_rfl
def laws_FnHulls.T17 : Bool × List (List Nat × List Nat) := (true, [([], []), ([], []), ([], []), ([1, 2], [1, 2]), ([3], [3]), ([0, 4], [0, 4]), ([5], [5]), ([6, 5], [6]), ([7], [7]), ([7], [7]), ([7], [7]), ([9, 10, 7], [7, 9, 10]), ([11, 7], [7, 11]), ([7], [7]), ([7], [7]), ([14, 7], [7, 14]), ([7], [7]), ([16, 7], [7, 16]), ([15, 17, 7], [7, 15, 17]), ([13, 18, 7], [7, 13, 18]), ([19, 7], [7, 19]), ([8, 12, 20, 7, 7], [7, 8, 12, 20]), ([7], [7]), ([22, 7], [7, 22]), ([23, 7], [7, 23]), ([21, 24, 7], [7, 21, 24]), ([7, 25], [7, 25]), ([26, 21], [26]), ([27], [27]), ([27], [27]), ([28, 29, 27], [27, 28, 29]), ([30, 27], [27, 30]), ([27], [27]), ([32, 27], [27, 32]), ([33, 27], [27, 33]), ([31, 34, 27], [27, 31, 34]), ([27, 35], [27, 35])])
def laws_FnHulls.B17 : List Nat := [0, 0, 0, 6, 14, 31, 63, 127, 255, 255, 255, 1791, 3839, 255, 255, 16639, 255, 65791, 246015, 516351, 1040639, 2097151, 255, 4194559, 12583167, 33554431, 67108863, 134217727, 268435455, 268435455, 1073741823, 2147483647, 268435455, 4563402751, 13153337343, 34359738367, 68719476735]
theorem laws_FnHulls.tab17 : rtab .any (opsOf Try.f5 17) = laws_FnHulls.T17 := by kernel_rfl
theorem laws_FnHulls.bits17 : waitsOk laws_FnHulls.T17.2 laws_FnHulls.B17 = true := by kernel_rfl
theorem laws_FnHulls.j0_no (k : Nat) (y0 : List Int) (y1 : List (List Int)) (y2 : Int) (y3 : Int) (y5 : Int) (y6 : ByteArray) (y7 : Int) (y8 : ByteArray) (r : Bool) (h_ : r = true) : ¬ laws_FnHulls.j0 k y0 y1 y2 y3 true y5 y6 y7 y8 = some r := by
 subst h_
 cases k <;> simp [laws_FnHulls.j0]
theorem laws_FnHulls.j1_no (k : Nat) (y0 : List Int) (y1 : List (List Int)) (y2 : Int) (y3 : Int) (y5 : Int) (y6 : ByteArray) (y7 : Int) (y8 : ByteArray) (r : Bool) (h_ : r = true) : ¬ laws_FnHulls.j1 k y0 y1 y2 y3 true y5 y6 y7 y8 = some r := by
 subst h_
 cases k <;> simp [laws_FnHulls.j1]
set_option maxHeartbeats 8000000 in
set_option maxRecDepth 100000 in
theorem laws_FnHulls.calls (k : Nat) (A0 : Option Addr) (c0 : Nat) (l0 : List Int) (r : Bool) (w : World) (hr0 : Kd.C (Kd.int .u8) w A0 l0.length l0) (hc0 : l0.length ≤ c0) (h : laws_FnHulls.f k l0 = some r) (hr_ : r = true) :
  Calls Try.prog 5 #[.slice A0 l0.length c0] w fun e w' => e = .returned (.bool r) ∧ Below w.heap.size w w' := by
 have hu25 := Try.underlying25
 have HR0 := Aside0.mk hr0
 have HC0 := Aside0.mk hc0
 clear hr0 hc0
 have HB := Aside0.mk (Below.refl w.heap.size w)
 have H : ((laws_big.f l0).bind fun t1204 => (if t1204 = true then (some true) else ((spec_DrawHullOf.f k l0).bind fun bt1205 => ((impl_HullOf.f k bt1205.1 bt1205.2).bind fun t1208 => ((impl_LayersOf.f k bt1205.1 bt1205.2).bind fun t1211 => ((spec_DrawIsExtreme.f k l0).bind fun bt1214 => ((spec_DrawInHull.f k l0).bind fun bt1218 => ((spec_HullOf.f k bt1205.1 bt1205.2).bind fun t1223 => ((laws_sameInts.f k t1208 t1223).bind fun t1226 => (if t1226 = true then ((spec_LayersOf.f k bt1205.1 bt1205.2).bind fun t1227 => ((laws_sameLists.f k t1211 t1227).bind fun t1230 => (if t1230 = true then ((impl_IsExtreme.f k bt1214.1 bt1214.2.1 bt1214.2.2).bind fun t1231 => ((spec_IsExtreme.f k bt1214.1 bt1214.2.1 bt1214.2.2).bind fun t1232 => (if (t1231 != t1232) = true then (laws_FnHulls.j0 k t1208 t1211 bt1218.2.2.1 bt1218.2.2.2 true bt1205.1 bt1205.2 bt1218.1 bt1218.2.1) else ((impl_InHull.f k bt1218.1 bt1218.2.1 bt1218.2.2.1 bt1218.2.2.2).bind fun t1233 => ((spec_InHull.f k bt1218.1 bt1218.2.1 bt1218.2.2.1 bt1218.2.2.2).bind fun t1234 => (if (t1233 != t1234) = true then (laws_FnHulls.j0 k t1208 t1211 bt1218.2.2.1 bt1218.2.2.2 true bt1205.1 bt1205.2 bt1218.1 bt1218.2.1) else ((impl_HullSize.f k bt1205.1 bt1205.2).bind fun t1235 => ((spec_HullSize.f k bt1205.1 bt1205.2).bind fun t1236 => (if t1235 = t1236 then ((impl_IsConvex.f k bt1205.1 bt1205.2).bind fun t1237 => ((spec_IsConvex.f k bt1205.1 bt1205.2).bind fun t1238 => (laws_FnHulls.j0 k t1208 t1211 bt1218.2.2.1 bt1218.2.2.2 (t1237 != t1238) bt1205.1 bt1205.2 bt1218.1 bt1218.2.1))) else (laws_FnHulls.j0 k t1208 t1211 bt1218.2.2.1 bt1218.2.2.2 true bt1205.1 bt1205.2 bt1218.1 bt1218.2.1)))))))))) else (laws_FnHulls.j0 k t1208 t1211 bt1218.2.2.1 bt1218.2.2.2 true bt1205.1 bt1205.2 bt1218.1 bt1218.2.1)))) else (laws_FnHulls.j0 k t1208 t1211 bt1218.2.2.1 bt1218.2.2.2 true bt1205.1 bt1205.2 bt1218.1 bt1218.2.1))))))))))) = some r := h
 clear h
 obtain ⟨t1204, A2, H⟩ := zO H
 by_cases c3 : t1204 = true
 ·subst c3
  replace H := (if_pos rfl).symm.trans H
  obtain rfl := Option.some.inj H
  go_enter Try.func5, Try.ntmps5
  go_wp2_with (first | ((with_reducible refine gate_callee (f := 7) rfl ?_); refine zD (some 15) Try.func7 #[.slice A0 l0.length c0] ?_; (with_reducible refine (laws_big.calls _ _ l0 true _ ?side1 ?side2 A2.out).mono ?_); (case side1 => repeat (first | exact HR0.out | (with_reducible refine Kd.C_alloc ?_ _) | (with_reducible refine Kd.C_drewN ?_ _) | (with_reducible refine Kd.C_drew ?_))); (case side2 => exact HC0.out); rintro e w' ⟨rfl, ⟨nd, rfl⟩⟩; refine ⟨_, rfl, ?_⟩))
  go_ret
  exact ⟨zE, zB⟩
 replace c3 := Bool.eq_false_iff.mpr c3
 subst c3
 replace H := (if_neg zFf).symm.trans H
 obtain ⟨⟨t1205, t1206⟩, A4, H⟩ := zO H
 dsimp only at H
 obtain ⟨t1208, A5, H⟩ := zO H
 obtain ⟨t1211, A6, H⟩ := zO H
 obtain ⟨⟨t1214, t1215, t1216⟩, A7, H⟩ := zO H
 dsimp only at H
 obtain ⟨⟨t1218, t1219, t1220, t1221⟩, A8, H⟩ := zO H
 dsimp only at H
 have HC9 := Aside0.mk H
 clear H
 go_enter Try.func5, Try.ntmps5
 go_upto_region 8 with (first | ((with_reducible refine gate_callee (f := 7) rfl ?_); refine zD (some 15) Try.func7 #[.slice A0 l0.length c0] ?_; (with_reducible refine (laws_big.calls _ _ l0 false _ ?side1 ?side2 A2.out).mono ?_); (case side1 => repeat (first | exact HR0.out | (with_reducible refine Kd.C_alloc ?_ _) | (with_reducible refine Kd.C_drewN ?_ _) | (with_reducible refine Kd.C_drew ?_))); (case side2 => exact HC0.out); rintro e w' ⟨rfl, ⟨nd, rfl⟩⟩; refine ⟨_, rfl, ?_⟩) | ((with_reducible refine gate_callee (f := 48) rfl ?_); refine zD (some 17) Try.func48 #[.slice A0 l0.length c0] ?_; (with_reducible refine (spec_DrawHullOf.calls k _ _ l0 t1205 t1206 _ ?side1 ?side2 A4.out).mono ?_); (case side1 => repeat (first | exact HR0.out | (with_reducible refine Kd.C_alloc ?_ _) | (with_reducible refine Kd.C_drewN ?_ _) | (with_reducible refine Kd.C_drew ?_))); (case side2 => exact HC0.out); rintro e w10 ⟨rfl, hb⟩; refine ⟨_, rfl, ?_⟩; replace HB := zX hb; (try clear hb)) | ((with_reducible refine gate_dst (N := 3) rfl ?_); (try (refine gate_guard (by rfl) ?_; dsimp only)); refine zBx (N := 3) #[.int .i64 0, .string (⟨#[]⟩ : ByteArray)] 25 ?_; intro gb1207 hg w11 hbox hb; have BK1207 := Aside0.mk (hbox); have GW1207 := zS hg; have GE1207 := zS hg; replace HB := zX hb; clear hb hbox hg; obtain ⟨hcz12_0, hcz12_1, hfz12_0, hfz12_1⟩ := zq2 BK1207.out) | ((with_reducible refine gate_callee (f := 49) rfl ?_); refine zD (some 19) Try.func49 #[.agg #[.int .i64 t1205, .string t1206]] ?_; (with_reducible refine (impl_HullOf.calls k t1205 t1206 t1208 _ A5.out).mono ?_); rintro e w13 ⟨v1209, rfl, ho0, hb⟩; refine ⟨_, rfl, ?_⟩; have HO1210 := Aside0.mk (Kd.R_lower ho0 (below_size (zG GE1207.out))); replace BK1207 := Aside0.mk (blk_below (g := gb1207) (o := .cells #[.int .i64 t1205, .string t1206] 25 (0, 0)) (zk0 BK1207.out) hb); replace HB := zX1 GE1207.out hb; (try clear hb); (try clear ho0); obtain ⟨hcz14_0, hcz14_1, hfz14_0, hfz14_1⟩ := zq2 BK1207.out) | ((with_reducible refine gate_callee (f := 50) rfl ?_); refine zD (some 21) Try.func50 #[.agg #[.int .i64 t1205, .string t1206]] ?_; (with_reducible refine (impl_LayersOf.calls k t1205 t1206 t1211 _ A6.out).mono ?_); rintro e w15 ⟨v1212, rfl, ho0, hb⟩; refine ⟨_, rfl, ?_⟩; have HO1213 := Aside0.mk (Kd.S_lower (Kd.S_new' ho0 (Kd.R_lt (zR HO1210.out))) (below_size (zG GE1207.out))); replace HO1210 := zW HO1210.out hb; replace BK1207 := zV BK1207.out hb; replace HB := zX1 GE1207.out hb; (try clear hb); (try clear ho0)) | ((with_reducible refine gate_callee (f := 51) rfl ?_); refine zD (some 24) Try.func51 #[.slice A0 l0.length c0] ?_; (with_reducible refine (spec_DrawIsExtreme.calls k _ _ l0 t1214 t1215 t1216 _ ?side1 ?side2 A7.out).mono ?_); (case side1 => repeat (first | exact (Kd.C_below HR0.out HB.out) | (with_reducible refine Kd.C_alloc ?_ _) | (with_reducible refine Kd.C_drewN ?_ _) | (with_reducible refine Kd.C_drew ?_))); (case side2 => exact HC0.out); rintro e w16 ⟨rfl, hb⟩; refine ⟨_, rfl, ?_⟩; replace HO1210 := zW HO1210.out hb; replace HO1213 := Aside0.mk (Kd.S_below (by (with_reducible repeat (first | apply Kd.S_alloc | apply Kd.S_drewN | apply Kd.S_drew)); exact HO1213.out) hb); replace BK1207 := zV BK1207.out hb; replace HB := zX1 GE1207.out hb; (try clear hb)) | ((with_reducible refine gate_dst (N := 6) rfl ?_); (try (refine gate_guard (by rfl) ?_; dsimp only)); refine zBx (N := 6) #[.int .i64 0, .string (⟨#[]⟩ : ByteArray)] 25 ?_; intro gb1217 hg w17 hbox hb; replace HO1210 := zW HO1210.out hb; replace HO1213 := Aside0.mk (Kd.S_below (by (with_reducible repeat (first | apply Kd.S_alloc | apply Kd.S_drewN | apply Kd.S_drew)); exact HO1213.out) hb); have BK1217 := Aside0.mk (hbox); have GW1217 := zSg hg (zG GE1207.out); have GE1217 := zSg hg (zG GE1207.out); have NB1207_1217 := zL hg BK1207.out; have NB1217_1207 := zLg hg BK1207.out; replace BK1207 := zV BK1207.out hb; replace HB := zX1 GE1207.out hb; clear hb hbox hg; have hnb18 := NB1217_1207.out; have hnc18 := NB1207_1217.out; obtain ⟨hcz19_0, hcz19_1, hfz19_0, hfz19_1⟩ := zq2 BK1217.out) | ((with_reducible refine gate_callee (f := 52) rfl ?_); refine zD (some 29) Try.func52 #[.slice A0 l0.length c0] ?_; (with_reducible refine (spec_DrawInHull.calls k _ _ l0 t1218 t1219 t1220 t1221 _ ?side1 ?side2 A8.out).mono ?_); (case side1 => exact Kd.C_below HR0.out (zG2 GE1207.out GE1217.out)); (case side2 => exact HC0.out); rintro e w20 ⟨rfl, hb⟩; refine ⟨_, rfl, ?_⟩; replace HO1210 := Aside0.mk (Kd.R_below (by (with_reducible repeat (first | apply Kd.R_alloc | apply Kd.R_drewN | apply Kd.R_drew)); exact (Kd.R_mono (Kd.R_far (p := ⟨gb1217, 1, none⟩) (Kd.R_far (p := ⟨gb1217, 0, none⟩) (Kd.R_types HO1210.out BK1217.out (by decide)) (fun _ hk => hk.2) (.int .i64 t1214)) (fun _ hk => hk.2) (.string t1215)) (fun _ h_ => h_.1))) hb); replace HO1213 := Aside0.mk (Kd.S_below (by (with_reducible repeat (first | apply Kd.S_alloc | apply Kd.S_drewN | apply Kd.S_drew)); exact (Kd.S_mono (Kd.S_far (p := ⟨gb1217, 1, none⟩) (Kd.S_far (p := ⟨gb1217, 0, none⟩) (Kd.S_types HO1213.out BK1217.out (by decide)) (fun _ hk => hk.2) (.int .i64 t1214)) (fun _ hk => hk.2) (.string t1215)) (fun _ h_ => h_.1))) hb); replace BK1207 := Aside0.mk (blk_below (g := gb1207) (o := .cells #[.int .i64 t1205, .string t1206] 25 (0, 0)) (zk2 BK1207.out NB1207_1217.out NB1207_1217.out) hb); replace BK1217 := Aside0.mk (blk_below (g := gb1217) (o := .cells #[.int .i64 t1214, .string t1215] 25 (0, 0)) (zk0 BK1217.out) hb); replace HB := Aside0.mk (below_step (zG2 GE1207.out GE1217.out) hb); (try clear hb)) | ((with_reducible refine gate_dst (N := 8) rfl ?_); (try (refine gate_guard (by rfl) ?_; dsimp only)); refine zBx (N := 8) #[.int .i64 0, .string (⟨#[]⟩ : ByteArray)] 25 ?_; intro gb1222 hg w21 hbox hb; replace HO1210 := zW HO1210.out hb; replace HO1213 := Aside0.mk (Kd.S_below (by (with_reducible repeat (first | apply Kd.S_alloc | apply Kd.S_drewN | apply Kd.S_drew)); exact HO1213.out) hb); have BK1222 := Aside0.mk (hbox); have GW1222 := zSg hg (zG2 GE1207.out GE1217.out); have GE1222 := zSg hg (zG2 GE1207.out GE1217.out); have NB1207_1222 := zL hg BK1207.out; have NB1222_1207 := zLg hg BK1207.out; replace BK1207 := zV BK1207.out hb; have NB1217_1222 := zL hg BK1217.out; have NB1222_1217 := zLg hg BK1217.out; replace BK1217 := zV BK1217.out hb; replace HB := Aside0.mk (below_step (zG2 GE1207.out GE1217.out) hb); clear hb hbox hg; have hnb22 := NB1222_1207.out; have hnc22 := NB1207_1222.out; have hnb23 := NB1222_1217.out; have hnc23 := NB1217_1222.out; obtain ⟨hcz24_0, hcz24_1, hfz24_0, hfz24_1⟩ := zq2 BK1222.out))
 (try simp only [Act.put, List.setIfInBounds_toArray, List.set_cons_zero, List.set_cons_succ])
 go_cut [78] (fun v78 wc => ∃ (kq : Nat) (x78_8 : Bool), v78 = .bool x78_8 ∧ Aside0 (laws_FnHulls.j0 kq t1208 t1211 t1220 t1221 x78_8 t1205 t1206 t1218 t1219 = some r) ∧ Aside0 (kq ≤ k) ∧ Aside0 (Kd.R (Kd.int .i64) 3 wc w.heap.size (fun _ => True) v1209 t1208) ∧ Aside0 (Kd.S (Kd.slice 3 (Kd.int .i64)) 27 wc w.heap.size (fun k_ => some k_ ≠ (v1209 : Value).ownBlock) v1212 t1211) ∧ Aside0 (wc.heap[gb1207]? = some (.cells #[.int .i64 t1205, .string t1206] 25 (0, 0))) ∧ Aside0 (wc.heap[gb1217]? = some (.cells #[.int .i64 t1214, .string t1215] 25 (0, 0))) ∧ Aside0 (wc.heap[gb1222]? = some (.cells #[.int .i64 t1218, .string t1219] 25 (0, 0))) ∧ Aside0 (Below w.heap.size w wc))
 case first => as_aux_lemma =>
  have H := HC9.out
  clear HC9
  obtain ⟨t1223, A25, H⟩ := zO H
  obtain ⟨t1226, A26, H⟩ := zO H
  by_cases c27 : t1226 = true
  ·subst c27
   replace H := (if_pos rfl).symm.trans H
   obtain ⟨t1227, A28, H⟩ := zO H
   obtain ⟨t1230, A29, H⟩ := zO H
   by_cases c30 : t1230 = true
   ·subst c30
    replace H := (if_pos rfl).symm.trans H
    obtain ⟨t1231, A31, H⟩ := zO H
    obtain ⟨t1232, A32, H⟩ := zO H
    by_cases c33 : (t1231 != t1232) = true
    ·rw [if_pos c33] at H
     exact absurd H (laws_FnHulls.j0_no _ _ _ _ _ _ _ _ _ _ hr_)
    rw [if_neg c33] at H
    have c33b0 : (t1231 != t1232) = false := by simpa using c33
    (try (have c33b1 : decide (t1231 = t1232) = true := by simpa using c33))
    (try (have c33b2 : (t1231 == t1232) = true := by simpa using c33))
    clear c33
    (first | rw [c33b0] | (simp only [i64_w, i32_w]; rw [c33b0]) | skip)
    obtain ⟨t1233, A44, H⟩ := zO H
    obtain ⟨t1234, A45, H⟩ := zO H
    by_cases c46 : (t1233 != t1234) = true
    ·rw [if_pos c46] at H
     exact absurd H (laws_FnHulls.j0_no _ _ _ _ _ _ _ _ _ _ hr_)
    rw [if_neg c46] at H
    have c46b0 : (t1233 != t1234) = false := by simpa using c46
    (try (have c46b1 : decide (t1233 = t1234) = true := by simpa using c46))
    (try (have c46b2 : (t1233 == t1234) = true := by simpa using c46))
    clear c46
    obtain ⟨t1235, A59, H⟩ := zO H
    obtain ⟨t1236, A60, H⟩ := zO H
    by_cases c61 : t1235 = t1236
    ·rw [if_pos c61] at H
     have c61b0 := beq_iff_eq.mpr c61
     have c61b1 := bne_eq_false_iff_eq.mpr c61
     clear c61
     obtain ⟨t1237, A62, H⟩ := zO H
     obtain ⟨t1238, A63, H⟩ := zO H
     have H' := Aside0.mk H; clear H
     try go_wp2
     have n0_ : Aside0 (Kd.R (Kd.int .i64) 3 ((w21.setCell ⟨gb1222, 0, none⟩ (.int .i64 t1218)).setCell ⟨gb1222, 1, none⟩ (.string t1219)) w.heap.size (fun _ => True) v1209 t1208) := ⟨by (with_reducible repeat (first | apply Kd.R_alloc | apply Kd.R_drewN | apply Kd.R_drew)); exact Kd.R_mono (Kd.R_far (p := ⟨gb1222, 1, none⟩) (Kd.R_far (p := ⟨gb1222, 0, none⟩) (Kd.R_types HO1210.out BK1222.out (by decide)) (fun _ hk => hk.2) (.int .i64 t1218)) (fun _ hk => hk.2) (.string t1219)) (fun _ hk => trivial)⟩
     have n1_ : Aside0 (Kd.S (Kd.slice 3 (Kd.int .i64)) 27 ((w21.setCell ⟨gb1222, 0, none⟩ (.int .i64 t1218)).setCell ⟨gb1222, 1, none⟩ (.string t1219)) w.heap.size (fun k_ => some k_ ≠ (v1209 : Value).ownBlock) v1212 t1211) := ⟨by (with_reducible repeat (first | apply Kd.S_alloc | apply Kd.S_drewN | apply Kd.S_drew)); exact Kd.S_mono (Kd.S_far (p := ⟨gb1222, 1, none⟩) (Kd.S_far (p := ⟨gb1222, 0, none⟩) (Kd.S_types HO1213.out BK1222.out (by decide)) (fun _ hk => hk.2) (.int .i64 t1218)) (fun _ hk => hk.2) (.string t1219)) (fun _ hk => hk.1.2)⟩
     have n2_ : Aside0 (((w21.setCell ⟨gb1222, 0, none⟩ (.int .i64 t1218)).setCell ⟨gb1222, 1, none⟩ (.string t1219)).heap[gb1207]? = some (.cells #[.int .i64 t1205, .string t1206] 25 (0, 0))) := ⟨zk2 BK1207.out NB1207_1222.out NB1207_1222.out⟩
     have n3_ : Aside0 (((w21.setCell ⟨gb1222, 0, none⟩ (.int .i64 t1218)).setCell ⟨gb1222, 1, none⟩ (.string t1219)).heap[gb1217]? = some (.cells #[.int .i64 t1214, .string t1215] 25 (0, 0))) := ⟨zk2 BK1217.out NB1217_1222.out NB1217_1222.out⟩
     have n4_ : Aside0 (((w21.setCell ⟨gb1222, 0, none⟩ (.int .i64 t1218)).setCell ⟨gb1222, 1, none⟩ (.string t1219)).heap[gb1222]? = some (.cells #[.int .i64 t1218, .string t1219] 25 (0, 0))) := ⟨zk0 BK1222.out⟩
     have n5_ : Aside0 (Below w.heap.size w ((w21.setCell ⟨gb1222, 0, none⟩ (.int .i64 t1218)).setCell ⟨gb1222, 1, none⟩ (.string t1219))) := ⟨zG3 GE1207.out GE1217.out GE1222.out⟩
     (try clear HO1210)
     (try clear HO1213)
     (try clear BK1207)
     (try clear BK1217)
     (try clear BK1222)
     (try clear HB)
     generalize ((w21.setCell ⟨gb1222, 0, none⟩ (.int .i64 t1218)).setCell ⟨gb1222, 1, none⟩ (.string t1219)) = w64 at n0_ n1_ n2_ n3_ n4_ n5_ ⊢
     have HO1210 := n0_
     have HO1213 := n1_
     have BK1207 := n2_
     have BK1217 := n3_
     have BK1222 := n4_
     have HB := n5_
     clear n0_ n1_ n2_ n3_ n4_ n5_
     replace HO1210 := Aside0.mk (Kd.R_drew HO1210.out)
     replace HO1213 := Aside0.mk (Kd.S_drew HO1213.out)
     replace BK1207 := Aside0.mk (blk_drew BK1207.out)
     replace BK1217 := Aside0.mk (blk_drew BK1217.out)
     replace BK1222 := Aside0.mk (blk_drew BK1222.out)
     replace HB := Aside0.mk (below_drew1 HB.out)
     refine start_ (n := 46) (S := fun w' => w'.cell? ⟨gb1207, 0, none⟩ = some (.int .i64 t1205) ∧ w'.cell? ⟨gb1207, 1, none⟩ = some (.string t1206) ∧ w'.cell? ⟨gb1217, 0, none⟩ = some (.int .i64 t1214) ∧ w'.cell? ⟨gb1217, 1, none⟩ = some (.string t1215) ∧ w'.cell? ⟨gb1222, 0, none⟩ = some (.int .i64 t1218) ∧ w'.cell? ⟨gb1222, 1, none⟩ = some (.string t1219)) (ds := []) #[false, false, false, false, false, false, false, false, false, false, false, false, false, false, false, false, false, false, false, false, false, false, false, false, false, false, false, false, false, false, false, false, false, false, false, false, false, false, false, false, false, false, false, false, false, false] (by kernel_rfl) rfl rfl ⟨(blk_cell BK1207.out 0).trans rfl, (blk_cell BK1207.out 1).trans rfl, (blk_cell BK1217.out 0).trans rfl, (blk_cell BK1217.out 1).trans rfl, (blk_cell BK1222.out 0).trans rfl, (blk_cell BK1222.out 1).trans rfl⟩ (fun hHeld => ?_); refine with_tabW laws_FnHulls.tab8 laws_FnHulls.bits8 (fun HT_ HW_ => ?_)
     generalize w64.drew = w65 at HO1210 HO1213 BK1207 BK1217 BK1222 HB hHeld ⊢
     refine zP 0 (some 33) rfl rfl ?_
     refine zY6 1 (some 34) rfl rfl hHeld ?_
     refine zU 2 (some 35) rfl rfl (fun K hK => ?_)
     refine goes_ Try.func53 (by kernel_rfl) rfl #[.agg #[.int .i64 t1205, .string t1206]] (by rfl) rfl rfl zM ?_
     with_reducible refine (spec_HullOf.calls k t1205 t1206 t1223 _ A25.out).mono ?_
     rintro e w66 ⟨v1224, rfl, ho0, hb⟩
     refine ⟨_, rfl, ?_⟩
     replace HO1213 := Aside0.mk (Kd.S_elder' (by (with_reducible repeat (first | apply Kd.S_alloc | apply Kd.S_drewN | apply Kd.S_drew)); exact HO1213.out) (Kd.R_base ho0) hb)
     have HO1225 := Aside0.mk (Kd.R_lower (Kd.R_new' ho0 (Kd.R_lt (zR HO1210.out))) (below_size (zG3 GE1207.out GE1217.out GE1222.out)))
     replace HO1210 := Aside0.mk (Kd.R_elder' (zR HO1210.out) (Kd.R_base ho0) hb)
     replace BK1207 := zV BK1207.out hb
     replace BK1217 := zV BK1217.out hb
     replace BK1222 := zV BK1222.out hb
     replace HB := Aside0.mk (below_step (zG3 GE1207.out GE1217.out GE1222.out) hb)
     (try clear hb)
     (try clear ho0)
     obtain ⟨Ao67, co67, eo67⟩ := Kd.R_slice HO1210.out
     (first | subst eo67 | (injection eo67 with f1_ f2_ f3_; have f4_ := f1_.symm; have f5_ := f3_.symm; clear f1_ f2_ f3_; subst f4_; subst f5_))
     obtain ⟨Ao68, co68, eo68⟩ := Kd.R_slice HO1225.out
     (first | subst eo68 | (injection eo68 with f1_ f2_ f3_; have f4_ := f1_.symm; have f5_ := f3_.symm; clear f1_ f2_ f3_; subst f4_; subst f5_))
     refine hK.out _ _ (zh BK1207.out (zh BK1217.out (zh2 BK1222.out))) (fun hHeld => ?_)
     clear hK K
     refine zN ?_
     refine zU 3 (some 36) rfl rfl (fun K hK => ?_)
     refine goes_ Try.func16 (by kernel_rfl) rfl #[.slice Ao67 t1208.length co67, .slice Ao68 t1223.length co68] (by rfl) rfl rfl zM ?_
     with_reducible refine (laws_sameInts.calls k _ _ t1208 _ _ t1223 true _ ?side1 ?side2 ?side3 ?side4 A26.out).mono ?_
     (case side1 => repeat (first | exact (Kd.R_reads' HO1210.out).2.2 | (with_reducible refine Kd.C_alloc ?_ _) | (with_reducible refine Kd.C_drewN ?_ _) | (with_reducible refine Kd.C_drew ?_)))
     (case side2 => exact (Kd.R_reads' HO1210.out).2.1)
     (case side3 => repeat (first | exact (Kd.R_reads' HO1225.out).2.2 | (with_reducible refine Kd.C_alloc ?_ _) | (with_reducible refine Kd.C_drewN ?_ _) | (with_reducible refine Kd.C_drew ?_)))
     (case side4 => exact (Kd.R_reads' HO1225.out).2.1)
     rintro e w' ⟨rfl, ⟨nd, rfl⟩⟩
     refine ⟨_, rfl, ?_⟩
     refine hK.out _ _ (zh BK1207.out (zh BK1217.out (zh2 BK1222.out))) (fun hHeld => ?_)
     clear hK K
     refine zN ?_
     refine zP 4 (some 37) rfl rfl ?_
     refine zP 5 (some 38) rfl rfl ?_
     refine zP 6 (some 39) rfl rfl ?_
     refine zY6 7 (some 40) rfl rfl hHeld ?_
     refine zU 8 (some 41) rfl rfl (fun K hK => ?_)
     refine goes_ Try.func54 (by kernel_rfl) rfl #[.agg #[.int .i64 t1205, .string t1206]] (by rfl) rfl rfl zM ?_
     with_reducible refine (spec_LayersOf.calls k t1205 t1206 t1227 _ A28.out).mono ?_
     rintro e w69 ⟨v1228, rfl, ho0, hb⟩
     refine ⟨_, rfl, ?_⟩
     have HO1229 := Aside0.mk (Kd.S_lower (Kd.S_new' (Kd.S_new' (Kd.S_new' ho0 (Kd.R_lt (zR HO1210.out))) (Kd.S_lt (by (with_reducible repeat (first | apply Kd.S_alloc | apply Kd.S_drewN | apply Kd.S_drew)); exact HO1213.out))) (Kd.R_lt (zR HO1225.out))) (below_size (zG3 GE1207.out GE1217.out GE1222.out)))
     replace HO1210 := zW HO1210.out hb
     replace HO1213 := Aside0.mk (Kd.S_elder' (by (with_reducible repeat (first | apply Kd.S_alloc | apply Kd.S_drewN | apply Kd.S_drew)); exact HO1213.out) (Kd.S_base ho0) hb)
     replace HO1225 := zW HO1225.out hb
     replace BK1207 := zV BK1207.out hb
     replace BK1217 := zV BK1217.out hb
     replace BK1222 := zV BK1222.out hb
     replace HB := Aside0.mk (below_step (zG3 GE1207.out GE1217.out GE1222.out) hb)
     (try clear hb)
     (try clear ho0)
     obtain ⟨Ao70, co70, eo70⟩ := Kd.S_slice HO1213.out
     (first | subst eo70 | (injection eo70 with f1_ f2_ f3_; have f4_ := f1_.symm; have f5_ := f3_.symm; clear f1_ f2_ f3_; subst f4_; subst f5_))
     obtain ⟨Ao71, co71, eo71⟩ := Kd.S_slice HO1229.out
     (first | subst eo71 | (injection eo71 with f1_ f2_ f3_; have f4_ := f1_.symm; have f5_ := f3_.symm; clear f1_ f2_ f3_; subst f4_; subst f5_))
     refine hK.out _ _ (zh BK1207.out (zh BK1217.out (zh2 BK1222.out))) (fun hHeld => ?_)
     clear hK K
     refine zN ?_
     refine zU 9 (some 42) rfl rfl (fun K hK => ?_)
     refine goes_ Try.func37 (by kernel_rfl) rfl #[.slice Ao70 t1211.length co70, .slice Ao71 t1227.length co71] (by rfl) rfl rfl zM ?_
     with_reducible refine (laws_sameLists.calls k _ _ t1211 _ _ t1227 true _ ?side1 ?side2 ?side3 ?side4 A29.out).mono ?_
     (case side1 => repeat (first | exact (Kd.S_reads' HO1213.out).2.2 | (with_reducible refine Kd.C_alloc ?_ _) | (with_reducible refine Kd.C_drewN ?_ _) | (with_reducible refine Kd.C_drew ?_)))
     (case side2 => exact (Kd.S_reads' HO1213.out).2.1)
     (case side3 => repeat (first | exact (Kd.S_reads' HO1229.out).2.2 | (with_reducible refine Kd.C_alloc ?_ _) | (with_reducible refine Kd.C_drewN ?_ _) | (with_reducible refine Kd.C_drew ?_)))
     (case side4 => exact (Kd.S_reads' HO1229.out).2.1)
     rintro e w' ⟨rfl, ⟨nd, rfl⟩⟩
     refine ⟨_, rfl, ?_⟩
     refine hK.out _ _ (zh BK1207.out (zh BK1217.out (zh2 BK1222.out))) (fun hHeld => ?_)
     clear hK K
     refine zN ?_
     refine zP 10 (some 43) rfl rfl ?_
     refine zP 11 (some 44) rfl rfl ?_
     refine zP 12 (some 45) rfl rfl ?_
     refine zP 14 (some 47) rfl rfl ?_
     refine zP 17 (some 50) rfl rfl ?_
     refine zY6 13 (some 46) rfl rfl hHeld ?_
     refine zY6 16 (some 49) rfl rfl hHeld ?_
     refine zU 15 (some 48) rfl rfl (fun K hK => ?_)
     refine goes_ Try.func55 (by kernel_rfl) rfl #[.agg #[.int .i64 t1214, .string t1215], .int .i64 t1216] (by rfl) rfl rfl zM ?_
     with_reducible refine (impl_IsExtreme.calls k t1214 t1215 t1216 t1231 _ A31.out).mono ?_
     rintro e w72 ⟨rfl, hb⟩
     refine ⟨_, rfl, ?_⟩
     replace HO1210 := zW HO1210.out hb
     replace HO1213 := Aside0.mk (Kd.S_below (by (with_reducible repeat (first | apply Kd.S_alloc | apply Kd.S_drewN | apply Kd.S_drew)); exact HO1213.out) hb)
     replace HO1225 := zW HO1225.out hb
     replace HO1229 := Aside0.mk (Kd.S_below (by (with_reducible repeat (first | apply Kd.S_alloc | apply Kd.S_drewN | apply Kd.S_drew)); exact HO1229.out) hb)
     replace BK1207 := zV BK1207.out hb
     replace BK1217 := zV BK1217.out hb
     replace BK1222 := zV BK1222.out hb
     replace HB := Aside0.mk (below_step (zG3 GE1207.out GE1217.out GE1222.out) hb)
     (try clear hb)
     refine hK.out _ _ (zh BK1207.out (zh BK1217.out (zh2 BK1222.out))) (fun hHeld => ?_)
     clear hK K
     refine zN ?_
     refine zU 18 (some 51) rfl rfl (fun K hK => ?_)
     refine goes_ Try.func56 (by kernel_rfl) rfl #[.agg #[.int .i64 t1214, .string t1215], .int .i64 t1216] (by rfl) rfl rfl zM ?_
     with_reducible refine (spec_IsExtreme.calls k t1214 t1215 t1216 t1232 _ A32.out).mono ?_
     rintro e w73 ⟨rfl, hb⟩
     refine ⟨_, rfl, ?_⟩
     replace HO1210 := zW HO1210.out hb
     replace HO1213 := Aside0.mk (Kd.S_below (by (with_reducible repeat (first | apply Kd.S_alloc | apply Kd.S_drewN | apply Kd.S_drew)); exact HO1213.out) hb)
     replace HO1225 := zW HO1225.out hb
     replace HO1229 := Aside0.mk (Kd.S_below (by (with_reducible repeat (first | apply Kd.S_alloc | apply Kd.S_drewN | apply Kd.S_drew)); exact HO1229.out) hb)
     replace BK1207 := zV BK1207.out hb
     replace BK1217 := zV BK1217.out hb
     replace BK1222 := zV BK1222.out hb
     replace HB := Aside0.mk (below_step (zG3 GE1207.out GE1217.out GE1222.out) hb)
     (try clear hb)
     refine hK.out _ _ (zh BK1207.out (zh BK1217.out (zh2 BK1222.out))) (fun hHeld => ?_)
     clear hK K
     refine zN ?_
     refine zP 19 (some 52) rfl rfl ?_
     refine zP 20 (some 53) rfl rfl ?_
     refine zP 21 (some 54) rfl rfl ?_
     refine zP 23 (some 56) rfl rfl ?_
     refine zP 24 (some 57) rfl rfl ?_
     refine zP 27 (some 60) rfl rfl ?_
     refine zP 28 (some 61) rfl rfl ?_
     refine zY6 22 (some 55) rfl rfl hHeld ?_
     refine zY6 26 (some 59) rfl rfl hHeld ?_
     refine zU 25 (some 58) rfl rfl (fun K hK => ?_)
     refine goes_ Try.func57 (by kernel_rfl) rfl #[.agg #[.int .i64 t1218, .string t1219], .int .i64 t1220, .int .i64 t1221] (by rfl) rfl rfl zM ?_
     with_reducible refine (impl_InHull.calls k t1218 t1219 t1220 t1221 t1233 _ A44.out).mono ?_
     rintro e w74 ⟨rfl, hb⟩
     refine ⟨_, rfl, ?_⟩
     replace HO1210 := zW HO1210.out hb
     replace HO1213 := Aside0.mk (Kd.S_below (by (with_reducible repeat (first | apply Kd.S_alloc | apply Kd.S_drewN | apply Kd.S_drew)); exact HO1213.out) hb)
     replace HO1225 := zW HO1225.out hb
     replace HO1229 := Aside0.mk (Kd.S_below (by (with_reducible repeat (first | apply Kd.S_alloc | apply Kd.S_drewN | apply Kd.S_drew)); exact HO1229.out) hb)
     replace BK1207 := zV BK1207.out hb
     replace BK1217 := zV BK1217.out hb
     replace BK1222 := zV BK1222.out hb
     replace HB := Aside0.mk (below_step (zG3 GE1207.out GE1217.out GE1222.out) hb)
     (try clear hb)
     refine hK.out _ _ (zh BK1207.out (zh BK1217.out (zh2 BK1222.out))) (fun hHeld => ?_)
     clear hK K
     refine zN ?_
     refine zU 29 (some 62) rfl rfl (fun K hK => ?_)
     refine goes_ Try.func58 (by kernel_rfl) rfl #[.agg #[.int .i64 t1218, .string t1219], .int .i64 t1220, .int .i64 t1221] (by rfl) rfl rfl zM ?_
     with_reducible refine (spec_InHull.calls k t1218 t1219 t1220 t1221 t1234 _ A45.out).mono ?_
     rintro e w75 ⟨rfl, hb⟩
     refine ⟨_, rfl, ?_⟩
     replace HO1210 := zW HO1210.out hb
     replace HO1213 := Aside0.mk (Kd.S_below (by (with_reducible repeat (first | apply Kd.S_alloc | apply Kd.S_drewN | apply Kd.S_drew)); exact HO1213.out) hb)
     replace HO1225 := zW HO1225.out hb
     replace HO1229 := Aside0.mk (Kd.S_below (by (with_reducible repeat (first | apply Kd.S_alloc | apply Kd.S_drewN | apply Kd.S_drew)); exact HO1229.out) hb)
     replace BK1207 := zV BK1207.out hb
     replace BK1217 := zV BK1217.out hb
     replace BK1222 := zV BK1222.out hb
     replace HB := Aside0.mk (below_step (zG3 GE1207.out GE1217.out GE1222.out) hb)
     (try clear hb)
     refine hK.out _ _ (zh BK1207.out (zh BK1217.out (zh2 BK1222.out))) (fun hHeld => ?_)
     clear hK K
     refine zN ?_
     refine zP 30 (some 63) rfl rfl ?_
     refine zP 31 (some 64) rfl rfl ?_
     refine zP 32 (some 65) rfl rfl ?_
     refine zY6 33 (some 66) rfl rfl hHeld ?_
     refine zY6 35 (some 68) rfl rfl hHeld ?_
     refine zU 34 (some 67) rfl rfl (fun K hK => ?_)
     refine goes_ Try.func59 (by kernel_rfl) rfl #[.agg #[.int .i64 t1205, .string t1206]] (by rfl) rfl rfl zM ?_
     with_reducible refine (impl_HullSize.calls k t1205 t1206 t1235 _ A59.out).mono ?_
     rintro e w76 ⟨rfl, hb⟩
     refine ⟨_, rfl, ?_⟩
     replace HO1210 := zW HO1210.out hb
     replace HO1213 := Aside0.mk (Kd.S_below (by (with_reducible repeat (first | apply Kd.S_alloc | apply Kd.S_drewN | apply Kd.S_drew)); exact HO1213.out) hb)
     replace HO1225 := zW HO1225.out hb
     replace HO1229 := Aside0.mk (Kd.S_below (by (with_reducible repeat (first | apply Kd.S_alloc | apply Kd.S_drewN | apply Kd.S_drew)); exact HO1229.out) hb)
     replace BK1207 := zV BK1207.out hb
     replace BK1217 := zV BK1217.out hb
     replace BK1222 := zV BK1222.out hb
     replace HB := Aside0.mk (below_step (zG3 GE1207.out GE1217.out GE1222.out) hb)
     (try clear hb)
     refine hK.out _ _ (zh BK1207.out (zh BK1217.out (zh2 BK1222.out))) (fun hHeld => ?_)
     clear hK K
     refine zN ?_
     refine zU 36 (some 69) rfl rfl (fun K hK => ?_)
     refine goes_ Try.func60 (by kernel_rfl) rfl #[.agg #[.int .i64 t1205, .string t1206]] (by rfl) rfl rfl zM ?_
     with_reducible refine (spec_HullSize.calls k t1205 t1206 t1236 _ A60.out).mono ?_
     rintro e w77 ⟨rfl, hb⟩
     refine ⟨_, rfl, ?_⟩
     replace HO1210 := zW HO1210.out hb
     replace HO1213 := Aside0.mk (Kd.S_below (by (with_reducible repeat (first | apply Kd.S_alloc | apply Kd.S_drewN | apply Kd.S_drew)); exact HO1213.out) hb)
     replace HO1225 := zW HO1225.out hb
     replace HO1229 := Aside0.mk (Kd.S_below (by (with_reducible repeat (first | apply Kd.S_alloc | apply Kd.S_drewN | apply Kd.S_drew)); exact HO1229.out) hb)
     replace BK1207 := zV BK1207.out hb
     replace BK1217 := zV BK1217.out hb
     replace BK1222 := zV BK1222.out hb
     replace HB := Aside0.mk (below_step (zG3 GE1207.out GE1217.out GE1222.out) hb)
     (try clear hb)
     refine hK.out _ _ (zh BK1207.out (zh BK1217.out (zh2 BK1222.out))) (fun hHeld => ?_)
     clear hK K
     refine zN ?_
     refine zP 37 (some 70) rfl rfl ?_
     refine zP 38 (some 71) rfl rfl ?_
     refine zP 39 (some 72) rfl rfl ?_
     refine zY6 40 (some 73) rfl rfl hHeld ?_
     refine zY6 42 (some 75) rfl rfl hHeld ?_
     refine zU 41 (some 74) rfl rfl (fun K hK => ?_)
     refine goes_ Try.func61 (by kernel_rfl) rfl #[.agg #[.int .i64 t1205, .string t1206]] (by rfl) rfl rfl zM ?_
     with_reducible refine (impl_IsConvex.calls k t1205 t1206 t1237 _ A62.out).mono ?_
     rintro e w78 ⟨rfl, hb⟩
     refine ⟨_, rfl, ?_⟩
     replace HO1210 := zW HO1210.out hb
     replace HO1213 := Aside0.mk (Kd.S_below (by (with_reducible repeat (first | apply Kd.S_alloc | apply Kd.S_drewN | apply Kd.S_drew)); exact HO1213.out) hb)
     replace HO1225 := zW HO1225.out hb
     replace HO1229 := Aside0.mk (Kd.S_below (by (with_reducible repeat (first | apply Kd.S_alloc | apply Kd.S_drewN | apply Kd.S_drew)); exact HO1229.out) hb)
     replace BK1207 := zV BK1207.out hb
     replace BK1217 := zV BK1217.out hb
     replace BK1222 := zV BK1222.out hb
     replace HB := Aside0.mk (below_step (zG3 GE1207.out GE1217.out GE1222.out) hb)
     (try clear hb)
     refine hK.out _ _ (zh BK1207.out (zh BK1217.out (zh2 BK1222.out))) (fun hHeld => ?_)
     clear hK K
     refine zN ?_
     refine zU 43 (some 76) rfl rfl (fun K hK => ?_)
     refine goes_ Try.func62 (by kernel_rfl) rfl #[.agg #[.int .i64 t1205, .string t1206]] (by rfl) rfl rfl zM ?_
     with_reducible refine (spec_IsConvex.calls k t1205 t1206 t1238 _ A63.out).mono ?_
     rintro e w79 ⟨rfl, hb⟩
     refine ⟨_, rfl, ?_⟩
     replace HO1210 := zW HO1210.out hb
     replace HO1213 := Aside0.mk (Kd.S_below (by (with_reducible repeat (first | apply Kd.S_alloc | apply Kd.S_drewN | apply Kd.S_drew)); exact HO1213.out) hb)
     replace HO1225 := zW HO1225.out hb
     replace HO1229 := Aside0.mk (Kd.S_below (by (with_reducible repeat (first | apply Kd.S_alloc | apply Kd.S_drewN | apply Kd.S_drew)); exact HO1229.out) hb)
     replace BK1207 := zV BK1207.out hb
     replace BK1217 := zV BK1217.out hb
     replace BK1222 := zV BK1222.out hb
     replace HB := Aside0.mk (below_step (zG3 GE1207.out GE1217.out GE1222.out) hb)
     (try clear hb)
     refine hK.out _ _ (zh BK1207.out (zh BK1217.out (zh2 BK1222.out))) (fun hHeld => ?_)
     clear hK K
     refine zN ?_
     refine zP 44 (some 77) rfl rfl ?_
     refine zP 45 (some 78) rfl rfl ?_
     refine done_ (done_of HT_.out (by kernel_rfl)) ?_
     try go_wp2
     go_meet
     case rel => exact ⟨_, ((t1237 != t1238)), zF, H', ⟨by first | omega | exact Nat.le_refl _⟩, ⟨by (with_reducible repeat (first | apply Kd.R_alloc | apply Kd.R_drewN | apply Kd.R_drew)); exact Kd.R_mono HO1210.out (fun _ hk => trivial)⟩, ⟨by (with_reducible repeat (first | apply Kd.S_alloc | apply Kd.S_drewN | apply Kd.S_drew)); exact Kd.S_mono HO1213.out (fun _ hk => hk.1.1)⟩, ⟨zK BK1207.out⟩, ⟨zK BK1217.out⟩, ⟨zK BK1222.out⟩, ⟨zG3 GE1207.out GE1217.out GE1222.out⟩⟩
    rw [if_neg c61] at H
    exact absurd H (laws_FnHulls.j0_no _ _ _ _ _ _ _ _ _ _ hr_)
   replace c30 := Bool.eq_false_iff.mpr c30
   subst c30
   have H1 : (laws_FnHulls.j0 k t1208 t1211 t1220 t1221 true t1205 t1206 t1218 t1219) = some r := by rw [if_neg (show ¬ (false = true) by decide)] at H; exact H
   exact absurd H1 (laws_FnHulls.j0_no _ _ _ _ _ _ _ _ _ _ hr_)
  replace c27 := Bool.eq_false_iff.mpr c27
  subst c27
  have H1 : (laws_FnHulls.j0 k t1208 t1211 t1220 t1221 true t1205 t1206 t1218 t1219) = some r := by rw [if_neg (show ¬ (false = true) by decide)] at H; exact H
  exact absurd H1 (laws_FnHulls.j0_no _ _ _ _ _ _ _ _ _ _ hr_)
 case rest => as_aux_lemma =>
 clear HC9
 try clear c3
 obtain ⟨kq, x78_8, rfl, HA, HJ8, HO_4, HO_5, BK1207, BK1217, BK1222, HB⟩ := hcut
 cases kq with
 | zero => exact absurd HA.out (by simp [laws_FnHulls.j0])
 | succ kj8 =>
 have H := HA.out
 clear HA
 simp only [laws_FnHulls.j0] at H
 by_cases c107 : x78_8 = true
 ·subst c107
  replace H := (if_pos rfl).symm.trans H
  obtain rfl := Option.some.inj H
  cases hr_
 replace c107 := Bool.eq_false_iff.mpr c107
 subst c107
 replace H := (if_neg zFf).symm.trans H
 obtain ⟨t1239, A108, H⟩ := zO H
 by_cases c109 : t1239 = true
 ·subst c109
  replace H := (if_pos rfl).symm.trans H
  have HC110 := Aside0.mk H
  clear H
  have hnb111 := NB1207_1217.out
  have hnc111 := NB1217_1207.out
  have hnb112 := NB1207_1222.out
  have hnc112 := NB1222_1207.out
  obtain ⟨hcz113_0, hcz113_1, hfz113_0, hfz113_1⟩ := zq2 BK1207.out
  go_upto_region 12 with (first | ((with_reducible refine gate_callee (f := 24) rfl ?_); refine zD (some 80) Try.func24 #[.agg #[.int .i64 t1205, .string t1206]] ?_; (with_reducible refine (spec_IsAcyclic.calls kj8 t1205 t1206 true _ A108.out).mono ?_); rintro e w114 ⟨rfl, hb⟩; refine ⟨_, rfl, ?_⟩; replace HO_4 := zW HO_4.out hb; replace HO_5 := Aside0.mk (Kd.S_below (by (with_reducible repeat (first | apply Kd.S_alloc | apply Kd.S_drewN | apply Kd.S_drew)); exact HO_5.out) hb); replace BK1207 := zV BK1207.out hb; replace BK1217 := zV BK1217.out hb; replace BK1222 := zV BK1222.out hb; replace HB := Aside0.mk (below_step (zG3 GE1207.out GE1217.out GE1222.out) hb); (try clear hb)))
  (try simp only [Act.put, List.setIfInBounds_toArray, List.set_cons_zero, List.set_cons_succ])
  go_cut [128] (fun v128 wc => ∃ (kq : Nat) (x128_109 : Bool), v128 = .bool x128_109 ∧ Aside0 (laws_FnHulls.j1 kq t1208 t1211 t1220 t1221 x128_109 t1205 t1206 t1218 t1219 = some r) ∧ Aside0 (kq ≤ kj8) ∧ Aside0 (Kd.R (Kd.int .i64) 3 wc w.heap.size (fun _ => True) v1209 t1208) ∧ Aside0 (Kd.S (Kd.slice 3 (Kd.int .i64)) 27 wc w.heap.size (fun k_ => some k_ ≠ (v1209 : Value).ownBlock) v1212 t1211) ∧ Aside0 (wc.heap[gb1207]? = some (.cells #[.int .i64 t1205, .string t1206] 25 (0, 0))) ∧ Aside0 (wc.heap[gb1217]? = some (.cells #[.int .i64 t1214, .string t1215] 25 (0, 0))) ∧ Aside0 (wc.heap[gb1222]? = some (.cells #[.int .i64 t1218, .string t1219] 25 (0, 0))) ∧ Aside0 (Below w.heap.size w wc))
  case first => as_aux_lemma =>
   have H := HC110.out
   clear HC110
   by_cases c115 : (t1208.length : Int) < 3
   ·rw [if_pos c115] at H
    exact absurd H (laws_FnHulls.j1_no _ _ _ _ _ _ _ _ _ _ hr_)
   rw [if_neg c115] at H
   have c115b0 := decide_eq_false c115
   have c115b1 : decide (t1208.length < 3) = false := decide_eq_false (by omega)
   clear c115
   (first | rw [c115b0] | (simp only [i64_w, i32_w]; rw [c115b0]) | skip)
   obtain ⟨t1241, A118, H⟩ := zO H
   by_cases c119 : (t1208.length : Int) = t1241
   ·rw [if_pos c119] at H
    have c119b0 := beq_iff_eq.mpr c119
    have c119b1 := bne_eq_false_iff_eq.mpr c119
    clear c119
    by_cases c120 : (t1211.length : Int) = 0
    ·rw [if_pos c120] at H
     exact absurd H (laws_FnHulls.j1_no _ _ _ _ _ _ _ _ _ _ hr_)
    rw [if_neg c120] at H
    have c120b0 := beq_eq_false_iff_ne.mpr c120
    have c120b1 := bne_iff_ne.mpr c120
    have c120b2 : ¬ (t1211 = []) := fun h_ => c120 (by rw [h_]; rfl)
    by_cases c125 : 0 < (t1211.length : Int)
    ·rw [if_pos c125] at H
     have c125b0 := decide_eq_true c125
     have c125b1 : decide (0 < t1211.length) = true := decide_eq_true (by omega)
     clear c125
     by_cases c126 : ((rd_L6 t1211 0).length : Int) = (t1208.length : Int)
     ·rw [if_pos c126] at H
      have c126b0 := beq_iff_eq.mpr c126
      have c126b1 := bne_eq_false_iff_eq.mpr c126
      have c126b2 : ((rd_L6 t1211 0).length == t1208.length) = true := by first | simpa using c126 | (simp at c126 ⊢; omega)
      clear c126
      obtain ⟨t1243, A127, H⟩ := zO H
      have H' := Aside0.mk H; clear H
      try go_wp2
      replace HO_4 := Aside0.mk (Kd.R_drew HO_4.out)
      replace HO_5 := Aside0.mk (Kd.S_drew HO_5.out)
      replace BK1207 := Aside0.mk (blk_drew BK1207.out)
      replace BK1217 := Aside0.mk (blk_drew BK1217.out)
      replace BK1222 := Aside0.mk (blk_drew BK1222.out)
      replace HB := Aside0.mk (below_drew1 HB.out)
      obtain ⟨Ao129, co129, eo129⟩ := Kd.R_slice HO_4.out
      (first | subst eo129 | (injection eo129 with f1_ f2_ f3_; have f4_ := f1_.symm; have f5_ := f3_.symm; clear f1_ f2_ f3_; subst f4_; subst f5_))
      have p1242 : 0 ≤ (0 : Int) := (by omega)
      have q1242 : 0 < (t1211.length : Int) := zA
      obtain ⟨Aoz_, coz_, eoz_⟩ := Kd.S_slice HO_5.out
      subst eoz_
      obtain ⟨ad1242, A1242_0, c1242_0, e1242, hx1242_0, hl1242_0, hi1242_0⟩ := at_L6 (Kd.S_reads' HO_5.out).2.2 0 p1242 q1242
      cases e1242
      obtain ⟨ce1242, hce1242, hMe1242, hcc1242⟩ := Kd.S_get HO_5.out [] 0 p1242 (by first | exact q1242 | exact zA | (have e_ := (Kd.S_reads' HO_5.out).1; omega))
      obtain ⟨ve1242_0, rfl, ge1242_0⟩ := hMe1242
      have hv1242_0 := hcc1242 0 _ rfl
      rw [Nat.add_zero, show ((Kd.slice 3 (Kd.int .i64))).sz = 1 from rfl, Nat.mul_one] at hv1242_0
      replace hv1242_0 := Option.some.inj (hv1242_0.symm.trans hx1242_0)
      rw [hv1242_0] at ge1242_0
      have HL1242_0 := Aside0.mk (show Kd.R (Kd.int .i64) 3 _ _ _ _ (rd_L6 t1211 0) from ge1242_0)
      clear hv1242_0 ge1242_0
      clear hcc1242 hce1242
      have qi1242 : (0 < t1211.length) = True := eq_true (by omega)
      (try rw [show ((0 : Int)).toNat = 0 from rfl] at hx1242_0)
      (try rw [Addr.add_zero'] at hx1242_0)
      have HR1242_0 := Aside0.mk hi1242_0
      have HC1242_0 := Aside0.mk hl1242_0
      clear hi1242_0 hl1242_0
      replace p1242 := eq_true p1242
      replace q1242 := eq_true q1242
      refine start_ (n := 34) (S := fun w' => w'.cell? ⟨gb1207, 0, none⟩ = some (.int .i64 t1205) ∧ w'.cell? ⟨gb1207, 1, none⟩ = some (.string t1206) ∧ w'.cell? ad1242 = some (.slice A1242_0 (rd_L6 t1211 0).length c1242_0)) (ds := []) #[false, false, false, false, false, false, false, false, false, false, false, false, false, false, false, false, false, false, false, false, false, false, false, false, false, false, false, false, false, false, false, false, false, false] (by kernel_rfl) rfl rfl ⟨(blk_cell BK1207.out 0).trans rfl, (blk_cell BK1207.out 1).trans rfl, hx1242_0⟩ (fun hHeld => ?_); refine with_tabW laws_FnHulls.tab12 laws_FnHulls.bits12 (fun HT_ HW_ => ?_)
      generalize w114.drew = w128 at HO_4 HO_5 BK1207 BK1217 BK1222 HB HL1242_0 HR1242_0 hx1242_0 hHeld ⊢
      refine zP 0 (some 95) rfl rfl ?_
      refine zP 1 (some 96) rfl rfl ?_
      refine zP 2 (some 97) rfl rfl ?_
      refine zP 3 (some 98) rfl rfl ?_
      refine zP 4 (some 99) rfl rfl ?_
      refine zP 5 (some 100) rfl rfl ?_
      refine zY3 6 (some 101) rfl rfl hHeld ?_
      refine zU 7 (some 102) rfl rfl (fun K hK => ?_)
      refine goes_ Try.func59 (by kernel_rfl) rfl #[.agg #[.int .i64 t1205, .string t1206]] (by rfl) rfl rfl zM ?_
      with_reducible refine (impl_HullSize.calls kj8 t1205 t1206 t1241 _ A118.out).mono ?_
      rintro e w130 ⟨rfl, hb⟩
      have HS2_ := (hb.cell (World.block_lt_of_cell? _ _ (hHeld.2.2))).trans (hHeld.2.2)
      refine ⟨_, rfl, ?_⟩
      have n0_ := zW HO_4.out hb
      have n1_ := Aside0.mk (Kd.S_below (by (with_reducible repeat (first | apply Kd.S_alloc | apply Kd.S_drewN | apply Kd.S_drew)); exact HO_5.out) hb)
      have n2_ := zV BK1207.out hb
      have n3_ := zV BK1217.out hb
      have n4_ := zV BK1222.out hb
      have n5_ := Aside0.mk (below_step (zG3 GE1207.out GE1217.out GE1222.out) hb)
      clear HO_4
      clear HO_5
      clear BK1207
      clear BK1217
      clear BK1222
      clear HB
      have HO_4 := n0_
      have HO_5 := n1_
      have BK1207 := n2_
      have BK1217 := n3_
      have BK1222 := n4_
      have HB := n5_
      (try clear n0_)
      (try clear n1_)
      (try clear n2_)
      (try clear n3_)
      (try clear n4_)
      (try clear n5_)
      (try clear hb)
      obtain ⟨Ao131, co131, eo131⟩ := Kd.S_slice HO_5.out
      (first | subst eo131 | (injection eo131 with f1_ f2_ f3_; have f4_ := f1_.symm; have f5_ := f3_.symm; clear f1_ f2_ f3_; subst f4_; subst f5_))
      refine hK.out _ _ ⟨(blk_cell BK1207.out 0).trans rfl, (blk_cell BK1207.out 1).trans rfl, HS2_⟩ (fun hHeld => ?_)
      clear hK K
      refine zN ?_
      refine zP 8 (some 103) rfl rfl ?_
      refine zP 9 (some 104) rfl rfl ?_
      refine zP 10 (some 105) rfl rfl ?_
      refine zP 11 (some 106) rfl rfl ?_
      refine zP 12 (some 107) rfl rfl ?_
      refine zP 13 (some 108) rfl rfl ?_
      refine zP 14 (some 109) rfl rfl ?_
      refine zP 15 (some 110) rfl rfl ?_
      refine zP 16 (some 111) rfl rfl ?_
      refine zP 17 (some 112) rfl rfl ?_
      refine zP 20 (some 115) rfl rfl ?_
      refine zP 21 (some 116) rfl rfl ?_
      refine zY3 18 (some 113) rfl rfl hHeld ?_
      refine zP 19 (some 114) rfl rfl ?_
      refine zP 22 (some 117) rfl rfl ?_
      refine zP 23 (some 118) rfl rfl ?_
      refine zP 24 (some 119) rfl rfl ?_
      refine zP 27 (some 122) rfl rfl ?_
      refine zP 28 (some 123) rfl rfl ?_
      refine zP 29 (some 124) rfl rfl ?_
      refine zY3 25 (some 120) rfl rfl hHeld ?_
      refine zY3 30 (some 125) rfl rfl hHeld ?_
      refine zP 31 (some 126) rfl rfl ?_
      refine zU 26 (some 121) rfl rfl (fun K hK => ?_)
      refine goes_ Try.func61 (by kernel_rfl) rfl #[.agg #[.int .i64 t1205, .string t1206]] (by rfl) rfl rfl zM ?_
      with_reducible refine (impl_IsConvex.calls kj8 t1205 t1206 t1243 _ A127.out).mono ?_
      rintro e w132 ⟨rfl, hb⟩
      have HS2_ := (hb.cell (World.block_lt_of_cell? _ _ (hHeld.2.2))).trans (hHeld.2.2)
      refine ⟨_, rfl, ?_⟩
      have n0_ := zW HO_4.out hb
      have n1_ := Aside0.mk (Kd.S_below (by (with_reducible repeat (first | apply Kd.S_alloc | apply Kd.S_drewN | apply Kd.S_drew)); exact HO_5.out) hb)
      have n3_ := zV BK1207.out hb
      have n4_ := zV BK1217.out hb
      have n5_ := zV BK1222.out hb
      have n7_ := Aside0.mk (below_step (zG3 GE1207.out GE1217.out GE1222.out) hb)
      clear HO_4
      clear HO_5
      clear BK1207
      clear BK1217
      clear BK1222
      clear HB
      have HO_4 := n0_
      have HO_5 := n1_
      have BK1207 := n3_
      have BK1217 := n4_
      have BK1222 := n5_
      have HB := n7_
      (try clear n0_)
      (try clear n1_)
      (try clear n2_)
      (try clear n3_)
      (try clear n4_)
      (try clear n5_)
      (try clear n6_)
      (try clear n7_)
      (try clear hb)
      refine hK.out _ _ ⟨(blk_cell BK1207.out 0).trans rfl, (blk_cell BK1207.out 1).trans rfl, HS2_⟩ (fun hHeld => ?_)
      clear hK K
      refine zN ?_
      refine zP 32 (some 127) rfl rfl ?_
      refine zP 33 (some 128) rfl rfl ?_
      refine done_ (done_of HT_.out (by kernel_rfl)) ?_
      try go_wp2
      go_meet
      case rel => exact ⟨_, ((t1243 != ((t1208.length : Int) == t1205))), zF, H', ⟨by have := HJ8.out; first | omega | exact Nat.le_refl _⟩, ⟨zR HO_4.out⟩, ⟨by (with_reducible repeat (first | apply Kd.S_alloc | apply Kd.S_drewN | apply Kd.S_drew)); exact HO_5.out⟩, ⟨zK BK1207.out⟩, ⟨zK BK1217.out⟩, ⟨zK BK1222.out⟩, ⟨zG3 GE1207.out GE1217.out GE1222.out⟩⟩
     rw [if_neg c126] at H
     exact absurd H (laws_FnHulls.j1_no _ _ _ _ _ _ _ _ _ _ hr_)
    rw [if_neg c125] at H
    exact absurd H (by simp)
   rw [if_neg c119] at H
   exact absurd H (laws_FnHulls.j1_no _ _ _ _ _ _ _ _ _ _ hr_)
  case rest => as_aux_lemma =>
  clear HC110
  obtain ⟨kq, x128_109, rfl, HA, HJ109, HO_4, HO_5, BK1207, BK1217, BK1222, HB⟩ := hcut
  cases kq with
  | zero => exact absurd HA.out (by simp [laws_FnHulls.j1])
  | succ kj109 =>
  have H := HA.out
  clear HA
  simp only [laws_FnHulls.j1] at H
  by_cases c140 : x128_109 = true
  ·subst c140
   replace H := (if_pos rfl).symm.trans H
   obtain rfl := Option.some.inj H
   cases hr_
  replace c140 := Bool.eq_false_iff.mpr c140
  subst c140
  replace H := (if_neg zFf).symm.trans H
  have H' := Aside0.mk H; clear H
  go_wp2
  go_loopg [11] kj109 (fun kq v11 w' => ∃ (x11_3 : Int), v11 = .int .i64 x11_3 ∧ Aside0 (laws_FnHulls.l0 kq t1208 t1211 t1220 t1221 x11_3 t1205 t1206 t1218 t1219 = some r) ∧ Aside0 (kq ≤ kj109) ∧ Aside0 (Kd.R (Kd.int .i64) 3 w' w.heap.size (fun _ => True) v1209 t1208) ∧ Aside0 (Kd.S (Kd.slice 3 (Kd.int .i64)) 27 w' w.heap.size (fun k_ => some k_ ≠ (v1209 : Value).ownBlock) v1212 t1211) ∧ Aside0 (w'.heap[gb1207]? = some (.cells #[.int .i64 t1205, .string t1206] 25 (0, 0))) ∧ Aside0 (w'.heap[gb1217]? = some (.cells #[.int .i64 t1214, .string t1215] 25 (0, 0))) ∧ Aside0 (w'.heap[gb1222]? = some (.cells #[.int .i64 t1218, .string t1219] 25 (0, 0))) ∧ Aside0 (Below w.heap.size w w'))
  case atStart => exact ⟨(0), zF, H', ⟨Nat.le_refl _⟩, ⟨zR HO_4.out⟩, ⟨by (with_reducible repeat (first | apply Kd.S_alloc | apply Kd.S_drewN | apply Kd.S_drew)); exact HO_5.out⟩, ⟨zK BK1207.out⟩, ⟨zK BK1217.out⟩, ⟨zK BK1222.out⟩, ⟨zG3 GE1207.out GE1217.out GE1222.out⟩⟩
  case round =>
  clear H'
  try clear c140
  obtain ⟨x11_3, rfl, HA, HK3, HO_4, HO_5, BK1207, BK1217, BK1222, HB⟩ := hrel
  cases gk with
  | zero => exact absurd HA.out (by simp [laws_FnHulls.l0])
  | succ k3 =>
  have H := HA.out
  clear HA
  simp only [laws_FnHulls.l0] at H
  by_cases c141 : x11_3 < (t1208.length : Int)
  ·rw [if_pos c141] at H
   have c141b0 := decide_eq_true c141
   clear c141
   by_cases c142 : 0 ≤ x11_3
   ·rw [if_pos c142] at H
    have c142b0 := decide_eq_true c142
    clear c142
    obtain ⟨t1245, A143, H⟩ := zO H
    by_cases c144 : t1245 = true
    ·subst c144
     replace H := (if_pos rfl).symm.trans H
     by_cases c145 : (t1208.length : Int) = 0
     ·rw [if_pos c145] at H
      exact absurd H (by simp)
     rw [if_neg c145] at H
     have c145b0 := beq_eq_false_iff_ne.mpr c145
     have c145b1 := bne_iff_ne.mpr c145
     have c145b2 : ¬ (t1208 = []) := fun h_ => c145 (by rw [h_]; rfl)
     obtain ⟨ji146, hji146⟩ : ∃ j_ : Int, (Int.tmod (wrap64 (x11_3 + 1)) (t1208.length : Int)) = j_ := ⟨_, rfl⟩
     replace H : (if 0 ≤ (ji146) then (if (ji146) < (t1208.length : Int) then ((spec_LeftCount.f k3 t1205 t1206 (rd t1208 x11_3) (rd t1208 (ji146))).bind fun t1248 => (if t1248 = (wrap64 (t1205 - 2)) then (if 0 < (t1208.length : Int) then (if (rd t1208 x11_3) < (rd t1208 0) then (some false) else (laws_FnHulls.l0 k3 t1208 t1211 t1220 t1221 (wrap64 (x11_3 + 1)) t1205 t1206 t1218 t1219)) else (none)) else (some false))) else (none)) else (none)) = some r := by first | (rw [hji146] at H; exact H) | (simp only [hji146] at H ⊢; exact H)
     (try rw [hji146] at A143)
     by_cases c147 : 0 ≤ (ji146)
     ·rw [if_pos c147] at H
      have c147b0 := decide_eq_true c147
      clear c147
      by_cases c148 : (ji146) < (t1208.length : Int)
      ·rw [if_pos c148] at H
       have c148b0 := decide_eq_true c148
       clear c148
       obtain ⟨t1248, A149, H⟩ := zO H
       by_cases c150 : t1248 = (wrap64 (t1205 - 2))
       ·rw [if_pos c150] at H
        have c150b0 := beq_iff_eq.mpr c150
        have c150b1 := bne_eq_false_iff_eq.mpr c150
        clear c150
        by_cases c151 : 0 < (t1208.length : Int)
        ·rw [if_pos c151] at H
         have c151b0 := decide_eq_true c151
         have c151b1 : decide (0 < t1208.length) = true := decide_eq_true (by omega)
         clear c151
         by_cases c152 : (rd t1208 x11_3) < (rd t1208 0)
         ·rw [if_pos c152] at H
          have c152b0 := decide_eq_true c152
          clear c152
          obtain rfl := Option.some.inj H
          cases hr_
         rw [if_neg c152] at H
         have c152b0 := decide_eq_false c152
         clear c152
         have H' := Aside0.mk H; clear H
         obtain ⟨Ao157, co157, eo157⟩ := Kd.R_slice HO_4.out
         subst eo157
         try go_wp2
         have n0_ := Aside0.mk (Kd.R_drew HO_4.out)
         have n1_ := Aside0.mk (Kd.S_drew HO_5.out)
         have n2_ := Aside0.mk (blk_drew BK1207.out)
         have n3_ := Aside0.mk (blk_drew BK1217.out)
         have n4_ := Aside0.mk (blk_drew BK1222.out)
         have n5_ := Aside0.mk (below_drew1 HB.out)
         clear HO_4
         clear HO_5
         clear BK1207
         clear BK1217
         clear BK1222
         clear HB
         have HO_4 := n0_
         have HO_5 := n1_
         have BK1207 := n2_
         have BK1217 := n3_
         have BK1222 := n4_
         have HB := n5_
         (try clear n0_)
         (try clear n1_)
         (try clear n2_)
         (try clear n3_)
         (try clear n4_)
         (try clear n5_)
         have p1244 : 0 ≤ (x11_3 : Int) := zA
         have q1244 : x11_3 < (t1208.length : Int) := zA
         obtain ⟨ad1244, e1244, hx1244_0⟩ := Kd.at_int (Kd.R_reads' HO_4.out).2.2 x11_3 p1244 q1244
         cases e1244
         replace p1244 := eq_true p1244
         replace q1244 := eq_true q1244
         have p1246 : 0 ≤ (x11_3 : Int) := zA
         have q1246 : x11_3 < (t1208.length : Int) := zA
         obtain ⟨ad1246, e1246, hx1246_0⟩ := Kd.at_int (Kd.R_reads' HO_4.out).2.2 x11_3 p1246 q1246
         obtain rfl : ad1244 = ad1246 := (by injection e1246)
         replace p1246 := eq_true p1246
         replace q1246 := eq_true q1246
         have p1247 : 0 ≤ ((ji146) : Int) := zA
         have q1247 : (ji146) < (t1208.length : Int) := zA
         obtain ⟨ad1247, e1247, hx1247_0⟩ := Kd.at_int (Kd.R_reads' HO_4.out).2.2 (ji146) p1247 q1247
         obtain rfl : ad1244 = ad1247 := (by injection e1247)
         replace p1247 := eq_true p1247
         replace q1247 := eq_true q1247
         have p1249 : 0 ≤ (x11_3 : Int) := zA
         have q1249 : x11_3 < (t1208.length : Int) := zA
         obtain ⟨ad1249, e1249, hx1249_0⟩ := Kd.at_int (Kd.R_reads' HO_4.out).2.2 x11_3 p1249 q1249
         obtain rfl : ad1244 = ad1249 := (by injection e1249)
         replace p1249 := eq_true p1249
         replace q1249 := eq_true q1249
         have p1250 : 0 ≤ (0 : Int) := (by omega)
         have q1250 : 0 < (t1208.length : Int) := zA
         obtain ⟨ad1250, e1250, hx1250_0⟩ := Kd.at_int (Kd.R_reads' HO_4.out).2.2 0 p1250 q1250
         obtain rfl : ad1244 = ad1250 := (by injection e1250)
         have qi1250 : (0 < t1208.length) = True := eq_true (by omega)
         (try rw [show ((0 : Int)).toNat = 0 from rfl] at hx1250_0)
         (try rw [Addr.add_zero'] at hx1250_0)
         replace p1250 := eq_true p1250
         replace q1250 := eq_true q1250
         refine start_ (n := 37) (S := fun w' => w'.cell? ⟨gb1207, 0, none⟩ = some (.int .i64 t1205) ∧ w'.cell? ⟨gb1207, 1, none⟩ = some (.string t1206) ∧ w'.cell? (ad1244.add (x11_3).toNat) = some (.int .i64 (rd t1208 x11_3)) ∧ w'.cell? (ad1244.add (x11_3).toNat) = some (.int .i64 (rd t1208 x11_3)) ∧ w'.cell? (ad1244.add ((ji146)).toNat) = some (.int .i64 (rd t1208 (ji146))) ∧ w'.cell? (ad1244.add (x11_3).toNat) = some (.int .i64 (rd t1208 x11_3)) ∧ w'.cell? ad1244 = some (.int .i64 (rd t1208 0))) (ds := []) #[false, false, false, false, false, false, false, false, false, false, false, false, false, false, false, false, false, false, false, false, false, false, false, false, false, false, false, false, false, false, false, false, false, false, false, false, false] (by kernel_rfl) rfl rfl ⟨(blk_cell BK1207.out 0).trans rfl, (blk_cell BK1207.out 1).trans rfl, hx1244_0, hx1246_0, hx1247_0, hx1249_0, hx1250_0⟩ (fun hHeld => ?_); refine with_tabW laws_FnHulls.tab17 laws_FnHulls.bits17 (fun HT_ HW_ => ?_)
         generalize wr.drew = w158 at HO_4 HO_5 BK1207 BK1217 BK1222 HB hx1244_0 hx1246_0 hx1247_0 hx1249_0 hx1250_0 hHeld ⊢
         refine zP 1 (some 136) rfl rfl ?_
         refine zP 2 (some 137) rfl rfl ?_
         refine zP 3 (some 138) rfl rfl ?_
         refine zY7 0 (some 135) rfl rfl hHeld ?_
         refine zY7 4 (some 139) rfl rfl hHeld ?_
         refine zU 5 (some 140) rfl rfl (fun K hK => ?_)
         refine goes_ Try.func55 (by kernel_rfl) rfl #[.agg #[.int .i64 t1205, .string t1206], .int .i64 (rd t1208 x11_3)] (by rfl) rfl rfl zM ?_
         with_reducible refine (impl_IsExtreme.calls k3 t1205 t1206 (rd t1208 x11_3) true _ A143.out).mono ?_
         rintro e w159 ⟨rfl, hb⟩
         have HS2_ := (hb.cell (World.block_lt_of_cell? _ _ (hHeld.2.2.1))).trans (hHeld.2.2.1)
         have HS3_ := (hb.cell (World.block_lt_of_cell? _ _ (hHeld.2.2.2.1))).trans (hHeld.2.2.2.1)
         have HS4_ := (hb.cell (World.block_lt_of_cell? _ _ (hHeld.2.2.2.2.1))).trans (hHeld.2.2.2.2.1)
         have HS5_ := (hb.cell (World.block_lt_of_cell? _ _ (hHeld.2.2.2.2.2.1))).trans (hHeld.2.2.2.2.2.1)
         have HS6_ := (hb.cell (World.block_lt_of_cell? _ _ (hHeld.2.2.2.2.2.2))).trans (hHeld.2.2.2.2.2.2)
         refine ⟨_, rfl, ?_⟩
         have n0_ := zW HO_4.out hb
         have n1_ := Aside0.mk (Kd.S_below (by (with_reducible repeat (first | apply Kd.S_alloc | apply Kd.S_drewN | apply Kd.S_drew)); exact HO_5.out) hb)
         have n2_ := zV BK1207.out hb
         have n3_ := zV BK1217.out hb
         have n4_ := zV BK1222.out hb
         have n5_ := Aside0.mk (below_step (zG3 GE1207.out GE1217.out GE1222.out) hb)
         clear HO_4
         clear HO_5
         clear BK1207
         clear BK1217
         clear BK1222
         clear HB
         have HO_4 := n0_
         have HO_5 := n1_
         have BK1207 := n2_
         have BK1217 := n3_
         have BK1222 := n4_
         have HB := n5_
         (try clear n0_)
         (try clear n1_)
         (try clear n2_)
         (try clear n3_)
         (try clear n4_)
         (try clear n5_)
         (try clear hb)
         refine hK.out _ _ ⟨(blk_cell BK1207.out 0).trans rfl, (blk_cell BK1207.out 1).trans rfl, HS2_, HS3_, HS4_, HS5_, HS6_⟩ (fun hHeld => ?_)
         clear hK K
         refine zN ?_
         refine zP 6 (some 141) rfl rfl ?_
         refine zP 7 (some 142) rfl rfl ?_
         refine zP 9 (some 144) rfl rfl ?_
         refine zP 10 (some 145) rfl rfl ?_
         refine zP 11 (some 146) rfl rfl ?_
         refine zP 13 (some 148) rfl rfl ?_
         refine zP 14 (some 149) rfl rfl ?_
         refine zP 15 (some 150) rfl rfl ?_
         refine zP 16 (some 151) rfl rfl ?_
         refine zP 17 (some 152) rfl rfl ?_
         refine zP 18 (some 153) rfl rfl ?_
         refine zP 19 (some 154) rfl rfl ?_
         refine zP 22 (some 157) rfl rfl ?_
         refine zY7 8 (some 143) rfl rfl hHeld ?_
         refine zY7 12 (some 147) rfl rfl hHeld ?_
         refine zY7 20 (some 155) rfl rfl hHeld ?_
         refine zY7 23 (some 158) rfl rfl hHeld ?_
         refine zP 24 (some 159) rfl rfl ?_
         refine zU 21 (some 156) rfl rfl (fun K hK => ?_)
         refine goes_ Try.func63 (by kernel_rfl) rfl #[.agg #[.int .i64 t1205, .string t1206], .int .i64 (rd t1208 x11_3), .int .i64 (rd t1208 (ji146))] (by rfl) rfl rfl (by (try simp only [List.map_toArray, List.map_cons, List.map_nil]); first | done | (simp only [hji146]; rfl) | rfl | (simp only [List.length_drop, List.length_take]; rfl)) ?_
         with_reducible refine (spec_LeftCount.calls k3 t1205 t1206 (rd t1208 x11_3) (rd t1208 (ji146)) t1248 _ A149.out).mono ?_
         rintro e w160 ⟨rfl, hb⟩
         have HS2_ := (hb.cell (World.block_lt_of_cell? _ _ (hHeld.2.2.1))).trans (hHeld.2.2.1)
         have HS3_ := (hb.cell (World.block_lt_of_cell? _ _ (hHeld.2.2.2.1))).trans (hHeld.2.2.2.1)
         have HS4_ := (hb.cell (World.block_lt_of_cell? _ _ (hHeld.2.2.2.2.1))).trans (hHeld.2.2.2.2.1)
         have HS5_ := (hb.cell (World.block_lt_of_cell? _ _ (hHeld.2.2.2.2.2.1))).trans (hHeld.2.2.2.2.2.1)
         have HS6_ := (hb.cell (World.block_lt_of_cell? _ _ (hHeld.2.2.2.2.2.2))).trans (hHeld.2.2.2.2.2.2)
         refine ⟨_, rfl, ?_⟩
         have n0_ := zW HO_4.out hb
         have n1_ := Aside0.mk (Kd.S_below (by (with_reducible repeat (first | apply Kd.S_alloc | apply Kd.S_drewN | apply Kd.S_drew)); exact HO_5.out) hb)
         have n2_ := zV BK1207.out hb
         have n3_ := zV BK1217.out hb
         have n4_ := zV BK1222.out hb
         have n5_ := Aside0.mk (below_step (zG3 GE1207.out GE1217.out GE1222.out) hb)
         clear HO_4
         clear HO_5
         clear BK1207
         clear BK1217
         clear BK1222
         clear HB
         have HO_4 := n0_
         have HO_5 := n1_
         have BK1207 := n2_
         have BK1217 := n3_
         have BK1222 := n4_
         have HB := n5_
         (try clear n0_)
         (try clear n1_)
         (try clear n2_)
         (try clear n3_)
         (try clear n4_)
         (try clear n5_)
         (try clear hb)
         refine hK.out _ _ ⟨(blk_cell BK1207.out 0).trans rfl, (blk_cell BK1207.out 1).trans rfl, HS2_, HS3_, HS4_, HS5_, HS6_⟩ (fun hHeld => ?_)
         clear hK K
         refine zN ?_
         refine zP 25 (some 160) rfl rfl ?_
         refine zP 26 (some 161) rfl rfl ?_
         refine zP 27 (some 162) rfl rfl ?_
         refine zP 28 (some 163) rfl rfl ?_
         refine zP 29 (some 164) rfl rfl ?_
         refine zP 30 (some 165) rfl rfl ?_
         refine zP 32 (some 167) rfl rfl ?_
         refine zP 33 (some 168) rfl rfl ?_
         refine zY7 31 (some 166) rfl rfl hHeld ?_
         refine zY7 34 (some 169) rfl rfl hHeld ?_
         refine zP 35 (some 170) rfl rfl ?_
         refine zP 36 (some 171) rfl rfl ?_
         refine done_ (done_of HT_.out (by kernel_rfl)) ?_
         try go_wp2
         go_roundg k3
         case measure => have := HJ8.out; have := HJ109.out; have := HK3.out; omega
         case rel => exact ⟨(wrap64 (x11_3 + 1)), zF, H', ⟨by have := HJ8.out; have := HJ109.out; have := HK3.out; omega⟩, ⟨zR HO_4.out⟩, ⟨by (with_reducible repeat (first | apply Kd.S_alloc | apply Kd.S_drewN | apply Kd.S_drew)); exact HO_5.out⟩, ⟨zK BK1207.out⟩, ⟨zK BK1217.out⟩, ⟨zK BK1222.out⟩, ⟨zG3 GE1207.out GE1217.out GE1222.out⟩⟩
        rw [if_neg c151] at H
        exact absurd H (by simp)
       rw [if_neg c150] at H
       have c150b0 := beq_eq_false_iff_ne.mpr c150
       have c150b1 := bne_iff_ne.mpr c150
       obtain rfl := Option.some.inj H
       cases hr_
      rw [if_neg c148] at H
      exact absurd H (by simp)
     rw [if_neg c147] at H
     exact absurd H (by simp)
    replace c144 := Bool.eq_false_iff.mpr c144
    subst c144
    replace H := (if_neg zFf).symm.trans H
    obtain rfl := Option.some.inj H
    cases hr_
   rw [if_neg c142] at H
   exact absurd H (by simp)
  rw [if_neg c141] at H
  have c141b0 := decide_eq_false c141
  clear c141
  have H' := Aside0.mk H; clear H
  obtain ⟨Ao168, co168, eo168⟩ := Kd.R_slice HO_4.out
  subst eo168
  go_wp2
  go_loopg [12, 13] k3 (fun kq v12 v13 w' => ∃ (x12_4 : Int) (x13_4 : Int), v12 = .int .i64 x12_4 ∧ v13 = .int .i64 x13_4 ∧ Aside0 (laws_FnHulls.l1 kq t1211 t1220 t1221 x12_4 x13_4 t1205 t1206 t1218 t1219 = some r) ∧ Aside0 (kq ≤ k3) ∧ Aside0 (Kd.S (Kd.slice 3 (Kd.int .i64)) 27 w' w.heap.size (fun _ => True) v1212 t1211) ∧ Aside0 (w'.heap[gb1207]? = some (.cells #[.int .i64 t1205, .string t1206] 25 (0, 0))) ∧ Aside0 (w'.heap[gb1217]? = some (.cells #[.int .i64 t1214, .string t1215] 25 (0, 0))) ∧ Aside0 (w'.heap[gb1222]? = some (.cells #[.int .i64 t1218, .string t1219] 25 (0, 0))) ∧ Aside0 (Below w.heap.size w w'))
  case atStart => exact ⟨(0), (0), zF, zF, H', ⟨Nat.le_refl _⟩, ⟨by (with_reducible repeat (first | apply Kd.S_alloc | apply Kd.S_drewN | apply Kd.S_drew)); exact Kd.S_mono HO_5.out (fun _ hk => trivial)⟩, ⟨zK BK1207.out⟩, ⟨zK BK1217.out⟩, ⟨zK BK1222.out⟩, ⟨zG3 GE1207.out GE1217.out GE1222.out⟩⟩
  case round =>
  clear H'
  try clear c141
  try clear c141b0
  obtain ⟨x12_4, x13_4, rfl, rfl, HA, HK4, HO_5, BK1207, BK1217, BK1222, HB⟩ := hrel
  cases gk with
  | zero => exact absurd HA.out (by simp [laws_FnHulls.l1])
  | succ k4 =>
  have H := HA.out
  clear HA
  simp only [laws_FnHulls.l1] at H
  by_cases c169 : x13_4 < (t1211.length : Int)
  ·rw [if_pos c169] at H
   have c169b0 := decide_eq_true c169
   clear c169
   by_cases c170 : 0 ≤ x13_4
   ·rw [if_pos c170] at H
    have c170b0 := decide_eq_true c170
    clear c170
    have H' := Aside0.mk H; clear H
    obtain ⟨Ao171, co171, eo171⟩ := Kd.S_slice HO_5.out
    (first | subst eo171 | (injection eo171 with f1_ f2_ f3_; have f4_ := f1_.symm; have f5_ := f3_.symm; clear f1_ f2_ f3_; subst f4_; subst f5_))
    have p1251 : 0 ≤ (x13_4 : Int) := zA
    have q1251 : x13_4 < (t1211.length : Int) := zA
    obtain ⟨ad1251, A1251_0, c1251_0, e1251, hx1251_0, hl1251_0, hi1251_0⟩ := at_L6 (Kd.S_reads' HO_5.out).2.2 x13_4 p1251 q1251
    cases e1251
    obtain ⟨ce1251, hce1251, hMe1251, hcc1251⟩ := Kd.S_get HO_5.out [] x13_4 p1251 (by first | exact q1251 | exact zA | (have e_ := (Kd.S_reads' HO_5.out).1; omega))
    obtain ⟨ve1251_0, rfl, ge1251_0⟩ := hMe1251
    have hv1251_0 := hcc1251 0 _ rfl
    rw [Nat.add_zero, show ((Kd.slice 3 (Kd.int .i64))).sz = 1 from rfl, Nat.mul_one] at hv1251_0
    replace hv1251_0 := Option.some.inj (hv1251_0.symm.trans hx1251_0)
    rw [hv1251_0] at ge1251_0
    have HL1251_0 := Aside0.mk (show Kd.R (Kd.int .i64) 3 _ _ _ _ (rd_L6 t1211 x13_4) from ge1251_0)
    clear hv1251_0 ge1251_0
    clear hcc1251 hce1251
    have HR1251_0 := Aside0.mk hi1251_0
    have HC1251_0 := Aside0.mk hl1251_0
    clear hi1251_0 hl1251_0
    replace p1251 := eq_true p1251
    replace q1251 := eq_true q1251
    go_wp2
    go_roundg k4
    case measure => have := HJ8.out; have := HJ109.out; have := HK3.out; have := HK4.out; omega
    case rel => exact ⟨(wrap64 (x12_4 + ((rd_L6 t1211 x13_4).length : Int))), (wrap64 (x13_4 + 1)), zF, zF, H', ⟨by have := HJ8.out; have := HJ109.out; have := HK3.out; have := HK4.out; omega⟩, ⟨by (with_reducible repeat (first | apply Kd.S_alloc | apply Kd.S_drewN | apply Kd.S_drew)); exact HO_5.out⟩, ⟨zK BK1207.out⟩, ⟨zK BK1217.out⟩, ⟨zK BK1222.out⟩, ⟨zG3 GE1207.out GE1217.out GE1222.out⟩⟩
   rw [if_neg c170] at H
   exact absurd H (by simp)
  rw [if_neg c169] at H
  have c169b0 := decide_eq_false c169
  clear c169
  by_cases c172 : x12_4 = t1205
  ·rw [if_pos c172] at H
   have c172b0 := beq_iff_eq.mpr c172
   have c172b1 := bne_eq_false_iff_eq.mpr c172
   clear c172
   obtain ⟨t1252, A173, H⟩ := zO H
   by_cases c174 : t1252 = true
   ·subst c174
    replace H := (if_pos rfl).symm.trans H
    obtain ⟨t1253, A175, H⟩ := zO H
    obtain rfl := Option.some.inj H
    obtain ⟨Ao176, co176, eo176⟩ := Kd.S_slice HO_5.out
    (first | subst eo176 | (injection eo176 with f1_ f2_ f3_; have f4_ := f1_.symm; have f5_ := f3_.symm; clear f1_ f2_ f3_; subst f4_; subst f5_))
    have hnb177 := NB1207_1217.out
    have hnc177 := NB1217_1207.out
    have hnb178 := NB1207_1222.out
    have hnc178 := NB1222_1207.out
    obtain ⟨hcz179_0, hcz179_1, hfz179_0, hfz179_1⟩ := zq2 BK1207.out
    have hnb180 := NB1222_1217.out
    have hnc180 := NB1217_1222.out
    obtain ⟨hcz181_0, hcz181_1, hfz181_0, hfz181_1⟩ := zq2 BK1222.out
    go_wp2_with (first | (go_at_call 57; (with_reducible refine (impl_InHull.calls k4 t1218 t1219 t1220 t1221 true _ A173.out).mono ?_); rintro e w182 ⟨rfl, hb⟩; replace HO_5 := Aside0.mk (Kd.S_below (by (with_reducible repeat (first | apply Kd.S_alloc | apply Kd.S_drewN | apply Kd.S_drew)); exact HO_5.out) hb); replace BK1207 := zV BK1207.out hb; replace BK1217 := zV BK1217.out hb; replace BK1222 := zV BK1222.out hb; replace HB := Aside0.mk (below_step (zG3 GE1207.out GE1217.out GE1222.out) hb); (try clear hb); (try clear hb2); (try clear hk); (try clear hi); obtain ⟨hcz183_0, hcz183_1, hfz183_0, hfz183_1⟩ := zq2 BK1222.out) | (go_at_call 55; (with_reducible refine (impl_IsExtreme.calls k4 t1218 t1219 t1221 t1253 _ A175.out).mono ?_); rintro e w184 ⟨rfl, hb⟩; replace HO_5 := Aside0.mk (Kd.S_below (by (with_reducible repeat (first | apply Kd.S_alloc | apply Kd.S_drewN | apply Kd.S_drew)); exact HO_5.out) hb); replace BK1207 := zV BK1207.out hb; replace BK1217 := zV BK1217.out hb; replace BK1222 := zV BK1222.out hb; replace HB := Aside0.mk (below_step (zG3 GE1207.out GE1217.out GE1222.out) hb); (try clear hb); (try clear hb2); (try clear hk); (try clear hi)))
    go_ret
    exact ⟨zE, zG3 GE1207.out GE1217.out GE1222.out⟩
   replace c174 := Bool.eq_false_iff.mpr c174
   subst c174
   replace H := (if_neg zFf).symm.trans H
   obtain rfl := Option.some.inj H
   obtain ⟨Ao185, co185, eo185⟩ := Kd.S_slice HO_5.out
   (first | subst eo185 | (injection eo185 with f1_ f2_ f3_; have f4_ := f1_.symm; have f5_ := f3_.symm; clear f1_ f2_ f3_; subst f4_; subst f5_))
   have hnb186 := NB1207_1217.out
   have hnc186 := NB1217_1207.out
   have hnb187 := NB1207_1222.out
   have hnc187 := NB1222_1207.out
   obtain ⟨hcz188_0, hcz188_1, hfz188_0, hfz188_1⟩ := zq2 BK1207.out
   have hnb189 := NB1222_1217.out
   have hnc189 := NB1217_1222.out
   obtain ⟨hcz190_0, hcz190_1, hfz190_0, hfz190_1⟩ := zq2 BK1222.out
   go_wp2_with (first | (go_at_call 57; (with_reducible refine (impl_InHull.calls k4 t1218 t1219 t1220 t1221 false _ A173.out).mono ?_); rintro e w191 ⟨rfl, hb⟩; replace HO_5 := Aside0.mk (Kd.S_below (by (with_reducible repeat (first | apply Kd.S_alloc | apply Kd.S_drewN | apply Kd.S_drew)); exact HO_5.out) hb); replace BK1207 := zV BK1207.out hb; replace BK1217 := zV BK1217.out hb; replace BK1222 := zV BK1222.out hb; replace HB := Aside0.mk (below_step (zG3 GE1207.out GE1217.out GE1222.out) hb); (try clear hb); (try clear hb2); (try clear hk); (try clear hi)))
   go_ret
   exact ⟨zE, zG3 GE1207.out GE1217.out GE1222.out⟩
  rw [if_neg c172] at H
  have c172b0 := beq_eq_false_iff_ne.mpr c172
  have c172b1 := bne_iff_ne.mpr c172
  obtain rfl := Option.some.inj H
  exact absurd hr_ (by first | decide | (rw [c172b0]; decide) | simp [c172b0])
 replace c109 := Bool.eq_false_iff.mpr c109
 subst c109
 replace H := (if_neg zFf).symm.trans H
 by_cases c196 : (t1208.length : Int) = 0
 ·rw [if_pos c196] at H
  have c196b0 := beq_iff_eq.mpr c196
  have c196b1 := bne_eq_false_iff_eq.mpr c196
  clear c196
  by_cases c197 : (t1211.length : Int) = 0
  ·rw [if_pos c197] at H
   have c197b0 := beq_iff_eq.mpr c197
   have c197b1 := bne_eq_false_iff_eq.mpr c197
   clear c197
   obtain ⟨t1240, A198, H⟩ := zO H
   obtain rfl := Option.some.inj H
   have hnb199 := NB1207_1217.out
   have hnc199 := NB1217_1207.out
   have hnb200 := NB1207_1222.out
   have hnc200 := NB1222_1207.out
   obtain ⟨hcz201_0, hcz201_1, hfz201_0, hfz201_1⟩ := zq2 BK1207.out
   go_wp2_with (first | ((with_reducible refine gate_callee (f := 24) rfl ?_); refine zD (some 80) Try.func24 #[.agg #[.int .i64 t1205, .string t1206]] ?_; (with_reducible refine (spec_IsAcyclic.calls kj8 t1205 t1206 false _ A108.out).mono ?_); rintro e w202 ⟨rfl, hb⟩; refine ⟨_, rfl, ?_⟩; replace HO_4 := zW HO_4.out hb; replace HO_5 := Aside0.mk (Kd.S_below (by (with_reducible repeat (first | apply Kd.S_alloc | apply Kd.S_drewN | apply Kd.S_drew)); exact HO_5.out) hb); replace BK1207 := zV BK1207.out hb; replace BK1217 := zV BK1217.out hb; replace BK1222 := zV BK1222.out hb; replace HB := Aside0.mk (below_step (zG3 GE1207.out GE1217.out GE1222.out) hb); (try clear hb); obtain ⟨Ao203, co203, eo203⟩ := Kd.R_slice HO_4.out; subst eo203; obtain ⟨Ao204, co204, eo204⟩ := Kd.S_slice HO_5.out; subst eo204; obtain ⟨hcz205_0, hcz205_1, hfz205_0, hfz205_1⟩ := zq2 BK1207.out) | (go_at_call 59; (with_reducible refine (impl_HullSize.calls kj8 t1205 t1206 t1240 _ A198.out).mono ?_); rintro e w206 ⟨rfl, hb⟩; replace HO_4 := zW HO_4.out hb; replace HO_5 := Aside0.mk (Kd.S_below (by (with_reducible repeat (first | apply Kd.S_alloc | apply Kd.S_drewN | apply Kd.S_drew)); exact HO_5.out) hb); replace BK1207 := zV BK1207.out hb; replace BK1217 := zV BK1217.out hb; replace BK1222 := zV BK1222.out hb; replace HB := Aside0.mk (below_step (zG3 GE1207.out GE1217.out GE1222.out) hb); (try clear hb); (try clear hb2); (try clear hk); (try clear hi)))
   go_ret
   exact ⟨zE, zG3 GE1207.out GE1217.out GE1222.out⟩
  rw [if_neg c197] at H
  have c197b0 := beq_eq_false_iff_ne.mpr c197
  have c197b1 := bne_iff_ne.mpr c197
  have c197b2 : ¬ (t1211 = []) := fun h_ => c197 (by rw [h_]; rfl)
  obtain rfl := Option.some.inj H
  cases hr_
 rw [if_neg c196] at H
 have c196b0 := beq_eq_false_iff_ne.mpr c196
 have c196b1 := bne_iff_ne.mpr c196
 have c196b2 : ¬ (t1208 = []) := fun h_ => c196 (by rw [h_]; rfl)
 obtain rfl := Option.some.inj H
 cases hr_
/-! ### slices_Index_int_int: function 157 -/
def slices_Index_int_int.l0 : Nat → List Int → Int → Int → Int → Option (Int)
 | 0, _, _, _, _ => none
 | k + 1, x0, x1, x7, x8 => if x8 < x7 then (if 0 ≤ x8 then (if x8 < (x0.length : Int) then (if x1 = (rd x0 x8) then (some x8) else (slices_Index_int_int.l0 k x0 x1 x7 (wrap64 (x8 + 1)))) else (none)) else (none)) else (some (-1))
def slices_Index_int_int.f (k : Nat) (l0 : List Int) (a1 : Int) : Option (Int) := slices_Index_int_int.l0 k l0 a1 (l0.length : Int) 0
theorem slices_Index_int_int.mono_l : ∀ k, (∀ y0 y1 y2 y3, LeO (slices_Index_int_int.l0 k y0 y1 y2 y3) (slices_Index_int_int.l0 (k + 1) y0 y1 y2 y3))
 | 0 => fun _ _ _ _ r h => by simp [slices_Index_int_int.l0] at h
 | k + 1 => by
  have ih0 := slices_Index_int_int.mono_l k
  ·intro y0 y1 y2 y3
   unfold slices_Index_int_int.l0
   repeat' first
   | (with_reducible first | exact ih0 .. | exact LeO.refl _ | exact LeO.none _ | refine LeO.ite ?_ ?_ | refine LeO.bind ?_ (fun _ => ?_))
   | exact ih0 .. | exact LeO.none _ | refine LeO.ite ?_ ?_ | refine LeO.bind ?_ (fun _ => ?_)
theorem slices_Index_int_int.mono : ∀ a0 a1 k, LeO (slices_Index_int_int.f k a0 a1) (slices_Index_int_int.f (k + 1) a0 a1) := by
 intro a0 a1 k
 have ih0 := slices_Index_int_int.mono_l k
 unfold slices_Index_int_int.f
 repeat' first
   | (with_reducible first | exact ih0 .. | exact LeO.refl _ | exact LeO.none _ | refine LeO.ite ?_ ?_ | refine LeO.bind ?_ (fun _ => ?_))
   | exact ih0 .. | exact LeO.none _ | refine LeO.ite ?_ ?_ | refine LeO.bind ?_ (fun _ => ?_)
set_option maxHeartbeats 8000000 in
set_option maxRecDepth 100000 in
theorem slices_Index_int_int.calls (k : Nat) (A0 : Option Addr) (c0 : Nat) (l0 : List Int) (a1 : Int) (r : Int) (w : World) (hr0 : Kd.C (Kd.int .i64) w A0 l0.length l0) (hc0 : l0.length ≤ c0) (h : slices_Index_int_int.f k l0 a1 = some r) :
  Calls Try.prog 157 #[.slice A0 l0.length c0, .int .i64 a1] w fun e w' => e = .returned (.int .i64 r) ∧ Drawn0 w w' := by
 have HR0 := Aside0.mk hr0
 have HC0 := Aside0.mk hc0
 clear hr0 hc0
 have H : (slices_Index_int_int.l0 k l0 a1 (l0.length : Int) 0) = some r := h
 clear h
 have H' := Aside0.mk H; clear H
 go_enter Try.func157, Try.ntmps157
 go_wp2
 go_loopg [8] k (fun kq v8 w' => ∃ (x8_1 : Int), v8 = .int .i64 x8_1 ∧ Aside0 (slices_Index_int_int.l0 kq l0 a1 (l0.length : Int) x8_1 = some r) ∧ Aside0 (kq ≤ k) ∧ Drawn0 w w')
 case atStart => exact ⟨(0), zF, H', ⟨Nat.le_refl _⟩, by repeat (first | exact Drawn0.refl _ | apply Drawn0.step)⟩
 case round =>
 clear H'
 obtain ⟨x8_1, rfl, HA, HK1, ⟨m1, rfl⟩⟩ := hrel
 cases gk with
 | zero => exact absurd HA.out (by simp [slices_Index_int_int.l0])
 | succ k1 =>
 have H := HA.out
 clear HA
 simp only [slices_Index_int_int.l0] at H
 by_cases c3 : x8_1 < (l0.length : Int)
 ·rw [if_pos c3] at H
  have c3b0 := decide_eq_true c3
  clear c3
  by_cases c4 : 0 ≤ x8_1
  ·rw [if_pos c4] at H
   have c4b0 := decide_eq_true c4
   clear c4
   by_cases c5 : x8_1 < (l0.length : Int)
   ·rw [if_pos c5] at H
    have c5b0 := decide_eq_true c5
    clear c5
    by_cases c6 : a1 = (rd l0 x8_1)
    ·rw [if_pos c6] at H
     have c6b0 := beq_iff_eq.mpr c6
     have c6b1 := bne_eq_false_iff_eq.mpr c6
     clear c6
     obtain rfl := Option.some.inj H
     have p510 : 0 ≤ (x8_1 : Int) := zA
     have q510 : x8_1 < (l0.length : Int) := zA
     obtain ⟨ad510, e510, hx510_0⟩ := Kd.at_int HR0.out x8_1 p510 q510
     cases e510
     replace p510 := eq_true p510
     replace q510 := eq_true q510
     go_wp2
     go_ret
     exact ⟨by first | rfl | (simp; done) | (simp [*]; done), by repeat (first | exact Drawn0.refl _ | apply Drawn0.step)⟩
    rw [if_neg c6] at H
    have c6b0 := beq_eq_false_iff_ne.mpr c6
    have c6b1 := bne_iff_ne.mpr c6
    have H' := Aside0.mk H; clear H
    have p510 : 0 ≤ (x8_1 : Int) := zA
    have q510 : x8_1 < (l0.length : Int) := zA
    obtain ⟨ad510, e510, hx510_0⟩ := Kd.at_int HR0.out x8_1 p510 q510
    cases e510
    replace p510 := eq_true p510
    replace q510 := eq_true q510
    go_wp2
    go_roundg k1
    case measure => have := HK1.out; omega
    case rel => exact ⟨(wrap64 (x8_1 + 1)), zF, H', ⟨by have := HK1.out; omega⟩, by repeat (first | exact Drawn0.refl _ | apply Drawn0.step)⟩
   rw [if_neg c5] at H
   exact absurd H (by simp)
  rw [if_neg c4] at H
  exact absurd H (by simp)
 rw [if_neg c3] at H
 have c3b0 := decide_eq_false c3
 clear c3
 obtain rfl := Option.some.inj H
 go_wp2
 go_ret
 exact ⟨by first | rfl | (simp; done) | (simp [*]; done), by repeat (first | exact Drawn0.refl _ | apply Drawn0.step)⟩
/-! ### slices_Contains_int_int: function 146 -/
def slices_Contains_int_int.f (k : Nat) (l0 : List Int) (a1 : Int) : Option (Bool) := (slices_Index_int_int.f k l0 a1).bind fun t511 => (some (decide (t511 ≥ 0)))
theorem slices_Contains_int_int.mono : ∀ a0 a1 k, LeO (slices_Contains_int_int.f k a0 a1) (slices_Contains_int_int.f (k + 1) a0 a1) := by
 intro a0 a1 k
 unfold slices_Contains_int_int.f
 repeat' first
   | (with_reducible exact slices_Index_int_int.mono _ _ _)
   | (with_reducible exact LeO.refl _)
   | (with_reducible exact LeO.none _)
   | (with_reducible refine LeO.ite ?_ ?_)
   | (with_reducible refine LeO.bind ?_ (fun _ => ?_))
   | exact slices_Index_int_int.mono _ _ _
   | exact LeO.none _
   | refine LeO.ite ?_ ?_
   | refine LeO.bind ?_ (fun _ => ?_)
set_option maxHeartbeats 8000000 in
set_option maxRecDepth 100000 in
theorem slices_Contains_int_int.calls (k : Nat) (A0 : Option Addr) (c0 : Nat) (l0 : List Int) (a1 : Int) (r : Bool) (w : World) (hr0 : Kd.C (Kd.int .i64) w A0 l0.length l0) (hc0 : l0.length ≤ c0) (h : slices_Contains_int_int.f k l0 a1 = some r) :
  Calls Try.prog 146 #[.slice A0 l0.length c0, .int .i64 a1] w fun e w' => e = .returned (.bool r) ∧ Drawn0 w w' := by
 have HR0 := Aside0.mk hr0
 have HC0 := Aside0.mk hc0
 clear hr0 hc0
 have H : ((slices_Index_int_int.f k l0 a1).bind fun t511 => (some (decide (t511 ≥ 0)))) = some r := h
 clear h
 obtain ⟨t511, A3, H⟩ := zO H
 obtain rfl := Option.some.inj H
 go_enter Try.func146, Try.ntmps146
 go_wp2_with (first | ((with_reducible refine gate_callee (f := 157) rfl ?_); refine zD (some 7) Try.func157 #[.slice A0 l0.length c0, .int .i64 a1] ?_; (with_reducible refine (slices_Index_int_int.calls k _ _ l0 a1 t511 _ ?side1 ?side2 A3.out).mono ?_); (case side1 => repeat (first | exact HR0.out | (with_reducible refine Kd.C_alloc ?_ _) | (with_reducible refine Kd.C_drewN ?_ _) | (with_reducible refine Kd.C_drew ?_))); (case side2 => exact HC0.out); rintro e w' ⟨rfl, ⟨nd, rfl⟩⟩; refine ⟨_, rfl, ?_⟩))
 go_ret
 exact ⟨by first | rfl | (simp; done) | (simp [*]; done), by repeat (first | exact Drawn0.refl _ | apply Drawn0.step)⟩
/-! ### impl_areDifferent: function 95 -/
end Go.Proofs.Ytckkfjdkaimmhaa.PX
namespace Go.Proofs.Ytckkfjdkaimmhaa.M
open Go.RowKit Go.Proofs.YtckkfjdkaimmhaaW.PrintWords Go.Proofs.Ytckkfjdkaimmhaa.PX
def inR (n a : Int) : Bool := decide (0 ≤ a) && decide (a < n)
theorem isElement_f (n a : Int) : impl_isElement.f n a = some (inR n a) := by
 unfold impl_isElement.f inR
 by_cases h : a ≥ 0
 ·rw [if_pos h, decide_eq_true (show (0 : Int) ≤ a from h), Bool.true_and]
 ·rw [if_neg h, decide_eq_false (show ¬ (0 : Int) ≤ a from h), Bool.false_and]
def areD (n : Int) (l : List Int) : Bool := (List.range l.length).all fun i => inR n (l.getD i 0) && !((l.take i).contains (l.getD i 0))
theorem and255 (n : Int) : Go.bits .and .i64 n 255 = n % 256 := by
 have h255 : (BitVec.ofInt 64 255).toNat = 2 ^ 8 - 1 := by decide
 have key : (BitVec.ofInt 64 n &&& BitVec.ofInt 64 255).toNat = (n % ((2 ^ 64 : Nat) : Int)).toNat % 2 ^ 8 := by
  rw [BitVec.toNat_and, BitVec.toNat_ofInt, h255, Nat.and_two_pow_sub_one_eq_mod]
 show IntKind.i64.wrap ((BitVec.ofInt 64 n &&& BitVec.ofInt 64 255).toNat : Nat) = n % 256
 rw [key, IntKind.wrap_i64]
 omega
def Cur (l : List Int) (i : Int) : Prop := 0 ≤ i ∧ i ≤ (l.length : Int)
theorem byte_ok {l : List Int} (hl : l.length ≤ 1048576) {i : Int} (hc : Cur l i) (h : Int) : ∃ x i' h', spec_l1Byte.f l i h = some (x, i', h') ∧ (0 ≤ x ∧ x ≤ 255) ∧ Cur l i' := by
 obtain ⟨h0, h1⟩ := hc
 unfold spec_l1Byte.f
 by_cases g : i < (l.length : Int)
 ·rw [if_pos g, if_pos h0, and255, and255]
  refine ⟨_, _, _, rfl, by omega, ?_, ?_⟩
  ·rw [wrap_id (by omega) (by omega)]; omega
  ·rw [wrap_id (by omega) (by omega)]; omega
 ·rw [if_neg g, and255]
  exact ⟨_, _, _, rfl, by omega, h0, h1⟩
theorem below_ok {l : List Int} (hl : l.length ≤ 1048576) {i : Int} (hc : Cur l i) (h n : Int) : ∃ x i' h', spec_l1Below.f l i h n = some (x, i', h') ∧ (n ≤ 0 → x = 0) ∧ (0 < n → 0 ≤ x ∧ x < n) ∧ Cur l i' := by
 unfold spec_l1Below.f
 by_cases g : n ≤ 0
 ·rw [if_pos g]
  exact ⟨_, _, _, rfl, fun _ => rfl, fun h => by omega, hc⟩
 ·rw [if_neg g]
  have tm : ∀ x : Int, 0 ≤ x → 0 ≤ Int.tmod x n ∧ Int.tmod x n < n := fun x hx => by
   rw [Int.tmod_eq_emod_of_nonneg hx]
   exact ⟨Int.emod_nonneg _ (by omega), Int.emod_lt_of_pos _ (by omega)⟩
  by_cases g' : n ≤ 256
  ·rw [if_pos g']
   obtain ⟨x, i1, h1, e1, b1, c1⟩ := byte_ok hl hc h
   rw [e1]
   simp only [Option.bind_some]
   rw [if_neg (by omega)]
   exact ⟨_, _, _, rfl, fun h => by omega, fun _ => tm x b1.1, c1⟩
  ·rw [if_neg g']
   obtain ⟨x, i1, h1, e1, b1, c1⟩ := byte_ok hl hc h
   obtain ⟨y, i2, h2, e2, b2, c2⟩ := byte_ok hl c1 h1
   obtain ⟨z, i3, h3, e3, b3, c3⟩ := byte_ok hl c2 h2
   obtain ⟨w, i4, h4, e4, b4, c4⟩ := byte_ok hl c3 h3
   rw [e1]
   simp only [Option.bind_some]
   rw [e2]
   simp only [Option.bind_some]
   rw [e3]
   simp only [Option.bind_some]
   rw [e4]
   simp only [Option.bind_some]
   rw [if_neg (by omega)]
   refine ⟨_, _, _, rfl, fun h => by omega, fun _ => tm _ ?_, c4⟩
   rw [wrap_id (x := x * 16777216) (by omega) (by omega), wrap_id (x := y * 65536) (by omega) (by omega), wrap_id (x := z * 256) (by omega) (by omega), wrap_id (x := x * 16777216 + y * 65536) (by omega) (by omega)]
   rw [wrap_id (x := x * 16777216 + y * 65536 + z * 256) (by omega) (by omega), wrap_id (by omega) (by omega)]
   omega
theorem new_ok (l : List Int) (_ : l.length ≤ 1048576) : ∃ h, Ev (fun k => spec_l1New.f k l) (l, 0, h) := by
 have key : ∀ (d i : Nat) (x : Int), i + d = l.length → ∃ h, Ev (fun k => spec_l1New.l0 k l x (i : Int)) (l, 0, h) := by
  intro d
  induction d with
  | zero =>
   intro i x hi
   refine ⟨x, ev_step ?_⟩
   simp only [spec_l1New.l0]
   exact ev_neg (by omega) (Ev.now _)
  | succ d ih =>
   intro i x hi
   by_cases g : (i : Int) < 4000
   ·obtain ⟨h, hh⟩ := ih (i + 1) (Go.bits .and .i64 (wrap64 ((wrap64 ((wrap64 (x * 131)) + (wrap64 (rd l (i : Int))))) + 7)) 1073741823) (by omega)
    refine ⟨h, ev_step ?_⟩
    simp only [spec_l1New.l0]
    rw [wrap_id (x := (i : Int) + 1) (by omega) (by omega)]
    exact ev_pos (by omega) (ev_pos g (ev_pos (by omega) hh))
   ·refine ⟨x, ev_step ?_⟩
    simp only [spec_l1New.l0]
    exact ev_pos (by omega) (ev_neg g (Ev.now _))
 unfold spec_l1New.f
 exact key l.length 0 _ (by omega)
theorem cur0 (l : List Int) : Cur l 0 := ⟨Int.le_refl 0, by omega⟩
theorem pick_ok {l : List Int} (hl : l.length ≤ 1048576) {i : Int} (hc : Cur l i) (h : Int) (ts : List ByteArray) (ht : ts ≠ []) : ∃ x i' h', spec_l1Pick.f l i h ts = some (x, i', h') ∧ x ∈ ts ∧ Cur l i' := by
 have hp : 0 < ts.length := List.length_pos_iff.2 ht
 obtain ⟨x, i', h', e, _, b, c⟩ := below_ok hl hc h (ts.length : Int)
 have b := b (by omega)
 unfold spec_l1Pick.f
 rw [e]
 simp only [Option.bind_some]
 rw [if_pos b.1, if_pos b.2]
 refine ⟨_, _, _, rfl, ?_, c⟩
 obtain ⟨j, rfl⟩ := Int.eq_ofNat_of_zero_le b.1
 have hj : j < ts.length := by omega
 unfold rdOf
 rw [Int.toNat_natCast, List.getD_eq_getElem?_getD, List.getElem?_eq_getElem hj]
 exact List.getElem_mem hj
theorem pickInt_ok {l : List Int} (hl : l.length ≤ 1048576) {i : Int} (hc : Cur l i) (h : Int) (ts : List Int) (ht : ts ≠ []) : ∃ x i' h', spec_l1PickInt.f l i h ts = some (x, i', h') ∧ x ∈ ts ∧ Cur l i' := by
 have hp : 0 < ts.length := List.length_pos_iff.2 ht
 obtain ⟨x, i', h', e, _, b, c⟩ := below_ok hl hc h (ts.length : Int)
 have b := b (by omega)
 unfold spec_l1PickInt.f
 rw [e]
 simp only [Option.bind_some]
 rw [if_pos b.1, if_pos b.2]
 refine ⟨_, _, _, rfl, ?_, c⟩
 obtain ⟨j, rfl⟩ := Int.eq_ofNat_of_zero_le b.1
 have hj : j < ts.length := by omega
 unfold rd
 rw [Int.toNat_natCast, List.getD_eq_getElem?_getD, List.getElem?_eq_getElem hj]
 exact List.getElem_mem hj
theorem once_ok {l : List Int} (hl : l.length ≤ 1048576) {i : Int} (hc : Cur l i) (h n : Int) : ∃ b i' h', spec_l1Once.f l i h n = some (b, i', h') ∧ Cur l i' := by
 obtain ⟨x, i', h', e, _, _, c⟩ := below_ok hl hc h n
 unfold spec_l1Once.f
 rw [e]
 exact ⟨_, _, _, rfl, c⟩
end Go.Proofs.Ytckkfjdkaimmhaa.M
namespace Go.Proofs.Ytckkfjdkaimmhaa.M
open Go.RowKit Go.Proofs.YtckkfjdkaimmhaaW.PrintWords
section
variable {σ τ ρ α β : Type}
def Goes (z : Except ρ σ) (K : σ → Nat → Option ρ) (g : Nat → Option ρ) : Prop :=
 match z with
 | .error v => Ev g v
 | .ok s => ∀ r, Ev (K s) r → Ev g r
variable {z : Except ρ σ} {K : σ → Nat → Option ρ}
theorem Goes.ok (s : σ) : Goes (.ok s) K (K s) := fun _ h => h
theorem Goes.error {g : Nat → Option ρ} {v : ρ} (h : Ev g v) : Goes (.error v) K g := h
theorem Goes.ret (v : ρ) : Goes (.error v) K (fun _ => some v) := Ev.now v
theorem Goes.map {g g' : Nat → Option ρ} (hg : ∀ r, Ev g' r → Ev g r) (h : Goes z K g') : Goes z K g := by
 cases z with
 | error v => exact hg _ h
 | ok s => exact fun r hr => hg _ (h r hr)
theorem Goes.step {g : Nat → Option ρ} (h : Goes z K (fun k => g (k + 1))) : Goes z K g := Goes.map (fun _ => ev_step) h
theorem Goes.pos {c : Prop} [Decidable c] {a b : Nat → Option ρ} (hc : c) (h : Goes z K a) : Goes z K (fun k => if c then a k else b k) := Goes.map (fun _ => ev_pos hc) h
theorem Goes.neg {c : Prop} [Decidable c] {a b : Nat → Option ρ} (hc : ¬ c) (h : Goes z K b) : Goes z K (fun k => if c then a k else b k) := Goes.map (fun _ => ev_neg hc) h
theorem Goes.call {x : Option α} {a : α} {f : Nat → α → Option ρ} (hx : x = some a) (h : Goes z K (fun k => f k a)) : Goes z K (fun k => x.bind (f k)) := Goes.map (fun _ => ev_call hx) h
theorem Goes.ev {x : Nat → Option α} {a : α} {f : Nat → α → Option ρ} (hx : Ev x a) (h : Goes z K (fun k => f k a)) : Goes z K (fun k => (x k).bind (f k)) := Goes.map (fun _ => Ev.bind hx) h
theorem Goes.bind {y : Except ρ τ} {f : τ → Except ρ σ} {K' : τ → Nat → Option ρ} {g : Nat → Option ρ} (h : Goes y K' g) (h' : ∀ s, Goes (f s) K (K' s)) : Goes (y >>= f) K g := by
 cases y with
 | error v => exact h
 | ok s => exact Goes.map (h ·) (h' s)
theorem Goes.cast {z' : Except ρ σ} {g : Nat → Option ρ} (h : Goes z K g) (e : z = z') : Goes z' K g := e ▸ h
theorem Goes.out {g : Nat → Option ρ} {r : ρ} (h : Goes z K g) (he : ∀ v, z = .error v → v = r) (ho : ∀ s, z = .ok s → Ev (K s) r) : Ev g r := by
 cases z with
 | error v => exact he v rfl ▸ h
 | ok s => exact h r (ho s rfl)
theorem loop_up {lo n : Nat} {L : Int → σ → Nat → Option ρ} (dec : σ → Nat → Except ρ σ) (hf : ∀ s, Goes (.ok s) K (L (n : Int) s))
  (hb : ∀ i, lo ≤ i → i < n → ∀ s, Goes (dec s i) (fun s => L ((i + 1 : Nat) : Int) s) (L (i : Int) s)) (hlo : lo ≤ n) (s : σ) : Goes ((List.range' lo (n - lo)).foldlM dec s) K (L (lo : Int) s) := by
 have key : ∀ d i, lo ≤ i → i + d = n → ∀ s, Goes ((List.range' i d).foldlM dec s) K (L (i : Int) s) := by
  intro d
  induction d with
  | zero =>
   intro i _ hi s
   obtain rfl : i = n := by omega
   exact hf s
  | succ d ih =>
   intro i hl hi s
   rw [List.range'_succ, List.foldlM_cons]
   exact Goes.bind (hb i hl (by omega) s) (fun s => ih (i + 1) (by omega) (by omega) s)
 exact key (n - lo) lo (Nat.le_refl _) (by omega) s
theorem loop_up' {lo n : Nat} {L : Int → σ → Nat → Option ρ} (I : Nat → σ → Prop) (dec : σ → Nat → Except ρ σ) (hf : ∀ s, I n s → Goes (.ok s) K (L (n : Int) s))
  (hb : ∀ i, lo ≤ i → i < n → ∀ s, I i s → Goes (dec s i) (fun s => L ((i + 1 : Nat) : Int) s) (L (i : Int) s)) (hi : ∀ i, lo ≤ i → i < n → ∀ s, I i s → ∀ s', dec s i = .ok s' → I (i + 1) s') (hlo : lo ≤ n) (s : σ) (hs : I lo s) :
  Goes ((List.range' lo (n - lo)).foldlM dec s) K (L (lo : Int) s) := by
 have key : ∀ d i, lo ≤ i → i + d = n → ∀ s, I i s → Goes ((List.range' i d).foldlM dec s) K (L (i : Int) s) := by
  intro d
  induction d with
  | zero =>
   intro i _ hid s hs
   obtain rfl : i = n := by omega
   exact hf s hs
  | succ d ih =>
   intro i hl hid s hs
   rw [List.range'_succ, List.foldlM_cons]
   have h := hb i hl (by omega) s hs
   have h' := hi i hl (by omega) s hs
   cases hd : dec s i with
   | error v => rw [hd] at h; exact h
   | ok s' =>
    rw [hd] at h
    exact Goes.map (h ·) (ih (i + 1) (by omega) (by omega) s' (h' s' hd))
 exact key (n - lo) lo (Nat.le_refl _) (by omega) s hs
theorem foldlM_flatMap (f : α → List β) (g : σ → β → Except ρ σ) (l : List α) : ∀ s, (l.flatMap f).foldlM g s = l.foldlM (fun s a => (f a).foldlM g s) s := by
 induction l with
 | nil => intro s; rfl
 | cons x l ih =>
  intro s
  rw [List.flatMap_cons, List.foldlM_append, List.foldlM_cons]
  congr 1
  funext s
  exact ih s
theorem foldlM_mapx (f : α → β) (g : σ → β → Except ρ σ) (l : List α) : ∀ s, (l.map f).foldlM g s = l.foldlM (fun s a => g s (f a)) s := by
 induction l with
 | nil => intro s; rfl
 | cons x l ih =>
  intro s
  rw [List.map_cons, List.foldlM_cons, List.foldlM_cons]
  congr 1
  funext s
  exact ih s
theorem foldlM_ok (g : σ → α → σ) (l : List α) : ∀ s, (l.foldlM (fun s a => (.ok (g s a) : Except ρ σ)) s) = .ok (l.foldl g s) := by
 induction l with
 | nil => intro s; rfl
 | cons x l ih => intro s; exact ih (g s x)
theorem foldlM_find (c : α → Bool) (v : α → ρ) (l : List α) : l.foldlM (fun (_ : Unit) a => if c a then (.error (v a) : Except ρ Unit) else .ok ()) () = match l.find? c with | some a => .error (v a) | none => .ok () := by
 induction l with
 | nil => rfl
 | cons x l ih =>
  rw [List.foldlM_cons, List.find?_cons]
  cases hx : c x with
  | true => rfl
  | false => exact ih
theorem foldlM_any (c : α → Bool) (v : ρ) (l : List α) : l.foldlM (fun (_ : Unit) a => if c a then (.error v : Except ρ Unit) else .ok ()) () = if l.any c then .error v else .ok () := by
 rw [foldlM_find c (fun _ => v) l]
 cases h : l.find? c with
 | none =>
  have : l.any c = false := by simpa using h
  rw [this]; rfl
 | some a =>
  have : l.any c = true := List.any_eq_true.2 ⟨a, List.mem_of_find?_eq_some h, List.find?_some h⟩
  rw [this]; rfl
end
theorem foldlM_index {σ ρ α : Type} (d : α) (f : σ → α → Except ρ σ) (l : List α) (s : σ) : (List.range' 0 (l.length - 0)).foldlM (fun s i => f s (l.getD i d)) s = l.foldlM f s := by
 have key : ∀ (l' pre : List α) (s : σ), pre ++ l' = l → (List.range' pre.length l'.length).foldlM (fun s i => f s (l.getD i d)) s = l'.foldlM f s := by
  intro l'
  induction l' with
  | nil => intro pre s _; rfl
  | cons x l' ih =>
   intro pre s h
   have hx : l.getD pre.length d = x := by
    rw [← h, List.getD_eq_getElem?_getD, List.getElem?_append_right (Nat.le_refl _), Nat.sub_self]
    rfl
   rw [List.length_cons, List.range'_succ, List.foldlM_cons, List.foldlM_cons, hx]
   congr 1
   funext s
   have := ih (pre ++ [x]) s (by rw [← h, List.append_assoc]; rfl)
   rw [List.length_append] at this
   exact this
 rw [Nat.sub_zero]
 exact key l [] s rfl
def upFrom (n a : Nat) : List Nat := List.range' (a + 1) (n - (a + 1))
def pairsL (n : Nat) : List (Nat × Nat) := (List.range' 0 n).flatMap fun a => (upFrom n a).map fun b => (a, b)
def tripsL (n : Nat) : List (Nat × Nat × Nat) := (List.range' 0 n).flatMap fun a => (upFrom n a).flatMap fun b => (upFrom n b).map fun c => (a, b, c)
def quadsL (n : Nat) : List (Nat × Nat × Nat × Nat) := (List.range' 0 n).flatMap fun a => (upFrom n a).flatMap fun b => (upFrom n b).flatMap fun c => (upFrom n c).map fun d => (a, b, c, d)
theorem mem_upFrom {n a b : Nat} (h : b ∈ upFrom n a) : a < b ∧ b < n := by
 simp only [upFrom, List.mem_range'_1] at h
 omega
theorem mem_trips {n a b c : Nat} (h : (a, b, c) ∈ tripsL n) : a < b ∧ b < c ∧ c < n := by
 simp only [tripsL, List.mem_flatMap, List.mem_map, Prod.mk.injEq] at h
 obtain ⟨x, _, y, hy, z, hz, rfl, rfl, rfl⟩ := h
 have := mem_upFrom hy
 have := mem_upFrom hz
 omega
theorem mem_quads {n a b c d : Nat} (h : (a, b, c, d) ∈ quadsL n) : a < b ∧ b < c ∧ c < d ∧ d < n := by
 simp only [quadsL, List.mem_flatMap, List.mem_map, Prod.mk.injEq] at h
 obtain ⟨x, _, y, hy, z, hz, u, hu, rfl, rfl, rfl, rfl⟩ := h
 have := mem_upFrom hy
 have := mem_upFrom hz
 have := mem_upFrom hu
 omega
theorem trips_mem {n a b c : Nat} (h1 : a < b) (h2 : b < c) (h3 : c < n) : (a, b, c) ∈ tripsL n := by
 simp only [tripsL, List.mem_flatMap, List.mem_map, Prod.mk.injEq, upFrom, List.mem_range'_1]
 exact ⟨a, by omega, b, by omega, c, by omega, rfl, rfl, rfl⟩
theorem quads_mem {n a b c d : Nat} (h1 : a < b) (h2 : b < c) (h3 : c < d) (h4 : d < n) : (a, b, c, d) ∈ quadsL n := by
 simp only [quadsL, List.mem_flatMap, List.mem_map, Prod.mk.injEq, upFrom, List.mem_range'_1]
 exact ⟨a, by omega, b, by omega, c, by omega, d, by omega, rfl, rfl, rfl, rfl⟩
section
variable {σ ρ : Type} {n : Nat} {K : σ → Nat → Option ρ}
theorem loops2 {L0 : Int → σ → Nat → Option ρ} {L1 : Int → Int → σ → Nat → Option ρ} (dec : σ → Nat × Nat → Except ρ σ)
  (e0 : ∀ s, Goes (.ok s) K (L0 (n : Int) s)) (s0 : ∀ a, a < n → ∀ s, Goes (.ok s) (fun s => L1 (a : Int) ((a + 1 : Nat) : Int) s) (L0 (a : Int) s))
  (e1 : ∀ a, a < n → ∀ s, Goes (.ok s) (fun s => L0 ((a + 1 : Nat) : Int) s) (L1 (a : Int) (n : Int) s))
  (hb : ∀ a b, a < b → b < n → ∀ s, Goes (dec s (a, b)) (fun s => L1 (a : Int) ((b + 1 : Nat) : Int) s) (L1 (a : Int) (b : Int) s)) (s : σ) : Goes ((pairsL n).foldlM dec s) K (L0 0 s) := by
 have h := loop_up (K := K) (L := L0) (lo := 0) (n := n) (fun s a => (upFrom n a).foldlM (fun s b => dec s (a, b)) s) e0 (fun a _ ha s => ?_) (by omega) s
 ·refine Goes.cast h ?_
  rw [pairsL, foldlM_flatMap]
  simp only [foldlM_mapx, Nat.sub_zero]
 ·exact Goes.map (fun _ => s0 a ha s _) (loop_up (K := fun s => L0 ((a + 1 : Nat) : Int) s) (L := L1 (a : Int)) (fun s b => dec s (a, b)) (e1 a ha) (fun b hl hb' s => hb a b (by omega) hb' s) (by omega) s)
theorem loops3 {L0 : Int → σ → Nat → Option ρ} {L1 : Int → Int → σ → Nat → Option ρ} {L2 : Int → Int → Int → σ → Nat → Option ρ} (dec : σ → Nat × Nat × Nat → Except ρ σ)
  (e0 : ∀ s, Goes (.ok s) K (L0 (n : Int) s)) (s0 : ∀ a, a < n → ∀ s, Goes (.ok s) (fun s => L1 (a : Int) ((a + 1 : Nat) : Int) s) (L0 (a : Int) s))
  (e1 : ∀ a, a < n → ∀ s, Goes (.ok s) (fun s => L0 ((a + 1 : Nat) : Int) s) (L1 (a : Int) (n : Int) s)) (s1 : ∀ a b, a < b → b < n → ∀ s, Goes (.ok s) (fun s => L2 (a : Int) (b : Int) ((b + 1 : Nat) : Int) s) (L1 (a : Int) (b : Int) s))
  (e2 : ∀ a b, a < b → b < n → ∀ s, Goes (.ok s) (fun s => L1 (a : Int) ((b + 1 : Nat) : Int) s) (L2 (a : Int) (b : Int) (n : Int) s))
  (hb : ∀ a b c, a < b → b < c → c < n → ∀ s, Goes (dec s (a, b, c)) (fun s => L2 (a : Int) (b : Int) ((c + 1 : Nat) : Int) s) (L2 (a : Int) (b : Int) (c : Int) s)) (s : σ) : Goes ((tripsL n).foldlM dec s) K (L0 0 s) := by
 refine Goes.cast (loops2 (n := n) (K := K) (L0 := L0) (L1 := L1) (fun s p => (upFrom n p.2).foldlM (fun s c => dec s (p.1, p.2, c)) s) e0 s0 e1 (fun a b hab hb' s => ?_) s) ?_
 ·exact Goes.map (fun _ => s1 a b hab hb' s _) (loop_up (K := fun s => L1 (a : Int) ((b + 1 : Nat) : Int) s) (L := L2 (a : Int) (b : Int)) (fun s c => dec s (a, b, c)) (e2 a b hab hb') (fun c hl hc s => hb a b c hab (by omega) hc s) (by omega) s)
 ·simp only [pairsL, tripsL, foldlM_flatMap, foldlM_mapx]
theorem loops4 {L0 : Int → σ → Nat → Option ρ} {L1 : Int → Int → σ → Nat → Option ρ} {L2 : Int → Int → Int → σ → Nat → Option ρ} {L3 : Int → Int → Int → Int → σ → Nat → Option ρ} (dec : σ → Nat × Nat × Nat × Nat → Except ρ σ)
  (e0 : ∀ s, Goes (.ok s) K (L0 (n : Int) s)) (s0 : ∀ a, a < n → ∀ s, Goes (.ok s) (fun s => L1 (a : Int) ((a + 1 : Nat) : Int) s) (L0 (a : Int) s))
  (e1 : ∀ a, a < n → ∀ s, Goes (.ok s) (fun s => L0 ((a + 1 : Nat) : Int) s) (L1 (a : Int) (n : Int) s)) (s1 : ∀ a b, a < b → b < n → ∀ s, Goes (.ok s) (fun s => L2 (a : Int) (b : Int) ((b + 1 : Nat) : Int) s) (L1 (a : Int) (b : Int) s))
  (e2 : ∀ a b, a < b → b < n → ∀ s, Goes (.ok s) (fun s => L1 (a : Int) ((b + 1 : Nat) : Int) s) (L2 (a : Int) (b : Int) (n : Int) s)) (s2 : ∀ a b c, a < b → b < c → c < n → ∀ s, Goes (.ok s) (fun s => L3 (a : Int) (b : Int) (c : Int) ((c + 1 : Nat) : Int) s) (L2 (a : Int) (b : Int) (c : Int) s))
  (e3 : ∀ a b c, a < b → b < c → c < n → ∀ s, Goes (.ok s) (fun s => L2 (a : Int) (b : Int) ((c + 1 : Nat) : Int) s) (L3 (a : Int) (b : Int) (c : Int) (n : Int) s))
  (hb : ∀ a b c d, a < b → b < c → c < d → d < n → ∀ s, Goes (dec s (a, b, c, d)) (fun s => L3 (a : Int) (b : Int) (c : Int) ((d + 1 : Nat) : Int) s) (L3 (a : Int) (b : Int) (c : Int) (d : Int) s)) (s : σ) : Goes ((quadsL n).foldlM dec s) K (L0 0 s) := by
 refine Goes.cast (loops3 (n := n) (K := K) (L0 := L0) (L1 := L1) (L2 := L2) (fun s p => (upFrom n p.2.2).foldlM (fun s d => dec s (p.1, p.2.1, p.2.2, d)) s) e0 s0 e1 s1 e2 (fun a b c hab hbc hc s => ?_) s) ?_
 ·exact Goes.map (fun _ => s2 a b c hab hbc hc s _) (loop_up (lo := c + 1) (n := n) (K := fun s => L2 (a : Int) (b : Int) ((c + 1 : Nat) : Int) s) (L := L3 (a : Int) (b : Int) (c : Int)) (fun s d => dec s (a, b, c, d)) (e3 a b c hab hbc hc) (fun d hl hd s => hb a b c d hab hbc (by omega) hd s) (by omega) s)
 ·simp only [tripsL, quadsL, foldlM_flatMap, foldlM_mapx]
theorem fold_len {α : Type} (len : σ → Nat) {dec : σ → α → Except ρ σ} (hl : ∀ s x s', dec s x = .ok s' → len s' ≤ len s + 1) (l : List α) : ∀ s s', l.foldlM dec s = .ok s' → len s' ≤ len s + l.length := by
 induction l with
 | nil => intro s s' h; cases h; exact Nat.le_refl _
 | cons x l ih =>
  intro s s' h
  rw [List.foldlM_cons] at h
  cases hd : dec s x with
  | error v => rw [hd] at h; cases h
  | ok s1 =>
   rw [hd] at h
   have h1 := hl _ _ _ hd
   have h2 := ih s1 s' h
   rw [List.length_cons]
   omega
theorem upFrom_length (n a : Nat) : (upFrom n a).length = n - (a + 1) := List.length_range' ..
theorem loops3B {L0 : Int → σ → Nat → Option ρ} {L1 : Int → Int → σ → Nat → Option ρ} {L2 : Int → Int → Int → σ → Nat → Option ρ} (hn : n ≤ 7) (len : σ → Nat) (B : Nat) (dec : σ → Nat × Nat × Nat → Except ρ σ) (hl : ∀ s x s', dec s x = .ok s' → len s' ≤ len s + 1)
  (e0 : ∀ s, Goes (.ok s) K (L0 (n : Int) s)) (s0 : ∀ a, a < n → ∀ s, Goes (.ok s) (fun s => L1 (a : Int) ((a + 1 : Nat) : Int) s) (L0 (a : Int) s))
  (e1 : ∀ a, a < n → ∀ s, Goes (.ok s) (fun s => L0 ((a + 1 : Nat) : Int) s) (L1 (a : Int) (n : Int) s)) (s1 : ∀ a b, a < b → b < n → ∀ s, Goes (.ok s) (fun s => L2 (a : Int) (b : Int) ((b + 1 : Nat) : Int) s) (L1 (a : Int) (b : Int) s))
  (e2 : ∀ a b, a < b → b < n → ∀ s, Goes (.ok s) (fun s => L1 (a : Int) ((b + 1 : Nat) : Int) s) (L2 (a : Int) (b : Int) (n : Int) s))
  (hb : ∀ a b c, a < b → b < c → c < n → ∀ s, len s ≤ B + 343 → Goes (dec s (a, b, c)) (fun s => L2 (a : Int) (b : Int) ((c + 1 : Nat) : Int) s) (L2 (a : Int) (b : Int) (c : Int) s)) (s : σ) (hs : len s ≤ B) : Goes ((tripsL n).foldlM dec s) K (L0 0 s) := by
 have h := loop_up' (K := K) (L := L0) (lo := 0) (n := n) (fun a s => len s ≤ B + 49 * a) (fun s a => (upFrom n a).foldlM (fun s b => (upFrom n b).foldlM (fun s c => dec s (a, b, c)) s) s) (fun s _ => e0 s) (fun a _ ha s hs => ?_) (fun a _ ha s hs s' e => ?_) (by omega) s (by omega)
 ·refine Goes.cast h ?_
  rw [tripsL, foldlM_flatMap]
  simp only [foldlM_mapx, foldlM_flatMap, Nat.sub_zero]
 ·refine Goes.map (fun _ => s0 a ha s _) (loop_up' (lo := a + 1) (n := n) (K := fun s => L0 ((a + 1 : Nat) : Int) s) (L := L1 (a : Int)) (fun b s => len s ≤ B + 49 * a + 7 * b) (fun s b => (upFrom n b).foldlM (fun s c => dec s (a, b, c)) s) (fun s _ => e1 a ha s)
   (fun b hlo hb' s hs => ?_) (fun b hlo hb' s hs s' e => ?_) (by omega) s (by omega))
  ·exact Goes.map (fun _ => s1 a b (by omega) hb' s _) (loop_up' (lo := b + 1) (n := n) (K := fun s => L1 (a : Int) ((b + 1 : Nat) : Int) s) (L := L2 (a : Int) (b : Int)) (fun c s => len s ≤ B + 49 * a + 7 * b + c) (fun s c => dec s (a, b, c)) (fun s _ => e2 a b (by omega) hb' s)
    (fun c hl' hc s hs => hb a b c (by omega) (by omega) hc s (by omega)) (fun c hl' hc s hs s' e => by have := hl _ _ _ e; omega) (by omega) s (by omega))
  ·have := fold_len len (fun s x s' => hl s (a, b, x) s') _ _ _ e
   rw [upFrom_length] at this
   omega
 ·have key : ∀ (l : List Nat), ∀ s s', l.foldlM (fun s b => (upFrom n b).foldlM (fun s c => dec s (a, b, c)) s) s = .ok s' → len s' ≤ len s + 7 * l.length := by
   intro l
   induction l with
   | nil => intro s s' h; cases h; exact Nat.le_refl _
   | cons x l ih =>
    intro s s' h
    rw [List.foldlM_cons] at h
    cases hd : (upFrom n x).foldlM (fun s c => dec s (a, x, c)) s with
    | error v => rw [hd] at h; cases h
    | ok s1 =>
     rw [hd] at h
     have h1 := fold_len len (fun s y s' => hl s (a, x, y) s') _ _ _ hd
     have h2 := ih s1 s' h
     rw [upFrom_length] at h1
     rw [List.length_cons]
     omega
  have := key _ _ _ e
  rw [upFrom_length] at this
  omega
theorem foldlM_okL {α : Type} (g : σ → α → σ) (len : σ → Nat) (hg : ∀ s a, len (g s a) ≤ len s + 1) : ∀ s x s', (fun s a => (.ok (g s a) : Except ρ σ)) s x = .ok s' → len s' ≤ len s + 1 := by
 intro s x s' h
 cases h
 exact hg s x
end
end Go.Proofs.Ytckkfjdkaimmhaa.M
namespace Go.Proofs.Ytckkfjdkaimmhaa.M
open Go.RowKit Go.Proofs.YtckkfjdkaimmhaaW.PrintWords Go.Proofs.Ytckkfjdkaimmhaa.PX
abbrev IP := S83
theorem rdIP {l : List IP} {i : Nat} (h : i < l.length) : rd_T83 l (i : Int) = l[i] := by
 unfold rd_T83
 rw [Int.toNat_natCast, List.getD_eq_getElem?_getD, List.getElem?_eq_getElem h]
 rfl
end Go.Proofs.Ytckkfjdkaimmhaa.M
namespace Go.Proofs.Ytckkfjdkaimmhaa.M
open Go.RowKit Go.Proofs.YtckkfjdkaimmhaaW.PrintWords Go.Proofs.Ytckkfjdkaimmhaa.PX Go.Proofs.Ytckkfjdkaimmhaa.G
def nearP (most : Int) (p : IP) : Bool := (decide (-most ≤ p.f0) && decide (p.f0 ≤ most)) && (decide (-most ≤ p.f1) && decide (p.f1 ≤ most))
def areaP (a b c : IP) : Int := (b.f0 - a.f0) * (c.f1 - a.f1) - (b.f1 - a.f1) * (c.f0 - a.f0)
def sgnI (x : Int) : Int := if x < 0 then -1 else if x > 0 then 1 else 0
theorem nearP_iff {most : Int} {p : IP} : nearP most p = true ↔ (-most ≤ p.f0 ∧ p.f0 ≤ most) ∧ (-most ≤ p.f1 ∧ p.f1 ≤ most) := by
 unfold nearP
 simp only [Bool.and_eq_true, decide_eq_true_eq]
theorem spec_fits (p : IP) (most : Int) (h0 : 0 ≤ most) (h1 : most ≤ 1000000) : spec_l2Fits.f p.f0 p.f1 most = some (nearP most p) := by
 have one : ∀ x : Int, spec_l1In.f x (-most) most = some (decide (-most ≤ x) && decide (x ≤ most)) := by
  intro x
  unfold spec_l1In.f
  by_cases h : x ≥ -most
  ·rw [if_pos h, decide_eq_true (show -most ≤ x from h), Bool.true_and]
  ·rw [if_neg h, decide_eq_false (show ¬ -most ≤ x from h), Bool.false_and]
 unfold spec_l2Fits.f nearP
 rw [wrap_id (by omega) (by omega), one, one]
 cases decide (-most ≤ p.f0) && decide (p.f0 ≤ most) <;> rfl
theorem mul_bd {x y : Int} (h1 : -2000 ≤ x) (h2 : x ≤ 2000) (h3 : -2000 ≤ y) (h4 : y ≤ 2000) : -4000000 ≤ x * y ∧ x * y ≤ 4000000 := by
 have h := Int.natAbs_mul x y
 have h' : x.natAbs * y.natAbs ≤ 2000 * 2000 := Nat.mul_le_mul (by omega) (by omega)
 omega
theorem area_ok {a b c : IP} (ha : nearP 1000 a = true) (hb : nearP 1000 b = true) (hc : nearP 1000 c = true) :
  wrap64 ((wrap64 ((wrap64 (b.f0 - a.f0)) * (wrap64 (c.f1 - a.f1)))) - (wrap64 ((wrap64 (b.f1 - a.f1)) * (wrap64 (c.f0 - a.f0))))) = areaP a b c ∧ -8000000 ≤ areaP a b c ∧ areaP a b c ≤ 8000000 := by
 obtain ⟨⟨a1, a2⟩, a3, a4⟩ := nearP_iff.1 ha
 obtain ⟨⟨b1, b2⟩, b3, b4⟩ := nearP_iff.1 hb
 obtain ⟨⟨c1, c2⟩, c3, c4⟩ := nearP_iff.1 hc
 have m1 := mul_bd (x := b.f0 - a.f0) (y := c.f1 - a.f1) (by omega) (by omega) (by omega) (by omega)
 have m2 := mul_bd (x := b.f1 - a.f1) (y := c.f0 - a.f0) (by omega) (by omega) (by omega) (by omega)
 rw [wrap_id (x := b.f0 - a.f0) (by omega) (by omega), wrap_id (x := c.f1 - a.f1) (by omega) (by omega), wrap_id (x := b.f1 - a.f1) (by omega) (by omega), wrap_id (x := c.f0 - a.f0) (by omega) (by omega)]
 rw [wrap_id (x := (b.f0 - a.f0) * (c.f1 - a.f1)) (by omega) (by omega), wrap_id (x := (b.f1 - a.f1) * (c.f0 - a.f0)) (by omega) (by omega)]
 unfold areaP
 exact ⟨wrap_id (by omega) (by omega), by omega, by omega⟩
def near3 (a b c : IP) : Bool := nearP 1000 a && (nearP 1000 b && nearP 1000 c)
theorem near3_iff {a b c : IP} : near3 a b c = true ↔ nearP 1000 a = true ∧ nearP 1000 b = true ∧ nearP 1000 c = true := by
 unfold near3
 simp only [Bool.and_eq_true]
theorem spec_area {a b c : IP} (h : near3 a b c = true) : spec_l2Area.f a.f0 a.f1 b.f0 b.f1 c.f0 c.f1 = some (areaP a b c) := by
 obtain ⟨ha, hb, hc⟩ := near3_iff.1 h
 unfold spec_l2Area.f
 rw [(area_ok ha hb hc).1]
def pt (l : List IP) (i : Nat) : IP := rd_T83 l (i : Int)
theorem pt_eq {l : List IP} {i : Nat} (h : i < l.length) : pt l i = l[i] := rdIP h
def flatQ (l : List IP) (q : Nat × Nat × Nat) : Bool := decide (areaP (pt l q.1) (pt l q.2.1) (pt l q.2.2) = 0)
def arePts (l : List IP) : Bool := (decide (3 ≤ l.length) && decide (l.length ≤ 7)) && (l.all (nearP 50) && !((tripsL l.length).any (flatQ l)))
theorem near_wide {p : IP} (h : nearP 50 p = true) : nearP 1000 p = true := by
 rw [nearP_iff] at h ⊢
 omega
theorem arePts_iff {l : List IP} : arePts l = true ↔ (3 ≤ l.length ∧ l.length ≤ 7) ∧ (∀ p ∈ l, nearP 50 p = true) ∧ ∀ a b c, a < b → b < c → c < l.length → areaP (pt l a) (pt l b) (pt l c) ≠ 0 := by
 unfold arePts
 simp only [Bool.and_eq_true, decide_eq_true_eq, List.all_eq_true, Bool.not_eq_true', List.any_eq_false, flatQ]
 constructor
 ·rintro ⟨h1, h2, h3⟩
  exact ⟨h1, h2, fun a b c hab hbc hc => h3 (a, b, c) (trips_mem hab hbc hc)⟩
 ·rintro ⟨h1, h2, h3⟩
  exact ⟨h1, h2, fun ⟨a, b, c⟩ hq => h3 a b c (mem_trips hq).1 (mem_trips hq).2.1 (mem_trips hq).2.2⟩
theorem pts_near3 {l : List IP} (h : l.all (nearP 50) = true) {a b c : Nat} (ha : a < l.length) (hb : b < l.length) (hc : c < l.length) : near3 (pt l a) (pt l b) (pt l c) = true := by
 have key : ∀ {i : Nat}, i < l.length → nearP 1000 (pt l i) = true := fun {i} hi => by
  rw [pt_eq hi]
  exact near_wide (List.all_eq_true.1 h _ (List.getElem_mem hi))
 exact near3_iff.2 ⟨key ha, key hb, key hc⟩
theorem spec_inPts (x lo hi : Int) : spec_l1In.f x lo hi = some (decide (lo ≤ x) && decide (x ≤ hi)) := by
 unfold spec_l1In.f
 by_cases h : x ≥ lo
 ·rw [if_pos h, decide_eq_true (show lo ≤ x from h), Bool.true_and]
 ·rw [if_neg h, decide_eq_false (show ¬ lo ≤ x from h), Bool.false_and]
def offPts (l : List IP) (k : Nat) : Bool := !nearP 50 (pt l k) || (List.range' 0 (k - 0)).any fun j => (List.range' 0 (j - 0)).any fun i => flatQ l (i, j, k)
theorem offPts_any (l : List IP) : (!((List.range' 0 (l.length - 0)).any (offPts l))) = (l.all (nearP 50) && !((tripsL l.length).any (flatQ l))) := by
 rw [Bool.eq_iff_iff]
 simp only [Bool.not_eq_true', List.any_eq_false, Bool.and_eq_true, List.all_eq_true, offPts, Bool.or_eq_true, not_or, Bool.not_eq_false, List.any_eq_true, not_exists, not_and, List.mem_range'_1]
 constructor
 ·intro h
  refine ⟨fun p hp => ?_, fun ⟨a, b, c⟩ hq => ?_⟩
  ·obtain ⟨i, hi, rfl⟩ := List.getElem_of_mem hp
   have := (h i (by omega)).1
   rw [pt_eq hi] at this
   simpa using this
  ·obtain ⟨h1, h2, h3⟩ := mem_trips hq
   exact (h c (by omega)).2 b (by omega) a (by omega)
 ·rintro ⟨h1, h2⟩ k hk
  refine ⟨?_, fun j hj i hi => h2 (i, j, k) (trips_mem (by omega) (by omega) (by omega))⟩
  rw [pt_eq (show k < l.length by omega)]
  simpa using h1 _ (List.getElem_mem _)
theorem spec_arePts (l : List IP) (hl : l.length ≤ 10000000) : Ev (fun q => spec_ArePoints.f q l) (arePts l) := by
 unfold spec_ArePoints.f
 refine ev_call (spec_inPts _ _ _) ?_
 by_cases hn : 3 ≤ l.length ∧ l.length ≤ 7
 ·refine ev_pos (by simp; omega) (ev_cast ?_ (show (!((List.range' 0 (l.length - 0)).any (offPts l))) = arePts l from ?_))
  ·have key := loop_up' (σ := Unit) (ρ := Bool) (lo := 0) (n := l.length) (K := fun _ _ => some true) (L := fun x _ q => spec_ArePoints.l0 q l x) (fun k _ => ∀ i, i < k → nearP 50 (pt l i) = true) (fun _ k => if offPts l k then .error false else .ok ()) (fun u _ => ?_) (fun k _ hk u hI => ?_) (fun k _ hk u hI u' e => ?_) (by omega) () (fun i hi => absurd hi (Nat.not_lt_zero _))
   ·rw [foldlM_any (offPts l)] at key
    cases hq : (List.range' 0 (l.length - 0)).any (offPts l) with
    | true => rw [hq] at key; exact key
    | false => rw [hq] at key; exact key _ (Ev.now _)
   ·refine Goes.step ?_
    simp only [spec_ArePoints.l0]
    exact Goes.neg (by omega) (Goes.ok (K := fun _ _ => some true) u)
   ·refine Goes.step ?_
    simp only [spec_ArePoints.l0]
    refine Goes.pos (by omega) (Goes.pos (by omega) (Goes.call (spec_fits (pt l k) 50 (by decide) (by decide)) ?_))
    cases hf : nearP 50 (pt l k) with
    | false => exact Goes.neg (by decide) (Goes.cast (Goes.ret _) (by simp [offPts, hf]))
    | true =>
     refine Goes.pos rfl ?_
     have one := loop_up (σ := Unit) (ρ := Bool) (lo := 0) (n := k) (K := fun _ q => spec_ArePoints.l0 q l ((k + 1 : Nat) : Int)) (L := fun x _ q => spec_ArePoints.l1 q l (k : Int) x) (fun _ j => if (List.range' 0 (j - 0)).any (fun i => flatQ l (i, j, k)) then .error false else .ok ()) (fun u => ?_) (fun j _ hj u => ?_) (by omega) ()
     ·rw [foldlM_any (fun j => (List.range' 0 (j - 0)).any fun i => flatQ l (i, j, k))] at one
      refine one.cast ?_
      simp [offPts, hf]
     ·refine Goes.step ?_
      simp only [spec_ArePoints.l1]
      rw [wrap_id (by omega) (by omega)]
      exact Goes.neg (by omega) (Goes.ok (K := fun (_ : Unit) q => spec_ArePoints.l0 q l ((k + 1 : Nat) : Int)) u)
     ·refine Goes.step ?_
      simp only [spec_ArePoints.l1]
      refine Goes.pos (by omega) ?_
      have two := loop_up (σ := Unit) (ρ := Bool) (lo := 0) (n := j) (K := fun _ q => spec_ArePoints.l1 q l (k : Int) ((j + 1 : Nat) : Int)) (L := fun x _ q => spec_ArePoints.l2 q l (k : Int) (j : Int) x) (fun _ i => if flatQ l (i, j, k) then .error false else .ok ()) (fun u => ?_) (fun i _ hi u => ?_) (by omega) ()
      ·rw [foldlM_any (fun i => flatQ l (i, j, k))] at two
       exact two
      ·refine Goes.step ?_
       simp only [spec_ArePoints.l2]
       rw [wrap_id (by omega) (by omega)]
       exact Goes.neg (by omega) (Goes.ok (K := fun (_ : Unit) q => spec_ArePoints.l1 q l (k : Int) ((j + 1 : Nat) : Int)) u)
      ·refine Goes.step ?_
       simp only [spec_ArePoints.l2]
       rw [wrap_id (x := (i : Int) + 1) (by omega) (by omega)]
       refine Goes.pos (by omega) (Goes.pos (by omega) (Goes.pos (by omega) (Goes.pos (by omega) (Goes.pos (by omega) (Goes.pos (by omega) (Goes.pos (by omega) ?_))))))
       have nn : ∀ x, x ≤ k → nearP 1000 (pt l x) = true := fun x hx => by
        by_cases e : x = k
        ·subst e; exact near_wide hf
        ·exact near_wide (hI x (by omega))
       refine Goes.call (spec_area (a := pt l i) (b := pt l j) (c := pt l k) (near3_iff.2 ⟨nn i (by omega), nn j (by omega), nn k (by omega)⟩)) ?_
       by_cases g : areaP (pt l i) (pt l j) (pt l k) = 0
       ·exact Goes.pos g (Goes.cast (Goes.ret _) (by simp [flatQ, g]))
       ·exact Goes.neg g (Goes.cast (Goes.ok (K := fun (_ : Unit) q => spec_ArePoints.l2 q l (k : Int) (j : Int) ((i + 1 : Nat) : Int)) u) (by simp [flatQ, g]))
   ·intro i hi
    by_cases ei : i = k
    ·subst ei
     cases hf : nearP 50 (pt l i) with
     | true => rfl
     | false => simp [offPts, hf] at e
    ·exact hI i (by omega)
  ·unfold arePts
   rw [offPts_any]
   simp [hn.1, hn.2]
 ·refine ev_neg (by simp; omega) (ev_cast (Ev.now _) ?_)
  unfold arePts
  have : (decide (3 ≤ l.length) && decide (l.length ≤ 7)) = false := by simp; omega
  rw [this]
  rfl
end Go.Proofs.Ytckkfjdkaimmhaa.M
namespace Go.Proofs.Ytckkfjdkaimmhaa.PX
open Go.RowKit Go.Proofs.Ytckkfjdkaimmhaa.G Go.Proofs.YtckkfjdkaimmhaaW.PrintWords Go.Proofs.YtckkfjdkaimmhaaW.PrintLast Go.Proofs.YtckkfjdkaimmhaaW.PrintMore
attribute [local go_sem] max2_int min2_int max_two min_two max_three min_three max_four min_four   -- for this text's walks alone
set_option linter.unusedVariables false
set_option linter.unusedSimpArgs false
/-! ### spec_l2Bent: function 100 -/
end Go.Proofs.Ytckkfjdkaimmhaa.PX
namespace Go.Proofs.Ytckkfjdkaimmhaa.M
open Go.RowKit Go.Proofs.YtckkfjdkaimmhaaW.PrintWords Go.Proofs.Ytckkfjdkaimmhaa.PX Go.Proofs.Ytckkfjdkaimmhaa.G
theorem l2_inner {x3 x5 : Int} {ps : List IP} {l : List Int} {i h p q : Int} {x8 : Nat} (h8 : x8 < ps.length) (hps : ps.length ≤ 100) (d : Nat) : ∀ (x9 : Nat) (x7 : Bool), x9 + d = x8 →
  ∃ x7', ∀ r, Ev (fun k => spec_l2Draw.l1 k x3 ps x5 x7' ((x8 + 1 : Nat) : Int) l i h p q) r → Ev (fun k => spec_l2Draw.l2 k x3 ps x5 x7 (x8 : Int) (x9 : Int) l i h p q) r := by
 induction d with
 | zero =>
  intro x9 x7 hd
  refine ⟨x7, fun r hr => ev_step ?_⟩
  simp only [spec_l2Draw.l2]
  rw [wrap_id (x := (x8 : Int) + 1) (by omega) (by omega)]
  exact ev_neg (by omega) hr
 | succ d ih =>
  intro x9 x7 hd
  cases x7 with
  | false =>
   refine ⟨false, fun r hr => ev_step ?_⟩
   simp only [spec_l2Draw.l2]
   rw [wrap_id (x := (x8 : Int) + 1) (by omega) (by omega)]
   exact ev_pos (by omega) (ev_neg (by decide) hr)
  | true =>
   obtain ⟨v, hv⟩ : ∃ v, spec_l2Area.f ((rd_T83 ps (x9 : Int)).f0) ((rd_T83 ps (x9 : Int)).f1) ((rd_T83 ps (x8 : Int)).f0) ((rd_T83 ps (x8 : Int)).f1) p q = some v := ⟨_, rfl⟩
   obtain ⟨x7', h'⟩ := ih (x9 + 1) (v != 0) (by omega)
   refine ⟨x7', fun r hr => ev_step ?_⟩
   simp only [spec_l2Draw.l2]
   rw [wrap_id (x := (x9 : Int) + 1) (by omega) (by omega)]
   exact ev_pos (by omega) (ev_pos (by trivial) (ev_pos (by omega) (ev_pos (by omega) (ev_pos (by omega) (ev_pos (by omega) (ev_call hv (h' r hr)))))))
theorem l2_outer {x3 : Int} {x5 : Nat} (h5 : x5 ≤ 12) {ps : List IP} {l : List Int} {i h p q : Int} (hps : ps.length ≤ 100) (d : Nat) : ∀ (x8 : Nat) (x7 : Bool), x8 + d = ps.length →
  ∃ ps' : List IP, ps'.length ≤ ps.length + 1 ∧ ∀ r, Ev (fun k => spec_l2Draw.l0 k x3 ps' ((x5 + 1 : Nat) : Int) l i h) r → Ev (fun k => spec_l2Draw.l1 k x3 ps (x5 : Int) x7 (x8 : Int) l i h p q) r := by
 have fin : ∀ (x8 : Nat) (x7 : Bool), ∃ ps' : List IP, ps'.length ≤ ps.length + 1 ∧ ∀ r, Ev (fun k => spec_l2Draw.l0 k x3 ps' ((x5 + 1 : Nat) : Int) l i h) r → Ev (fun k => spec_l2Draw.j3 k x3 ps (x5 : Int) x7 (x8 : Int) false l i h p q) r := by
  intro x8 x7
  cases x7 with
  | true =>
   refine ⟨ps ++ [(⟨p, q⟩ : IP)], by simp, fun r hr => ev_step ?_⟩
   simp only [spec_l2Draw.j3]
   rw [wrap_id (x := (x5 : Int) + 1) (by omega) (by omega)]
   exact ev_neg (by decide) (ev_pos (by trivial) (ev_pos (by omega) hr))
  | false =>
   refine ⟨ps, by omega, fun r hr => ev_step ?_⟩
   simp only [spec_l2Draw.j3]
   rw [wrap_id (x := (x5 : Int) + 1) (by omega) (by omega)]
   exact ev_neg (by decide) (ev_neg (by decide) hr)
 induction d with
 | zero =>
  intro x8 x7 hd
  obtain ⟨ps', hl, hr⟩ := fin x8 x7
  refine ⟨ps', hl, fun r h => ev_step ?_⟩
  simp only [spec_l2Draw.l1]
  exact ev_neg (by omega) (hr r h)
 | succ d ih =>
  intro x8 x7 hd
  cases x7 with
  | false =>
   obtain ⟨ps', hl, hr⟩ := fin x8 false
   refine ⟨ps', hl, fun r h => ev_step ?_⟩
   simp only [spec_l2Draw.l1]
   exact ev_pos (by omega) (hr r h)
  | true =>
   obtain ⟨x7', hi⟩ := l2_inner (x3 := x3) (x5 := (x5 : Int)) (l := l) (i := i) (h := h) (p := p) (q := q) (ps := ps) (x8 := x8) (by omega) hps x8 0 (!(((rd_T83 ps (x8 : Int)).f0) == p) || (!(((rd_T83 ps (x8 : Int)).f1) == q))) (by omega)
   obtain ⟨ps', hl, hr⟩ := ih (x8 + 1) x7' (by omega)
   refine ⟨ps', hl, fun r h => ev_step ?_⟩
   simp only [spec_l2Draw.l1]
   refine ev_pos (by omega) (ev_step ?_)
   simp only [spec_l2Draw.j3]
   exact ev_pos (by trivial) (ev_pos (by omega) (ev_pos (by omega) (hi r (hr r h))))
theorem l2Draw_ok {l : List Int} (hl : l.length ≤ 1048576) {i : Int} (hc : Cur l i) (h : Int) : ∃ (ps : List IP) (i' h' : Int), Ev (fun k => spec_l2Draw.f k l i h) (ps, i', h') ∧ 3 ≤ ps.length ∧ ps.length ≤ 20 ∧ Cur l i' := by
 have done : ∀ (x5 : Nat) (ps : List IP) (i h x3 : Int), ps.length ≤ 12 → Cur l i → ∃ (ps' : List IP) (i' h' : Int), Ev (fun k => spec_l2Draw.j1 k x3 ps (x5 : Int) false l i h) (ps', i', h') ∧ 3 ≤ ps'.length ∧ ps'.length ≤ 20 ∧ Cur l i' := by
  intro x5 ps i h x3 hp hc
  by_cases g : (ps.length : Int) < 3
  ·refine ⟨[(⟨0, 0⟩ : IP), (⟨4, 1⟩ : IP), (⟨1, 3⟩ : IP), (⟨2, 2⟩ : IP)], i, h, ev_step ?_, by simp, by simp, hc⟩
   simp only [spec_l2Draw.j1]
   exact ev_neg (by decide) (ev_pos g (Ev.now _))
  ·refine ⟨ps, i, h, ev_step ?_, by omega, by omega, hc⟩
   simp only [spec_l2Draw.j1]
   exact ev_neg (by decide) (ev_neg g (Ev.now _))
 have key : ∀ (d x5 : Nat) (ps : List IP) (i h x3 : Int), x5 + d = 12 → ps.length ≤ x5 → Cur l i → ∃ (ps' : List IP) (i' h' : Int), Ev (fun k => spec_l2Draw.l0 k x3 ps (x5 : Int) l i h) (ps', i', h') ∧ 3 ≤ ps'.length ∧ ps'.length ≤ 20 ∧ Cur l i' := by
  intro d
  induction d with
  | zero =>
   intro x5 ps i h x3 hd hp hc
   obtain ⟨ps', i', h', e, r⟩ := done x5 ps i h x3 (by omega) hc
   refine ⟨ps', i', h', ev_step ?_, r⟩
   simp only [spec_l2Draw.l0]
   exact ev_neg (by omega) e
  | succ d ih =>
   intro x5 ps i h x3 hd hp hc
   by_cases g : (ps.length : Int) < x3
   ·obtain ⟨x, i1, h1, e1, _, _, c1⟩ := below_ok hl hc h 13
    obtain ⟨y, i2, h2, e2, _, _, c2⟩ := below_ok hl c1 h1 13
    obtain ⟨ps1, hl1, hr1⟩ := l2_outer (x3 := x3) (x5 := x5) (by omega) (l := l) (i := i2) (h := h2) (p := wrap64 (x - 6)) (q := wrap64 (y - 6)) (ps := ps) (by omega) ps.length 0 true (by omega)
    obtain ⟨ps', i', h', e, r⟩ := ih (x5 + 1) ps1 i2 h2 x3 (by omega) (by omega) c2
    refine ⟨ps', i', h', ev_step ?_, r⟩
    simp only [spec_l2Draw.l0]
    refine ev_pos (by omega) (ev_step ?_)
    simp only [spec_l2Draw.j1]
    exact ev_pos (decide_eq_true g) (ev_call e1 (ev_call e2 (hr1 _ e)))
   ·obtain ⟨ps', i', h', e, r⟩ := done x5 ps i h x3 (by omega) hc
    refine ⟨ps', i', h', ev_step ?_, r⟩
    simp only [spec_l2Draw.l0]
    rw [decide_eq_false g]
    exact ev_pos (by omega) e
 obtain ⟨x, i1, h1, e1, _, _, c1⟩ := below_ok hl hc h 4
 obtain ⟨ps', i', h', e, r⟩ := key 12 0 [] i1 h1 (wrap64 (3 + x)) rfl (Nat.le_refl _) c1
 refine ⟨ps', i', h', ?_, r⟩
 unfold spec_l2Draw.f
 exact ev_call e1 e
def sgC (x : Int) : UInt8 := if x > 0 then 43 else 45
def mkB (l : List UInt8) : ByteArray := ⟨l.toArray⟩
theorem mkB_size (l : List UInt8) : (mkB l).size = l.length := by simp [mkB, ByteArray.size]
theorem mkB_append (l l' : List UInt8) : mkB l ++ mkB l' = mkB (l ++ l') := by
 apply ByteArray.ext
 rw [ByteArray.data_append]
 simp [mkB]
theorem byte_ev (x : Int) : spec_l3Byte.f x = some (mkB [sgC x]) := by
 unfold spec_l3Byte.f sgC
 split <;> rfl
def valS (n : Nat) (s : Nat → Int) (x : Nat) : Int := match lookT (tripN n) 0 x with | some z => sgv z.1 (s z.2) | none => 0
def chiS (n : Nat) (s : Nat → Int) (a b c : Nat) : Int := valS n s (ix3 a b c)
theorem chi_chiS (n : Nat) (t : ByteArray) (a b c : Nat) : chi n t a b c = chiS n (sgB t) a b c := rfl
def tripAt (n p : Nat) : S99 := (tripN n).getD p ⟨0, 0, 0⟩
theorem tripAt_eq {n p : Nat} (h : p < (tripN n).length) : tripAt n p = (tripN n)[p] := by
 unfold tripAt
 rw [List.getD_eq_getElem?_getD, List.getElem?_eq_getElem h]; rfl
def chkI (n : Nat) : Bool := (List.range (tripN n).length).all fun p => (lookT (tripN n) 0 (ix3 (tripAt n p).f0.toNat (tripAt n p).f1.toNat (tripAt n p).f2.toNat) == some (false, p)) && decide ((tripAt n p).f0 < (tripAt n p).f1) && decide ((tripAt n p).f1 < (tripAt n p).f2) && decide ((tripAt n p).f2 < n) && decide (0 ≤ (tripAt n p).f0)
theorem chkI_all {n : Nat} (h0 : 3 ≤ n) (h1 : n ≤ 7) : (chkI n && decide ((tripN n).length ≤ 35)) = true := by
 refine five (p := fun n => (chkI n && decide ((tripN n).length ≤ 35)) = true) h0 h1 ?_ ?_ ?_ ?_ ?_ <;> decide +kernel
theorem tripN_L {n : Nat} (h0 : 3 ≤ n) (h1 : n ≤ 7) : tripN n = (tripsL n).map fun q => ⟨(q.1 : Int), (q.2.1 : Int), (q.2.2 : Int)⟩ := by
 refine five (p := fun n => tripN n = (tripsL n).map fun q => ⟨(q.1 : Int), (q.2.1 : Int), (q.2.2 : Int)⟩) h0 h1 ?_ ?_ ?_ ?_ ?_ <;> kernel_rfl
theorem trip_at {n p : Nat} (h0 : 3 ≤ n) (h1 : n ≤ 7) (hp : p < (tripN n).length) : ∃ a b c : Nat, (tripN n)[p] = ⟨(a : Int), (b : Int), (c : Int)⟩ ∧ a < b ∧ b < c ∧ c < n ∧ lookT (tripN n) 0 (ix3 a b c) = some (false, p) := by
 have h := chkI_all h0 h1
 simp only [Bool.and_eq_true, decide_eq_true_eq] at h
 have h := List.all_eq_true.1 h.1 p (List.mem_range.2 hp)
 simp only [Bool.and_eq_true, decide_eq_true_eq, beq_iff_eq] at h
 obtain ⟨⟨⟨⟨g0, g1⟩, g2⟩, g3⟩, g4⟩ := h
 rw [tripAt_eq hp] at *
 generalize (tripN n)[p] = y at *
 obtain ⟨x0, x1, x2⟩ := y
 simp only at *
 refine ⟨x0.toNat, x1.toNat, x2.toNat, ?_, by omega, by omega, by omega, g0⟩
 rw [Int.toNat_of_nonneg (by omega), Int.toNat_of_nonneg (by omega), Int.toNat_of_nonneg (by omega)]
theorem chiS_at {n p a b c : Nat} {neg : Bool} (s : Nat → Int) (h : lookT (tripN n) 0 (ix3 a b c) = some (neg, p)) : chiS n s a b c = sgv neg (s p) := by
 unfold chiS valS
 rw [h]
def txtS (n : Nat) (s : Nat → Int) : ByteArray := mkB ((List.range (tripN n).length).map fun p => sgC (s p))
theorem foldl_snoc {α β : Type} (f : α → β) (l : List α) : ∀ s : List β, l.foldl (fun s a => s ++ [f a]) s = s ++ l.map f := by
 induction l with
 | nil => intro s; simp
 | cons x l ih => intro s; rw [List.foldl_cons, ih, List.map_cons, List.append_assoc]; rfl
theorem txtS_list (n : Nat) (s : Nat → Int) : (txtS n s).data.toList = (List.range (tripN n).length).map fun p => sgC (s p) := rfl
theorem txtS_ok {n : Nat} (s : Nat → Int) (h0 : 3 ≤ n) (h1 : n ≤ 7) : areOk n (txtS n s) = true := by
 rw [areOk_iff]
 refine ⟨by omega, ?_, fun c hc => ?_⟩
 ·rw [← (trip_small h0 h1).2, txtS, mkB_size, List.length_map, List.length_range]
 ·rw [txtS_list, List.mem_map] at hc
  obtain ⟨p, _, rfl⟩ := hc
  unfold sgC
  split <;> simp
theorem rd_trip {ts : List S99} {i : Nat} (h : i < ts.length) : rd_T99 ts (i : Int) = ts[i] := by
 unfold rd_T99
 rw [Int.toNat_natCast, List.getD_eq_getElem?_getD, List.getElem?_eq_getElem h]
 rfl
theorem txtS_trips {n : Nat} {s : Nat → Int} (g : Nat × Nat × Nat → UInt8) (h0 : 3 ≤ n) (h1 : n ≤ 7) (h : ∀ (p : Nat) (hp : p < (tripN n).length) (a b c : Nat), (tripN n)[p] = ⟨(a : Int), (b : Int), (c : Int)⟩ → sgC (s p) = g (a, b, c)) : mkB ((tripsL n).map g) = txtS n s := by
 unfold txtS
 congr 1
 have e := tripN_L h0 h1
 have el : (tripsL n).length = (tripN n).length := by rw [e, List.length_map]
 refine List.ext_getElem (by rw [List.length_map, List.length_map, List.length_range, el]) fun p hp1 hp2 => ?_
 rw [List.length_map, List.length_range] at hp2
 simp only [List.getElem_map, List.getElem_range]
 have hp : p < (tripsL n).length := by omega
 have e1 : (tripN n)[p] = ⟨((tripsL n)[p].1 : Int), ((tripsL n)[p].2.1 : Int), ((tripsL n)[p].2.2 : Int)⟩ := by
  simp only [e, List.getElem_map]
 exact (h p hp2 _ _ _ e1).symm
def sgPts (l : List IP) (q : Nat) : Int := sgnI (areaP (pt l (tripAt l.length q).f0.toNat) (pt l (tripAt l.length q).f1.toNat) (pt l (tripAt l.length q).f2.toNat))
def signsV (l : List IP) : Int × ByteArray × Bool := if arePts l = true then ((l.length : Int), txtS l.length (sgPts l), true) else (0, ⟨#[]⟩, false)
theorem sgPts_at {l : List IP} {q a b c : Nat} (hq : q < (tripN l.length).length) (e : (tripN l.length)[q] = ⟨(a : Int), (b : Int), (c : Int)⟩) : sgPts l q = sgnI (areaP (pt l a) (pt l b) (pt l c)) := by
 unfold sgPts
 rw [tripAt_eq hq, e]
 rfl
theorem sgnI_pos (x : Int) : (sgnI x > 0) ↔ x > 0 := by
 unfold sgnI
 split
 ·constructor <;> intro h <;> omega
 ·split <;> constructor <;> intro h <;> omega
theorem spec_signsOf (l : List IP) (hl : l.length ≤ 10000000) : Ev (fun q => spec_SignsOf.f q l) (signsV l) := by
 unfold spec_SignsOf.f signsV
 refine Ev.bind (spec_arePts l hl) ?_
 by_cases ha : arePts l = true
 ·rw [if_pos ha]
  refine ev_pos ha ?_
  obtain ⟨⟨h0, h1⟩, hn, _⟩ := arePts_iff.1 ha
  have hn' : l.all (nearP 50) = true := List.all_eq_true.2 hn
  have key := loops3B (σ := List UInt8) (ρ := Int × ByteArray × Bool) (n := l.length) h1 List.length 0 (L0 := fun x s q => spec_SignsOf.l0 q l x (l.length : Int) (mkB s))
   (L1 := fun x y s q => spec_SignsOf.l1 q l x y (l.length : Int) (mkB s)) (L2 := fun x y z s q => spec_SignsOf.l2 q l x y z (l.length : Int) (mkB s)) (K := fun s _ => some ((l.length : Int), mkB s, true))
   (fun s q => .ok (s ++ [sgC (areaP (pt l q.1) (pt l q.2.1) (pt l q.2.2))])) (fun s q s' e => by cases e; rw [List.length_append]; exact Nat.le_refl _)
   (fun s => ?_) (fun a ha s => ?_) (fun a ha s => ?_) (fun a b hab hb s => ?_) (fun a b hab hb s => ?_) (fun a b c hab hbc hc s hs => ?_) [] (Nat.le_refl _)
  ·rw [foldlM_ok, foldl_snoc, List.nil_append] at key
   have et : mkB ((tripsL l.length).map fun q => sgC (areaP (pt l q.1) (pt l q.2.1) (pt l q.2.2))) = txtS l.length (sgPts l) := txtS_trips (fun q => sgC (areaP (pt l q.1) (pt l q.2.1) (pt l q.2.2))) h0 h1 fun p hp a b c e => by
    rw [sgPts_at hp e]
    unfold sgC
    simp only [sgnI_pos]
   rw [← et]
   exact key _ (Ev.now _)
  ·refine Goes.step ?_
   simp only [spec_SignsOf.l0]
   exact Goes.neg (by omega) (Goes.ok (K := fun s (_ : Nat) => some ((l.length : Int), mkB s, true)) s)
  ·refine Goes.step ?_
   simp only [spec_SignsOf.l0]
   rw [wrap_id (by omega) (by omega)]
   exact Goes.pos (by omega) (Goes.ok (K := fun s q => spec_SignsOf.l1 q l (a : Int) ((a + 1 : Nat) : Int) (l.length : Int) (mkB s)) s)
  ·refine Goes.step ?_
   simp only [spec_SignsOf.l1]
   rw [wrap_id (x := (a : Int) + 1) (by omega) (by omega)]
   exact Goes.neg (by omega) (Goes.ok (K := fun s q => spec_SignsOf.l0 q l ((a + 1 : Nat) : Int) (l.length : Int) (mkB s)) s)
  ·refine Goes.step ?_
   simp only [spec_SignsOf.l1]
   rw [wrap_id (x := (b : Int) + 1) (by omega) (by omega)]
   exact Goes.pos (by omega) (Goes.ok (K := fun s q => spec_SignsOf.l2 q l (a : Int) (b : Int) ((b + 1 : Nat) : Int) (l.length : Int) (mkB s)) s)
  ·refine Goes.step ?_
   simp only [spec_SignsOf.l2]
   rw [wrap_id (x := (b : Int) + 1) (by omega) (by omega)]
   exact Goes.neg (by omega) (Goes.ok (K := fun s q => spec_SignsOf.l1 q l (a : Int) ((b + 1 : Nat) : Int) (l.length : Int) (mkB s)) s)
  ·refine Goes.step ?_
   simp only [spec_SignsOf.l2]
   rw [wrap_id (x := (c : Int) + 1) (by omega) (by omega)]
   refine Goes.pos (by omega) (Goes.pos (by omega) (Goes.pos (by omega) (Goes.pos (by omega) (Goes.pos (by omega) (Goes.pos (by omega) (Goes.call (spec_area (a := pt l a) (b := pt l b) (c := pt l c) (pts_near3 hn' (by omega) (by omega) (by omega))) (Goes.call (byte_ev _) (Goes.pos ?_ ?_))))))))
   ·rw [mkB_size, mkB_size]
    simp only [List.length_singleton]
    omega
   ·rw [mkB_append]
    exact Goes.ok (K := fun s q => spec_SignsOf.l2 q l (a : Int) (b : Int) ((c + 1 : Nat) : Int) (l.length : Int) (mkB s)) _
 ·rw [if_neg ha]
  exact ev_neg ha (Ev.now _)
end Go.Proofs.Ytckkfjdkaimmhaa.M
namespace Go.Proofs.Ytckkfjdkaimmhaa.PX
open Go.RowKit Go.Proofs.Ytckkfjdkaimmhaa.G Go.Proofs.YtckkfjdkaimmhaaW.PrintWords Go.Proofs.YtckkfjdkaimmhaaW.PrintLast Go.Proofs.YtckkfjdkaimmhaaW.PrintMore
attribute [local go_sem] max2_int min2_int max_two min_two max_three min_three max_four min_four   -- for this text's walks alone
set_option linter.unusedVariables false
set_option linter.unusedSimpArgs false
/-! ### spec_l3Order: function 145 -/
end Go.Proofs.Ytckkfjdkaimmhaa.PX
namespace Go.Proofs.Ytckkfjdkaimmhaa.M
open Go.RowKit Go.Proofs.YtckkfjdkaimmhaaW.PrintWords Go.Proofs.Ytckkfjdkaimmhaa.PX Go.Proofs.Ytckkfjdkaimmhaa.G
theorem signsV_small (ps : List IP) : (0 ≤ (signsV ps).1 ∧ (signsV ps).1 ≤ 7) ∧ (signsV ps).2.1.size ≤ 35 := by
 unfold signsV
 by_cases g : arePts ps = true
 ·rw [if_pos g]
  obtain ⟨⟨h0, h1⟩, _⟩ := arePts_iff.1 g
  have := areOk_size (txtS_ok (sgPts ps) h0 h1)
  simp only
  omega
 ·rw [if_neg g]
  decide
theorem l3Draw_ok {l : List Int} (hl : l.length ≤ 1048576) {i : Int} (hc : Cur l i) (h : Int) : ∃ (n : Int) (t : ByteArray) (i' h' : Int), Ev (fun k => spec_l3Draw.f k l i h) (n, t, i', h') ∧ (0 ≤ n ∧ n ≤ 7) ∧ t.size ≤ 100 ∧ Cur l i' := by
 obtain ⟨b, i1, h1, e1, c1⟩ := once_ok hl hc h 5
 cases b with
 | true =>
  obtain ⟨x, i2, h2, e2, _, b2, c2⟩ := below_ok hl c1 h1 3
  have b2 := b2 (by omega)
  have key : ∀ (d x5 : Nat) (i h : Int) (t : ByteArray) (n : Int), n ∈ [(3 : Int), 4, 5] → x5 + d = 20 → t.size ≤ x5 → Cur l i → ∃ (t' : ByteArray) (i' h' : Int), Ev (fun k => spec_l3Draw.l0 k n (x5 : Int) l i h n t) (n, t', i', h') ∧ t'.size ≤ 100 ∧ Cur l i' := by
   intro d
   induction d with
   | zero =>
    intro x5 i h t n hn hd ht hc
    refine ⟨t, i, h, ev_step ?_, by omega, hc⟩
    simp only [spec_l3Draw.l0]
    refine ev_neg ?_ (Ev.now _)
    have : wrap64 (Int.tdiv (wrap64 ((wrap64 (n * (wrap64 (n - 1)))) * (wrap64 (n - 2)))) 6) ≤ 10 := by
     simp only [List.mem_cons, List.not_mem_nil, or_false] at hn
     rcases hn with rfl | rfl | rfl <;> decide +kernel
    omega
   | succ d ih =>
    intro x5 i h t n hn hd ht hc
    by_cases g : (x5 : Int) < wrap64 (Int.tdiv (wrap64 ((wrap64 (n * (wrap64 (n - 1)))) * (wrap64 (n - 2)))) 6)
    ·obtain ⟨y, i3, h3, e3, m3, c3⟩ := pick_ok hl hc h [(⟨#[43]⟩ : ByteArray), (⟨#[45]⟩ : ByteArray), (⟨#[43]⟩ : ByteArray)] (by simp)
     have hy : y.size = 1 := by
      simp only [List.mem_cons, List.not_mem_nil, or_false] at m3
      rcases m3 with rfl | rfl | rfl <;> rfl
     obtain ⟨t', i', h', e, r⟩ := ih (x5 + 1) i3 h3 (t ++ y) n hn (by omega) (by rw [ByteArray.size_append]; omega) c3
     refine ⟨t', i', h', ev_step ?_, r⟩
     simp only [spec_l3Draw.l0]
     rw [wrap_id (x := (x5 : Int) + 1) (by omega) (by omega)]
     exact ev_pos g (ev_call e3 (ev_pos (by simp only; omega) e))
    ·refine ⟨t, i, h, ev_step ?_, by omega, hc⟩
     simp only [spec_l3Draw.l0]
     exact ev_neg g (Ev.now _)
  have hn : (3 + x) ∈ [(3 : Int), 4, 5] := by
   have : x = 0 ∨ x = 1 ∨ x = 2 := by omega
   rcases this with rfl | rfl | rfl <;> decide
  obtain ⟨t', i', h', e, r⟩ := key 20 0 i2 h2 (⟨#[]⟩ : ByteArray) (3 + x) hn rfl (Nat.le_refl _) c2
  refine ⟨3 + x, t', i', h', ?_, by omega, r⟩
  unfold spec_l3Draw.f
  refine ev_call e1 (ev_pos (by trivial) (ev_call e2 ?_))
  simp only
  rw [wrap_id (by omega) (by omega)]
  exact e
 | false =>
  obtain ⟨ps, i2, h2, e2, m1, m2, c2⟩ := l2Draw_ok hl c1 h1
  have hs := spec_signsOf ps (by omega)
  have hb := signsV_small ps
  refine ⟨(signsV ps).1, (signsV ps).2.1, i2, h2, ?_, hb.1, by omega, c2⟩
  unfold spec_l3Draw.f
  exact ev_call e1 (ev_neg (by simp) (Ev.bind e2 (Ev.bind hs (Ev.now _))))
theorem l3Bent_ok {l : List Int} (hl : l.length ≤ 1048576) {i : Int} (hc : Cur l i) (h : Int) : ∃ (n : Int) (t : ByteArray) (i' h' : Int), Ev (fun k => spec_l3Bent.f k l i h) (n, t, i', h') ∧ (0 ≤ n ∧ n ≤ 8) ∧ t.size ≤ 101 ∧ Cur l i' := by
 obtain ⟨n, t, i1, h1, e1, m1, m2, c1⟩ := l3Draw_ok hl hc h
 obtain ⟨x, i2, h2, e2, _, _, c2⟩ := below_ok hl c1 h1 18
 by_cases g : x = 0
 ·obtain ⟨y, i3, h3, e3, m3, c3⟩ := pickInt_ok hl c2 h2 [2, 8, 4, 5] (by decide)
  have hy : 0 ≤ y ∧ y ≤ 8 := by
   simp only [List.mem_cons, List.not_mem_nil, or_false] at m3
   omega
  refine ⟨y, t, i3, h3, ?_, hy, by omega, c3⟩
  unfold spec_l3Bent.f
  exact Ev.bind e1 (ev_call e2 (ev_pos g (ev_call e3 (Ev.now _))))
 ·by_cases g1 : x = 1
  ·obtain ⟨y, i3, h3, e3, m3, c3⟩ := pick_ok hl c2 h2 [(⟨#[43]⟩ : ByteArray), (⟨#[48]⟩ : ByteArray)] (by simp)
   have hy : y.size = 1 := by
    simp only [List.mem_cons, List.not_mem_nil, or_false] at m3
    rcases m3 with rfl | rfl <;> rfl
   refine ⟨n, t ++ y, i3, h3, ?_, by omega, by rw [ByteArray.size_append]; omega, c3⟩
   unfold spec_l3Bent.f
   exact Ev.bind e1 (ev_call e2 (ev_neg g (ev_pos g1 (ev_call e3 (ev_pos (by simp only; omega) (Ev.now _))))))
  ·refine ⟨n, t, i2, h2, ?_, by omega, by omega, c2⟩
   unfold spec_l3Bent.f
   exact Ev.bind e1 (ev_call e2 (ev_neg g (ev_neg g1 (Ev.now _))))
end Go.Proofs.Ytckkfjdkaimmhaa.M
namespace Go.Proofs.Ytckkfjdkaimmhaa.PX
open Go.RowKit Go.Proofs.Ytckkfjdkaimmhaa.G Go.Proofs.YtckkfjdkaimmhaaW.PrintWords Go.Proofs.YtckkfjdkaimmhaaW.PrintLast Go.Proofs.YtckkfjdkaimmhaaW.PrintMore
attribute [local go_sem] max2_int min2_int max_two min_two max_three min_three max_four min_four   -- for this text's walks alone
set_option linter.unusedVariables false
set_option linter.unusedSimpArgs false
/-! ### impl_chi_reverse: function 87 -/
end Go.Proofs.Ytckkfjdkaimmhaa.PX
namespace Go.Proofs.Ytckkfjdkaimmhaa.M
open Go.RowKit Go.Proofs.YtckkfjdkaimmhaaW.PrintWords Go.Proofs.Ytckkfjdkaimmhaa.PX Go.Proofs.Ytckkfjdkaimmhaa.G Go.Proofs.YtckkfjdkaimmhaaW.PrintMore
def par (set : Int) (a b c : Nat) : Bool := decide (Go.bits .and .i64 (wrap64 ((wrap64 ((shr .i64 set (IntKind.u64.wrap (a : Int))) + (shr .i64 set (IntKind.u64.wrap (b : Int))))) + (shr .i64 set (IntKind.u64.wrap (c : Int))))) 1 = 1)
theorem u64_nat {a : Nat} (h : a ≤ 1000) : 0 ≤ IntKind.u64.wrap (a : Int) := by
 simp [IntKind.wrap, IntKind.signed, IntKind.bits]; omega
def revB (n : Nat) (set : Int) (s : Nat → Int) : Nat → Int := fun p => if par set (tripAt n p).f0.toNat (tripAt n p).f1.toNat (tripAt n p).f2.toNat then -(s p) else s p
theorem l4Reverse_ev {n : Nat} {t : ByteArray} (h : areOk n t = true) (set : Int) : Ev (fun k => spec_l4Reverse.f k (n : Int) t set) ((n : Int), txtS n (revB n set (sgB t))) := by
 obtain ⟨⟨h0, h1⟩, _, _⟩ := (areOk_iff _ _).1 h
 have h0 : 3 ≤ n := by omega
 have h1 : n ≤ 7 := by omega
 unfold spec_l4Reverse.f
 have key := loops3B (σ := List UInt8) (ρ := Int × ByteArray) (n := n) (K := fun u _ => some ((n : Int), mkB u)) (L0 := fun a u k => spec_l4Reverse.l0 k set a (n : Int) t (n : Int) (mkB u)) (L1 := fun a b u k => spec_l4Reverse.l1 k set a b (n : Int) t (n : Int) (mkB u))
  (L2 := fun a b c u k => spec_l4Reverse.l2 k set a b c (n : Int) t (n : Int) (mkB u)) h1 List.length 0 (fun u q => .ok (u ++ [sgC (if par set q.1 q.2.1 q.2.2 then -(chi n t q.1 q.2.1 q.2.2) else chi n t q.1 q.2.1 q.2.2)]))
  (foldlM_okL _ _ fun s a => by rw [List.length_append]; exact Nat.le_refl _) (fun u => ?_) (fun a ha u => ?_) (fun a ha u => ?_) (fun a b hab hb u => ?_) (fun a b hab hb u => ?_) (fun a b c hab hbc hc u hu => ?_) [] (Nat.le_refl _)
 ·rw [foldlM_ok, foldl_snoc, List.nil_append] at key
  refine ev_cast (key _ (Ev.now _)) ?_
  refine Prod.ext rfl ?_
  show mkB _ = txtS n _
  unfold txtS
  congr 1
  have e := tripN_L h0 h1
  have el : (tripsL n).length = (tripN n).length := by rw [e, List.length_map]
  refine List.ext_getElem (by rw [List.length_map, List.length_map, List.length_range, el]) fun p hp1 hp2 => ?_
  rw [List.length_map, List.length_range] at hp2
  obtain ⟨a, b, c, e1, hab, hbc, hc, hlk⟩ := trip_at h0 h1 hp2
  simp only [List.getElem_map, List.getElem_range, revB, tripAt_eq hp2, e1, Int.toNat_natCast]
  have e2 : (tripsL n)[p]'(by rw [el]; exact hp2) = (a, b, c) := by
   have : (tripN n)[p] = ⟨(((tripsL n)[p]'(by rw [el]; exact hp2)).1 : Int), (((tripsL n)[p]'(by rw [el]; exact hp2)).2.1 : Int), (((tripsL n)[p]'(by rw [el]; exact hp2)).2.2 : Int)⟩ := by
    simp only [e, List.getElem_map]
   rw [e1] at this
   injection this with i1 i2 i3
   refine Prod.ext ?_ (Prod.ext ?_ ?_)
   ·exact (Int.ofNat_inj.1 i1).symm
   ·exact (Int.ofNat_inj.1 i2).symm
   ·exact (Int.ofNat_inj.1 i3).symm
  rw [e2, chi_chiS, chiS_at _ hlk]
  rfl
 ·refine Goes.step ?_
  simp only [spec_l4Reverse.l0]
  exact Goes.neg (by omega) (Goes.ok (K := fun u _ => some ((n : Int), mkB u)) u)
 ·refine Goes.step ?_
  simp only [spec_l4Reverse.l0]
  refine Goes.pos (by omega) ?_
  rw [wrap_id (by omega) (by omega)]
  exact Goes.ok (K := fun u k => spec_l4Reverse.l1 k set (a : Int) ((a + 1 : Nat) : Int) (n : Int) t (n : Int) (mkB u)) u
 ·refine Goes.step ?_
  simp only [spec_l4Reverse.l1]
  refine Goes.neg (by omega) ?_
  rw [wrap_id (by omega) (by omega)]
  exact Goes.ok (K := fun u k => spec_l4Reverse.l0 k set ((a + 1 : Nat) : Int) (n : Int) t (n : Int) (mkB u)) u
 ·refine Goes.step ?_
  simp only [spec_l4Reverse.l1]
  refine Goes.pos (by omega) ?_
  rw [wrap_id (by omega) (by omega)]
  exact Goes.ok (K := fun u k => spec_l4Reverse.l2 k set (a : Int) (b : Int) ((b + 1 : Nat) : Int) (n : Int) t (n : Int) (mkB u)) u
 ·refine Goes.step ?_
  simp only [spec_l4Reverse.l2]
  refine Goes.neg (by omega) ?_
  rw [wrap_id (by omega) (by omega)]
  exact Goes.ok (K := fun u k => spec_l4Reverse.l1 k set (a : Int) ((b + 1 : Nat) : Int) (n : Int) t (n : Int) (mkB u)) u
 ·refine Goes.step ?_
  simp only [spec_l4Reverse.l2]
  refine Goes.pos (by omega) (Goes.ev (l3At_ev h (by omega) (by omega) hc (by omega) (by omega) (by omega)) (Goes.pos (u64_nat (by omega)) (Goes.pos (u64_nat (by omega)) (Goes.pos (u64_nat (by omega)) ?_))))
  have hpm := chi_pm (a := a) (b := b) (c := c) t h0 h1 (by omega) (by omega) hc (by omega) (by omega) (by omega)
  rw [wrap_id (x := (c : Int) + 1) (by omega) (by omega)]
  have fin : ∀ v, Goes (ρ := Int × ByteArray) (.ok (u ++ [sgC v])) (fun u k => spec_l4Reverse.l2 k set (a : Int) (b : Int) ((c + 1 : Nat) : Int) (n : Int) t (n : Int) (mkB u)) (fun k => if (mkB u).size + (mkB [sgC v]).size ≤ 9223372036854775807 then spec_l4Reverse.l2 k set (a : Int) (b : Int) ((c : Int) + 1) (n : Int) t (n : Int) (mkB u ++ mkB [sgC v]) else none) := fun v => by
   refine Goes.pos (by rw [mkB_size, mkB_size, List.length_cons, List.length_nil]; omega) ?_
   rw [mkB_append]
   exact Goes.ok (K := fun u k => spec_l4Reverse.l2 k set (a : Int) (b : Int) ((c + 1 : Nat) : Int) (n : Int) t (n : Int) (mkB u)) _
  by_cases g : par set a b c = true
  ·refine Goes.pos (of_decide_eq_true g) (Goes.call (byte_ev _) ?_)
   rw [wrap_id (by omega) (by omega)]
   simp only [g, if_true]
   exact fin _
  ·refine Goes.neg (fun e => g (decide_eq_true e)) (Goes.call (byte_ev _) ?_)
   simp only [g]
   exact fin _
end Go.Proofs.Ytckkfjdkaimmhaa.M
namespace Go.Proofs.Ytckkfjdkaimmhaa.PX
open Go.RowKit Go.Proofs.Ytckkfjdkaimmhaa.G Go.Proofs.YtckkfjdkaimmhaaW.PrintWords Go.Proofs.YtckkfjdkaimmhaaW.PrintLast Go.Proofs.YtckkfjdkaimmhaaW.PrintMore
attribute [local go_sem] max2_int min2_int max_two min_two max_three min_three max_four min_four   -- for this text's walks alone
set_option linter.unusedVariables false
set_option linter.unusedSimpArgs false
/-! ### spec_l3One: function 85 -/
/-! ### spec_l4Four: function 91 -/
/-! ### laws_hasInt: function 28 -/
end Go.Proofs.Ytckkfjdkaimmhaa.PX
namespace Go.Proofs.Ytckkfjdkaimmhaa.M
open Go.RowKit Go.Proofs.YtckkfjdkaimmhaaW.PrintWords Go.Proofs.Ytckkfjdkaimmhaa.PX Go.Proofs.Ytckkfjdkaimmhaa.G Go.Proofs.YtckkfjdkaimmhaaW.PrintMore
def SmallS (n : Int) (t : ByteArray) : Prop := (0 ≤ n ∧ n ≤ 8) ∧ t.size ≤ 101
theorem l4Draw_ok {l : List Int} (hl : l.length ≤ 1048576) {i : Int} (hc : Cur l i) (h : Int) : ∃ (n : Int) (t : ByteArray) (i' h' : Int), Ev (fun k => spec_l4Draw.f k l i h) (n, t, i', h') ∧ SmallS n t ∧ Cur l i' := by
 obtain ⟨n, t, i1, h1, e1, m1, m2, c1⟩ := l3Bent_ok hl hc h
 have ea := spec_are n t (by omega)
 have no : ∀ (i h : Int), Cur l i → ∃ (n' : Int) (t' : ByteArray) (i' h' : Int), Ev (fun k => spec_l4Draw.j0 k false l i h n t) (n', t', i', h') ∧ SmallS n' t' ∧ Cur l i' := fun i h hc => by
  refine ⟨n, t, i, h, ev_step ?_, ⟨m1, m2⟩, hc⟩
  simp only [spec_l4Draw.j0]
  exact ev_neg (by decide) (Ev.now _)
 by_cases g : areOk n t = true
 ·obtain ⟨b, i2, h2, e2, c2⟩ := once_ok hl c1 h1 4
  cases b with
  | false =>
   obtain ⟨n', t', i', h', e, r⟩ := no i2 h2 c2
   refine ⟨n', t', i', h', ?_, r⟩
   unfold spec_l4Draw.f
   exact Ev.bind e1 (Ev.bind ea (ev_pos g (ev_call e2 e)))
  | true =>
   obtain ⟨⟨h0, h1'⟩, _, _⟩ := (areOk_iff _ _).1 g
   obtain ⟨N, rfl⟩ := Int.eq_ofNat_of_zero_le m1.1
   obtain ⟨x, i3, h3, e3, _, b3, c3⟩ := below_ok hl c2 h2 (N : Int)
   have b3 := b3 (by omega)
   obtain ⟨y, rfl⟩ := Int.eq_ofNat_of_zero_le b3.1
   have er := l4Reverse_ev g (shl .i64 1 (IntKind.u64.wrap (y : Int)))
   have hs := areOk_size (txtS_ok (revB N (shl .i64 1 (IntKind.u64.wrap (y : Int))) (sgB t)) (n := N) (by omega) (by omega))
   refine ⟨(N : Int), _, i3, h3, ?_, ⟨m1, Nat.le_trans hs (by decide)⟩, c3⟩
   unfold spec_l4Draw.f
   refine Ev.bind e1 (Ev.bind ea (ev_pos g (ev_call e2 (ev_step ?_))))
   simp only [spec_l4Draw.j0]
   exact ev_pos (by trivial) (ev_call e3 (ev_pos (u64_nat (by omega)) (Ev.bind er (Ev.now _))))
 ·obtain ⟨n', t', i', h', e, r⟩ := no i1 h1 c1
  refine ⟨n', t', i', h', ?_, r⟩
  unfold spec_l4Draw.f
  exact Ev.bind e1 (Ev.bind ea (ev_neg g e))
theorem max_ev (a b : Int) : spec_l1Max.f a b = some (if a > b then a else b) := by
 unfold spec_l1Max.f
 split <;> rfl
theorem bit_ev (b : Bool) : spec_l1Bit.f b = some (if b = true then 1 else 0) := by cases b <;> rfl
theorem sameInts_self (l : List Int) (hl : l.length ≤ 10000000) : Ev (fun k => laws_sameInts.f k l l) true := by
 unfold laws_sameInts.f
 refine ev_pos rfl ?_
 have key : ∀ (d i : Nat), i + d = l.length → Ev (fun k => laws_sameInts.l0 k l l (i : Int)) true := by
  intro d
  induction d with
  | zero =>
   intro i hi
   refine ev_step ?_
   simp only [laws_sameInts.l0]
   exact ev_neg (by omega) (Ev.now _)
  | succ d ih =>
   intro i hi
   refine ev_step ?_
   simp only [laws_sameInts.l0]
   rw [wrap_id (by omega) (by omega)]
   exact ev_pos (by omega) (ev_pos (by omega) (ev_pos (by omega) (ev_pos (by trivial) (ih (i + 1) (by omega)))))
 exact key l.length 0 (by omega)
end Go.Proofs.Ytckkfjdkaimmhaa.M
namespace Go.Proofs.Ytckkfjdkaimmhaa.M
open Go.RowKit Go.Proofs.YtckkfjdkaimmhaaW.PrintWords Go.Proofs.Ytckkfjdkaimmhaa.PX Go.Proofs.YtckkfjdkaimmhaaW.PrintMore
def bitQ (set i : Int) : Int := Go.bits .and .i64 (shr .i64 set i) 1
def mask3 (a b c : Int) : Int := Go.bits .or .i64 (Go.bits .or .i64 (shl .i64 1 a) (shl .i64 1 b)) (shl .i64 1 c)
def remN (set i : Nat) : Nat := if set.testBit i then set - 2 ^ i else set
def bitChk : Bool := (List.range 8).all fun k => decide (IntKind.u64.wrap (k : Int) = (k : Int)) && decide (shl .i64 1 (k : Int) = ((2 ^ k : Nat) : Int)) && decide (2 ^ k ≤ 128) &&
 ((List.range 128).all fun s => decide (bitQ (s : Int) (k : Int) = if s.testBit k then 1 else 0))
theorem bitChk_ok : bitChk = true := by decide +kernel
theorem bit_facts {k : Nat} (hk : k ≤ 7) : IntKind.u64.wrap (k : Int) = (k : Int) ∧ shl .i64 1 (k : Int) = ((2 ^ k : Nat) : Int) ∧ 2 ^ k ≤ 128 ∧ ∀ s : Nat, s < 128 → bitQ (s : Int) (k : Int) = if s.testBit k then 1 else 0 := by
 have h := List.all_eq_true.1 bitChk_ok k (List.mem_range.2 (by omega))
 simp only [Bool.and_eq_true, decide_eq_true_eq, List.all_eq_true, List.mem_range] at h
 exact ⟨h.1.1.1, h.1.1.2, h.1.2, h.2⟩
theorem u64_id {k : Nat} (hk : k ≤ 7) : IntKind.u64.wrap (k : Int) = (k : Int) := (bit_facts hk).1
theorem shl_id {k : Nat} (hk : k ≤ 7) : shl .i64 1 (k : Int) = ((2 ^ k : Nat) : Int) := (bit_facts hk).2.1
theorem pow_128 {k : Nat} (hk : k ≤ 7) : 2 ^ k ≤ 128 := (bit_facts hk).2.2.1
theorem bitQ_eq {s k : Nat} (hs : s < 128) (hk : k ≤ 7) : bitQ (s : Int) (k : Int) = if s.testBit k then 1 else 0 := (bit_facts hk).2.2.2 s hs
def setChk : Bool := (List.range 128).all fun s => ((List.range 7).all fun i => decide (Go.bits .andNot .i64 (s : Int) (shl .i64 1 (i : Int)) = (remN s i : Int)) && decide (remN s i < 128) && ((List.range 7).all fun a => (remN s i).testBit a == (s.testBit a && decide (a ≠ i)))) &&
 ((tripsL 7).all fun q => (decide (Go.bits .and .i64 (s : Int) (mask3 q.1 q.2.1 q.2.2) = mask3 q.1 q.2.1 q.2.2)) == (s.testBit q.1 && s.testBit q.2.1 && s.testBit q.2.2)) &&
 ((List.range 7).all fun i => !decide (s < 2 ^ i) || (decide (Go.bits .or .i64 (s : Int) (shl .i64 1 (i : Int)) = ((s + 2 ^ i : Nat) : Int)) && ((List.range 7).all fun j => (s + 2 ^ i).testBit j == (s.testBit j || decide (j = i)))))
theorem setChk_ok : setChk = true := by decide +kernel
theorem set_facts {s : Nat} (hs : s < 128) : (∀ i : Nat, i < 7 → Go.bits .andNot .i64 (s : Int) (shl .i64 1 (i : Int)) = (remN s i : Int) ∧ remN s i < 128 ∧ ∀ a : Nat, a < 7 → (remN s i).testBit a = (s.testBit a && decide (a ≠ i))) ∧
  (∀ a b c : Nat, a < b → b < c → c < 7 → (Go.bits .and .i64 (s : Int) (mask3 a b c) = mask3 a b c ↔ (s.testBit a = true ∧ s.testBit b = true ∧ s.testBit c = true))) ∧
  (∀ i : Nat, i < 7 → s < 2 ^ i → Go.bits .or .i64 (s : Int) (shl .i64 1 (i : Int)) = ((s + 2 ^ i : Nat) : Int) ∧ ∀ j : Nat, j < 7 → (s + 2 ^ i).testBit j = (s.testBit j || decide (j = i))) := by
 have h := List.all_eq_true.1 setChk_ok s (List.mem_range.2 hs)
 simp only [Bool.and_eq_true] at h
 obtain ⟨⟨h1, h2⟩, h3⟩ := h
 refine ⟨fun i hi => ?_, fun a b c hab hbc hc => ?_, fun i hi hlt => ?_⟩
 ·have h := List.all_eq_true.1 h1 i (List.mem_range.2 hi)
  simp only [Bool.and_eq_true, decide_eq_true_eq, List.all_eq_true, List.mem_range, beq_iff_eq] at h
  exact ⟨h.1.1, h.1.2, h.2⟩
 ·have h := List.all_eq_true.1 h2 (a, b, c) (trips_mem hab hbc hc)
  have h := beq_iff_eq.1 h
  rw [← decide_eq_true_iff (p := Go.bits .and .i64 (s : Int) (mask3 a b c) = mask3 a b c), h, Bool.and_eq_true, Bool.and_eq_true, and_assoc]
 ·have h := List.all_eq_true.1 h3 i (List.mem_range.2 hi)
  rw [decide_eq_true hlt] at h
  simp only [Bool.not_true, Bool.false_or, Bool.and_eq_true, decide_eq_true_eq, List.all_eq_true, List.mem_range, beq_iff_eq] at h
  exact h
def sumN (c : Nat → Bool) : Nat → Nat
 | 0 => 0
 | i + 1 => if c i then sumN c i + 2 ^ i else sumN c i
theorem sumN_lt (c : Nat → Bool) (i : Nat) : sumN c i < 2 ^ i := by
 induction i with
 | zero => exact Nat.one_pos
 | succ i ih =>
  rw [sumN, Nat.pow_succ]
  split <;> omega
theorem sumN_lt7 (c : Nat → Bool) {i : Nat} (hi : i ≤ 7) : sumN c i < 128 := Nat.lt_of_lt_of_le (sumN_lt c i) (pow_128 hi)
theorem sumN_bit (c : Nat → Bool) {i j : Nat} (hi : i ≤ 7) (hj : j < i) : (sumN c i).testBit j = c j := by
 have key : ∀ i, i ≤ 7 → ∀ j, j < 7 → (sumN c i).testBit j = (decide (j < i) && c j) := by
  intro i
  induction i with
  | zero => intro _ j _; simp [sumN]
  | succ i ih =>
   intro hi j hj
   rw [sumN]
   have := ih (by omega) j hj
   by_cases g : c i = true
   ·rw [if_pos g, ((set_facts (sumN_lt7 c (i := i) (by omega))).2.2 i (by omega) (sumN_lt c i)).2 j hj, this]
    by_cases e : j = i
    ·subst e; simp [g]
    ·rw [decide_eq_false e, Bool.or_false]
     congr 1
     exact decide_eq_decide.2 (by omega)
   ·rw [if_neg g, this]
    by_cases e : j = i
    ·subst e; simp [g]
    ·congr 1
     exact decide_eq_decide.2 (by omega)
 rw [key i hi j (by omega), decide_eq_true hj, Bool.true_and]
theorem full_sum {n : Nat} (hn : n ≤ 7) : sumN (fun _ => true) n = 2 ^ n - 1 := by
 induction n with
 | zero => rfl
 | succ n ih =>
  rw [sumN, if_pos rfl, ih (by omega), Nat.pow_succ]
  have : 0 < 2 ^ n := Nat.pow_pos (by omega)
  omega
theorem full_bit {n j : Nat} (hn : n ≤ 7) (hj : j < n) : (2 ^ n - 1).testBit j = true := by
 rw [← full_sum hn, sumN_bit _ hn hj]
theorem full_lt {n : Nat} (hn : n ≤ 7) : 2 ^ n - 1 < 128 := by
 have := pow_128 hn
 have : 0 < 2 ^ n := Nat.pow_pos (by omega)
 omega
def onlyV (s : Nat) : Int := match (List.range 7).find? (fun i => s == 2 ^ i) with | some i => (i : Int) | none => -1
def onlyChk : Bool := (List.range 128).all fun s => decide (impl_single.f 20 (s : Int) = some (onlyV s)) && decide (spec_l5Only.f 20 (s : Int) = some (onlyV s))
theorem onlyChk_ok : onlyChk = true := by decide +kernel
theorem single_ev {s : Nat} (hs : s < 128) : Ev (fun k => impl_single.f k (s : Int)) (onlyV s) := by
 have h := List.all_eq_true.1 onlyChk_ok s (List.mem_range.2 hs)
 simp only [Bool.and_eq_true, decide_eq_true_eq] at h
 exact Ev.of (impl_single.mono _) h.1
theorem only_ev {s : Nat} (hs : s < 128) : Ev (fun k => spec_l5Only.f k (s : Int)) (onlyV s) := by
 have h := List.all_eq_true.1 onlyChk_ok s (List.mem_range.2 hs)
 simp only [Bool.and_eq_true, decide_eq_true_eq] at h
 exact Ev.of (spec_l5Only.mono _) h.2
def popN (s : Nat) : Nat := ((List.range 7).filter fun i => s.testBit i).length
end Go.Proofs.Ytckkfjdkaimmhaa.M
namespace Go.Proofs.Ytckkfjdkaimmhaa.PX
open Go.RowKit Go.Proofs.Ytckkfjdkaimmhaa.G Go.Proofs.YtckkfjdkaimmhaaW.PrintWords Go.Proofs.YtckkfjdkaimmhaaW.PrintLast Go.Proofs.YtckkfjdkaimmhaaW.PrintMore
attribute [local go_sem] max2_int min2_int max_two min_two max_three min_three max_four min_four   -- for this text's walks alone
set_option linter.unusedVariables false
set_option linter.unusedSimpArgs false
/-! ### laws_total: function 78 -/
/-! ### spec_l5Four: function 104 -/
/-! ### laws_size: function 47 -/
end Go.Proofs.Ytckkfjdkaimmhaa.PX
namespace Go.Proofs.Ytckkfjdkaimmhaa.M
open Go.RowKit Go.Proofs.YtckkfjdkaimmhaaW.PrintWords Go.Proofs.Ytckkfjdkaimmhaa.PX Go.Proofs.Ytckkfjdkaimmhaa.G Go.Proofs.YtckkfjdkaimmhaaW.PrintMore
theorem l5Draw_ok {l : List Int} (hl : l.length ≤ 1048576) {i : Int} (hc : Cur l i) (h : Int) : ∃ (n : Int) (t : ByteArray) (i' h' : Int), Ev (fun k => spec_l5Draw.f k l i h) (n, t, i', h') ∧ SmallS n t ∧ Cur l i' := by
 obtain ⟨b, i1, h1, e1, c1⟩ := once_ok hl hc h 8
 cases b with
 | true =>
  obtain ⟨n, t, i2, h2, e2, s, c2⟩ := l4Draw_ok hl c1 h1
  refine ⟨n, t, i2, h2, ?_, s, c2⟩
  unfold spec_l5Draw.f
  exact ev_call e1 (ev_pos (by trivial) (Ev.bind e2 (Ev.now _)))
 | false =>
  obtain ⟨ps, i2, h2, e2, _, m, c2⟩ := l2Draw_ok hl c1 h1
  have z := signsV_small ps
  refine ⟨(signsV ps).1, (signsV ps).2.1, i2, h2, ?_, ⟨by omega, by omega⟩, c2⟩
  unfold spec_l5Draw.f
  exact ev_call e1 (ev_neg (by simp) (Ev.bind e2 (Ev.bind (spec_signsOf ps (by omega)) (Ev.now _))))
theorem l5New_ok {l : List Int} (hl : l.length ≤ 1048576) : ∃ (h : Int) (n : Int) (t : ByteArray) (i' h' : Int), Ev (fun k => spec_l1New.f k l) (l, 0, h) ∧ Ev (fun k => spec_l5Draw.f k l 0 h) (n, t, i', h') ∧ SmallS n t ∧ Cur l i' := by
 obtain ⟨h, hn⟩ := new_ok l hl
 obtain ⟨n, t, i, h', e, s, c⟩ := l5Draw_ok hl (cur0 l) h
 exact ⟨h, n, t, i, h', hn, e, s, c⟩
theorem l6One_ok {l : List Int} (hl : l.length ≤ 1048576) : ∃ (n : Int) (t : ByteArray) (x : Int), Ev (fun k => spec_l6One.f k l) (n, t, x) ∧ SmallS n t := by
 obtain ⟨h, n, t, i1, h1, hn, e1, m1, c1⟩ := l5New_ok hl
 obtain ⟨x, i2, h2, e2, _, _, c2⟩ := below_ok hl c1 h1 (if (1 : Int) > n then 1 else n)
 obtain ⟨b, i3, h3, e3, c3⟩ := once_ok hl c2 h2 14
 refine ⟨n, t, wrap64 (x - (if b = true then 1 else 0)), ?_, m1⟩
 unfold spec_l6One.f
 exact Ev.bind hn (Ev.bind e1 (ev_call (max_ev 1 n) (ev_call e2 (ev_call e3 (ev_call (bit_ev b) (Ev.now _))))))
theorem rdLL {l : List (List Int)} {i : Nat} (h : i < l.length) : rd_L6 l (i : Int) = l[i] := by
 unfold rd_L6
 rw [Int.toNat_natCast, List.getD_eq_getElem?_getD, List.getElem?_eq_getElem h]; rfl
theorem sameLists_self (L : List (List Int)) (hl : L.length ≤ 10000 ∧ ∀ r ∈ L, r.length ≤ 10000) : Ev (fun k => laws_sameLists.f k L L) true := by
 unfold laws_sameLists.f
 refine ev_pos rfl ?_
 have l0 := hl.1
 have key : ∀ (d i : Nat), i + d = L.length → Ev (fun k => laws_sameLists.l0 k L L (i : Int)) true := by
  intro d
  induction d with
  | zero =>
   intro i hi
   refine ev_step ?_
   simp only [laws_sameLists.l0]
   exact ev_neg (by omega) (Ev.now _)
  | succ d ih =>
   intro i hi
   refine ev_step ?_
   simp only [laws_sameLists.l0]
   rw [wrap_id (by omega) (by omega), rdLL (show i < L.length by omega)]
   exact ev_pos (by omega) (ev_pos (by omega) (ev_pos (by omega) (Ev.bind (sameInts_self _ (Nat.le_trans (hl.2 _ (List.getElem_mem _)) (by decide))) (ev_pos rfl (ih (i + 1) (by omega))))))
 exact key L.length 0 (by omega)
end Go.Proofs.Ytckkfjdkaimmhaa.M
namespace Go.Proofs.Ytckkfjdkaimmhaa.PX
open Go.RowKit Go.Proofs.Ytckkfjdkaimmhaa.G Go.Proofs.YtckkfjdkaimmhaaW.PrintWords Go.Proofs.YtckkfjdkaimmhaaW.PrintLast Go.Proofs.YtckkfjdkaimmhaaW.PrintMore
attribute [local go_sem] max2_int min2_int max_two min_two max_three min_three max_four min_four   -- for this text's walks alone
set_option linter.unusedVariables false
set_option linter.unusedSimpArgs false
/-! ### spec_SignAt: function 97 -/
/-! ### impl_CircuitOf: function 18 -/
/-! ### spec_CircuitOf: function 19 -/
end Go.Proofs.Ytckkfjdkaimmhaa.PX
namespace Go.Proofs.Ytckkfjdkaimmhaa.M
open Go.RowKit Go.Proofs.YtckkfjdkaimmhaaW.PrintWords Go.Proofs.Ytckkfjdkaimmhaa.PX Go.Proofs.Ytckkfjdkaimmhaa.G
def sB (x : Int) : UInt8 := if x > 0 then 43 else 45
def circT (A B C D : Int) : ByteArray := ⟨#[43, sB (-A * B), sB (A * C), sB (-A * D)]⟩
def pm : List Int := [1, -1]
def circChk : Bool := pm.all fun A => pm.all fun B => pm.all fun C => pm.all fun D => decide (impl_chi_circuit.l0 20 ([] : List Int) [A, wrap64 (-B), C, wrap64 (-D)] 4 0 = some (circT A B C D))
theorem circChk_ok : circChk = true := by decide +kernel
theorem pm_mem {x : Int} (h : x = 1 ∨ x = -1) : x ∈ pm := by rcases h with h | h <;> rw [h] <;> decide
theorem circ_loop {A B C D : Int} (hA : A = 1 ∨ A = -1) (hB : B = 1 ∨ B = -1) (hC : C = 1 ∨ C = -1) (hD : D = 1 ∨ D = -1) : Ev (fun k => impl_chi_circuit.l0 k ([] : List Int) [A, wrap64 (-B), C, wrap64 (-D)] 4 0) (circT A B C D) := by
 have h := circChk_ok
 have h := List.all_eq_true.1 h A (pm_mem hA)
 have h := List.all_eq_true.1 h B (pm_mem hB)
 have h := List.all_eq_true.1 h C (pm_mem hC)
 have h := List.all_eq_true.1 h D (pm_mem hD)
 exact Ev.of (fun k => impl_chi_circuit.mono_l k _ _ _ _) (of_decide_eq_true h)
theorem chi_circuit_ev {n : Nat} {t : ByteArray} (h : areOk n t = true) {a b c d : Nat} (ha : a < n) (hb : b < n) (hc : c < n) (hd : d < n) (e1 : a ≠ b) (e2 : a ≠ c) (e3 : a ≠ d) (e4 : b ≠ c) (e5 : b ≠ d) (e6 : c ≠ d) :
  Ev (fun k => impl_chi_circuit.f k (tblL n t) (a : Int) (b : Int) (c : Int) (d : Int)) (circT (chi n t b c d) (chi n t a c d) (chi n t a b d) (chi n t a b c)) := by
 obtain ⟨⟨h0, h1⟩, _, _⟩ := (areOk_iff _ _).1 h
 have h0 : 3 ≤ n := by omega
 have h1 : n ≤ 7 := by omega
 unfold impl_chi_circuit.f
 refine ev_pos (by omega) (ev_pos (by omega) (ev_pos (by omega) (ev_pos (by omega) (ev_pos (by omega) (ev_pos (by omega) (ev_pos (by omega) (ev_pos (by omega) ?_)))))))
 rw [tbl_rd n t b c d (by omega) (by omega) (by omega), tbl_rd n t a c d (by omega) (by omega) (by omega), tbl_rd n t a b d (by omega) (by omega) (by omega), tbl_rd n t a b c (by omega) (by omega) (by omega)]
 exact ev_call rfl (circ_loop (chi_pm t h0 h1 hb hc hd e4 e6 e5) (chi_pm t h0 h1 ha hc hd e2 e6 e3) (chi_pm t h0 h1 ha hb hd e1 e5 e3) (chi_pm t h0 h1 ha hb hc e1 e4 e2))
theorem byte_f {x : Int} : ∃ v : ByteArray, spec_l3Byte.f x = some v ∧ v = ⟨#[sB x]⟩ := by
 unfold spec_l3Byte.f sB
 split
 ·exact ⟨_, rfl, rfl⟩
 ·exact ⟨_, rfl, rfl⟩
theorem l3Byte_ev (x : Int) : spec_l3Byte.f x = some ⟨#[sB x]⟩ := by
 obtain ⟨v, h, e⟩ := byte_f (x := x)
 rw [h, e]
theorem spec_circ4 {n : Nat} {t : ByteArray} (h : areOk n t = true) {a b c d : Nat} (ha : a < n) (hb : b < n) (hc : c < n) (hd : d < n) (e1 : a ≠ b) (e2 : a ≠ c) (e3 : a ≠ d) (e4 : b ≠ c) (e5 : b ≠ d) (e6 : c ≠ d) :
  Ev (fun k => spec_l4Circuit.f k (n : Int) t (a : Int) (b : Int) (c : Int) (d : Int)) (circT (chi n t b c d) (chi n t a c d) (chi n t a b d) (chi n t a b c)) := by
 obtain ⟨⟨h0, h1⟩, _, _⟩ := (areOk_iff _ _).1 h
 have h0 : 3 ≤ n := by omega
 have h1 : n ≤ 7 := by omega
 unfold spec_l4Circuit.f
 refine Ev.bind (l3At_ev h hb hc hd e4 e6 e5) (Ev.bind (l3At_ev h ha hc hd e2 e6 e3) (ev_call (l3Byte_ev _) (ev_pos (by show (1 : Nat) + 1 ≤ 9223372036854775807; omega) ?_)))
 refine Ev.bind (l3At_ev h ha hb hd e1 e5 e3) (ev_call (l3Byte_ev _) (ev_pos (by show (1 : Nat) + 1 + 1 ≤ 9223372036854775807; omega) ?_))
 refine Ev.bind (l3At_ev h ha hb hc e1 e4 e2) (ev_call (l3Byte_ev _) (ev_pos (by show (1 : Nat) + 1 + 1 + 1 ≤ 9223372036854775807; omega) (ev_cast (Ev.now _) ?_)))
 rcases chi_pm t h0 h1 hb hc hd e4 e6 e5 with A | A <;> rcases chi_pm t h0 h1 ha hc hd e2 e6 e3 with B | B <;> rcases chi_pm t h0 h1 ha hb hd e1 e5 e3 with C | C <;> rcases chi_pm t h0 h1 ha hb hc e1 e4 e2 with D | D <;> rw [A, B, C, D] <;> decide +kernel
def allPlus (n : Nat) (t : ByteArray) (q : Nat × Nat × Nat × Nat) : Bool := decide ((circT (chi n t q.2.1 q.2.2.1 q.2.2.2) (chi n t q.1 q.2.2.1 q.2.2.2) (chi n t q.1 q.2.1 q.2.2.2) (chi n t q.1 q.2.1 q.2.2.1)).toList = ([43, 43, 43, 43] : List UInt8))
def acyc (n : Nat) (t : ByteArray) : Bool := !((quadsL n).any (allPlus n t))
theorem quadQ_L {n : Nat} (h0 : 3 ≤ n) (h1 : n ≤ 7) : quadQ n = quadsL n ∧ (quadsL n).length ≤ 35 := by
 refine five (p := fun n => quadQ n = quadsL n ∧ (quadsL n).length ≤ 35) h0 h1 ?_ ?_ ?_ ?_ ?_ <;> decide +kernel
theorem spec_acyc {n : Nat} {t : ByteArray} (h : areOk n t = true) : Ev (fun k => spec_l4Acyclic.f k (n : Int) t) (acyc n t) := by
 obtain ⟨⟨h0, h1⟩, _, _⟩ := (areOk_iff _ _).1 h
 have h0 : 3 ≤ n := by omega
 have h1 : n ≤ 7 := by omega
 unfold spec_l4Acyclic.f
 have key := loops4 (σ := Unit) (ρ := Bool) (n := n) (K := fun _ _ => some true) (L0 := fun a _ k => spec_l4Acyclic.l0 k a (n : Int) t) (L1 := fun a b _ k => spec_l4Acyclic.l1 k a b (n : Int) t) (L2 := fun a b c _ k => spec_l4Acyclic.l2 k a b c (n : Int) t)
  (L3 := fun a b c d _ k => spec_l4Acyclic.l3 k a b c d (n : Int) t) (fun _ q => if allPlus n t q then .error false else .ok ()) (fun u => ?_) (fun a ha u => ?_) (fun a ha u => ?_) (fun a b hab hb u => ?_) (fun a b hab hb u => ?_) (fun a b c hab hbc hc u => ?_) (fun a b c hab hbc hc u => ?_) (fun a b c d hab hbc hcd hd u => ?_) ()
 ·rw [foldlM_any] at key
  unfold acyc
  cases hq : (quadsL n).any (allPlus n t) with
  | true => rw [hq] at key; exact key
  | false => rw [hq] at key; exact key _ (Ev.now _)
 ·refine Goes.step ?_
  simp only [spec_l4Acyclic.l0]
  exact Goes.neg (by omega) (Goes.ok (K := fun _ _ => some true) u)
 ·refine Goes.step ?_
  simp only [spec_l4Acyclic.l0]
  refine Goes.pos (by omega) ?_
  rw [wrap_id (by omega) (by omega)]
  exact Goes.ok (K := fun _ k => spec_l4Acyclic.l1 k (a : Int) ((a + 1 : Nat) : Int) (n : Int) t) u
 ·refine Goes.step ?_
  simp only [spec_l4Acyclic.l1]
  refine Goes.neg (by omega) ?_
  rw [wrap_id (by omega) (by omega)]
  exact Goes.ok (K := fun _ k => spec_l4Acyclic.l0 k ((a + 1 : Nat) : Int) (n : Int) t) u
 ·refine Goes.step ?_
  simp only [spec_l4Acyclic.l1]
  refine Goes.pos (by omega) ?_
  rw [wrap_id (by omega) (by omega)]
  exact Goes.ok (K := fun _ k => spec_l4Acyclic.l2 k (a : Int) (b : Int) ((b + 1 : Nat) : Int) (n : Int) t) u
 ·refine Goes.step ?_
  simp only [spec_l4Acyclic.l2]
  refine Goes.neg (by omega) ?_
  rw [wrap_id (by omega) (by omega)]
  exact Goes.ok (K := fun _ k => spec_l4Acyclic.l1 k (a : Int) ((b + 1 : Nat) : Int) (n : Int) t) u
 ·refine Goes.step ?_
  simp only [spec_l4Acyclic.l2]
  refine Goes.pos (by omega) ?_
  rw [wrap_id (by omega) (by omega)]
  exact Goes.ok (K := fun _ k => spec_l4Acyclic.l3 k (a : Int) (b : Int) (c : Int) ((c + 1 : Nat) : Int) (n : Int) t) u
 ·refine Goes.step ?_
  simp only [spec_l4Acyclic.l3]
  refine Goes.neg (by omega) ?_
  rw [wrap_id (by omega) (by omega)]
  exact Goes.ok (K := fun _ k => spec_l4Acyclic.l2 k (a : Int) (b : Int) ((c + 1 : Nat) : Int) (n : Int) t) u
 ·refine Goes.step ?_
  simp only [spec_l4Acyclic.l3]
  refine Goes.pos (by omega) (Goes.ev (spec_circ4 h (by omega) (by omega) (by omega) hd (by omega) (by omega) (by omega) (by omega) (by omega) (by omega)) ?_)
  rw [wrap_id (by omega) (by omega)]
  by_cases g : allPlus n t (a, b, c, d) = true
  ·rw [if_pos g]
   exact Goes.pos (of_decide_eq_true g) (Goes.ret _)
  ·rw [if_neg g]
   exact Goes.neg (fun e => g (decide_eq_true e)) (Goes.ok (K := fun _ k => spec_l4Acyclic.l3 k (a : Int) (b : Int) (c : Int) ((d + 1 : Nat) : Int) (n : Int) t) u)
theorem impl_acyc {n : Nat} {t : ByteArray} (h : areOk n t = true) : Ev (fun k => impl_chi_isAcyclic.f k (tblL n t)) (acyc n t) := by
 obtain ⟨⟨h0, h1⟩, _, _⟩ := (areOk_iff _ _).1 h
 have h0 : 3 ≤ n := by omega
 have h1 : n ≤ 7 := by omega
 obtain ⟨hq, hq35⟩ := quadQ_L h0 h1
 unfold impl_chi_isAcyclic.f
 rw [tbl_n]
 refine Ev.bind (quads_ev h0 h1) ?_
 rw [hq]
 have hl : ((quadsL n).map toS4).length = (quadsL n).length := List.length_map ..
 have key := loop_up (σ := Unit) (ρ := Bool) (lo := 0) (n := (quadsL n).length) (K := fun _ _ => some true) (L := fun i _ k => impl_chi_isAcyclic.l0 k (tblL n t) ((quadsL n).map toS4) (((quadsL n).map toS4).length : Int) i)
  (fun _ i => if allPlus n t ((quadsL n).getD i (0, 0, 0, 0)) then .error false else .ok ()) (fun u => ?_) (fun i _ hi u => ?_) (by omega) ()
 ·rw [foldlM_index (0, 0, 0, 0) (fun _ q => if allPlus n t q then (.error false : Except Bool Unit) else .ok ()), foldlM_any] at key
  unfold acyc
  cases hq : (quadsL n).any (allPlus n t) with
  | true => rw [hq] at key; exact key
  | false => rw [hq] at key; exact key _ (Ev.now _)
 ·refine Goes.step ?_
  simp only [impl_chi_isAcyclic.l0]
  exact Goes.neg (by omega) (Goes.ok (K := fun _ _ => some true) u)
 ·have hg : (quadsL n).getD i (0, 0, 0, 0) = (quadsL n)[i] := by rw [List.getD_eq_getElem?_getD, List.getElem?_eq_getElem hi]; rfl
  have hm := List.getElem_mem hi
  rw [hg]
  refine Goes.step ?_
  simp only [impl_chi_isAcyclic.l0, rd_toS4 hi]
  generalize (quadsL n)[i] = q at *
  obtain ⟨a, b, c, d⟩ := q
  obtain ⟨hab, hbc, hcd, hd⟩ := mem_quads hm
  simp only [toS4]
  refine Goes.pos (by omega) (Goes.pos (by omega) (Goes.pos (by omega) (Goes.ev (chi_circuit_ev h (by omega) (by omega) (by omega) hd (by omega) (by omega) (by omega) (by omega) (by omega) (by omega)) ?_)))
  rw [wrap_id (by omega) (by omega)]
  by_cases g : allPlus n t (a, b, c, d) = true
  ·rw [if_pos g]
   exact Goes.pos (of_decide_eq_true g) (Goes.ret _)
  ·rw [if_neg g]
   exact Goes.neg (fun e => g (decide_eq_true e)) (Goes.ok (K := fun _ k => impl_chi_isAcyclic.l0 k (tblL n t) ((quadsL n).map toS4) (((quadsL n).map toS4).length : Int) ((i + 1 : Nat) : Int)) u)
theorem impl_mat (n : Int) (t : ByteArray) (hs : t.size ≤ 9223372036854775807) : impl_IsMatroid.f n t = some (matOk n t) := if_pos hs
theorem spec_mat (n : Int) (t : ByteArray) (hs : t.size ≤ 9223372036854775807) : Ev (fun k => spec_IsMatroid.f k n t) (matOk n t) := by
 unfold spec_IsMatroid.f matOk
 refine Ev.bind (spec_are n t hs) ?_
 cases h : areOk n t with
 | true =>
  refine ev_pos (by trivial) (Ev.bind (spec_break n t hs) (ev_cast (Ev.now _) ?_))
  cases brkA n t with
  | nil => rfl
  | cons x l => rw [Bool.true_and, List.isEmpty_cons, List.length_cons]; exact beq_eq_false_iff_ne.2 (by omega)
 | false => exact ev_neg (by decide) (Ev.now _)
theorem mat_are {n : Int} {t : ByteArray} (h : matOk n t = true) : areOk n t = true := by
 unfold matOk at h
 rw [Bool.and_eq_true] at h
 exact h.1
def acyOk (n : Int) (t : ByteArray) : Bool := matOk n t && acyc n.toNat t
theorem impl_isA (n : Int) (t : ByteArray) (hs : t.size ≤ 9223372036854775807) : Ev (fun k => impl_IsAcyclic.f k n t) (acyOk n t) := by
 unfold impl_IsAcyclic.f acyOk
 refine ev_call (impl_mat n t hs) ?_
 cases h : matOk n t with
 | false => exact ev_neg (by decide) (Ev.now _)
 | true =>
  have ha := mat_are h
  obtain ⟨⟨h0, h1⟩, _, _⟩ := (areOk_iff _ _).1 ha
  obtain ⟨N, rfl⟩ : ∃ N : Nat, n = (N : Int) := Int.eq_ofNat_of_zero_le (by omega)
  exact ev_pos (by trivial) (Ev.bind (tableOf_ev ha) (ev_pos (tblL_length _ _) (Ev.bind (impl_acyc ha) (Ev.now _))))
theorem spec_isA (n : Int) (t : ByteArray) (hs : t.size ≤ 9223372036854775807) : Ev (fun k => spec_IsAcyclic.f k n t) (acyOk n t) := by
 unfold spec_IsAcyclic.f acyOk
 refine Ev.bind (spec_mat n t hs) ?_
 cases h : matOk n t with
 | false => exact ev_neg (by decide) (Ev.now _)
 | true =>
  have ha := mat_are h
  obtain ⟨⟨h0, h1⟩, _, _⟩ := (areOk_iff _ _).1 ha
  obtain ⟨N, rfl⟩ : ∃ N : Nat, n = (N : Int) := Int.eq_ofNat_of_zero_le (by omega)
  exact ev_pos (by trivial) (Ev.bind (spec_acyc ha) (Ev.now _))
end Go.Proofs.Ytckkfjdkaimmhaa.M
namespace Go.Proofs.Ytckkfjdkaimmhaa.M
open Go.RowKit Go.Proofs.YtckkfjdkaimmhaaW.PrintWords Go.Proofs.Ytckkfjdkaimmhaa.PX Go.Proofs.Ytckkfjdkaimmhaa.G Go.Proofs.YtckkfjdkaimmhaaW.PrintMore
def splitN (p q r : Bool) (a b c d : Nat) : Nat × Nat :=
 (2 ^ a + (if p then 2 ^ b else 0) + (if q then 2 ^ c else 0) + (if r then 2 ^ d else 0), (if p then 0 else 2 ^ b) + (if q then 0 else 2 ^ c) + (if r then 0 else 2 ^ d))
def twos : List Bool := [true, false]
def dist4 (a b c d : Nat) : Bool := decide (a ≠ b) && decide (a ≠ c) && decide (a ≠ d) && decide (b ≠ c) && decide (b ≠ d) && decide (c ≠ d)
def orS (l : List Nat) : Int := l.foldl (fun (s : Int) (k : Nat) => Go.bits .or .i64 s (shl .i64 1 (k : Int))) 0
def adS (l : List Nat) : Int := l.foldl (fun (s : Int) (k : Nat) => wrap64 (s + shl .i64 1 (k : Int))) 0
def sumL (l : List Nat) : Nat := l.foldl (fun s k => s + 2 ^ k) 0
def okL (l : List Nat) : Bool := decide (orS l = (sumL l : Int)) && decide (adS l = (sumL l : Int)) && decide (sumL l < 128)
def orChk : Bool := (List.range 7).all fun a => (List.range 7).all fun b => (List.range 7).all fun c => (List.range 7).all fun d => !dist4 a b c d || (okL [a, b, c, d] && okL [a, b, c] && okL [a, b] && okL [a] && okL [])
theorem orChk_ok : orChk = true := by decide +kernel
theorem ok_all {a b c d : Nat} (ha : a < 7) (hb : b < 7) (hc : c < 7) (hd : d < 7) (h : dist4 a b c d = true) : okL [a, b, c, d] = true ∧ okL [a, b, c] = true ∧ okL [a, b] = true ∧ okL [a] = true ∧ okL [] = true := by
 have g := List.all_eq_true.1 orChk_ok a (List.mem_range.2 ha)
 have g := List.all_eq_true.1 g b (List.mem_range.2 hb)
 have g := List.all_eq_true.1 g c (List.mem_range.2 hc)
 have g := List.all_eq_true.1 g d (List.mem_range.2 hd)
 rw [h] at g
 simp only [Bool.not_true, Bool.false_or, Bool.and_eq_true] at g
 exact ⟨g.1.1.1.1, g.1.1.1.2, g.1.1.2, g.1.2, g.2⟩
theorem ok_facts {l : List Nat} (h : okL l = true) : orS l = (sumL l : Int) ∧ adS l = (sumL l : Int) ∧ sumL l < 128 := by
 simp only [okL, Bool.and_eq_true, decide_eq_true_eq] at h
 exact ⟨h.1.1, h.1.2, h.2⟩
def pick (x : Bool) (b : Bool) (k : Nat) : List Nat := if b = x then [k] else []
def side (x p q r : Bool) (a b c d : Nat) : List Nat := pick x true a ++ pick x p b ++ pick x q c ++ pick x r d
theorem side_ok {a b c d : Nat} (ha : a < 7) (hb : b < 7) (hc : c < 7) (hd : d < 7) (h : dist4 a b c d = true) (x p q r : Bool) : okL (side x p q r a b c d) = true := by
 have h' : ∀ x y z w : Nat, x < 7 → y < 7 → z < 7 → w < 7 → dist4 x y z w = true → okL [x, y, z, w] = true ∧ okL [x, y, z] = true ∧ okL [x, y] = true ∧ okL [x] = true ∧ okL [] = true := fun _ _ _ _ h1 h2 h3 h4 => ok_all h1 h2 h3 h4
 have e : ∀ x y z w : Nat, dist4 x y z w = true ↔ (x ≠ y ∧ x ≠ z ∧ x ≠ w ∧ y ≠ z ∧ y ≠ w ∧ z ≠ w) := fun x y z w => by
  simp only [dist4, Bool.and_eq_true, decide_eq_true_eq]
  constructor <;> intro h <;> omega
 have h1 := h' a b c d ha hb hc hd h
 rw [e] at h
 have h2 := h' b c d a hb hc hd ha ((e _ _ _ _).2 (by omega))
 have h3 := h' a c d b ha hc hd hb ((e _ _ _ _).2 (by omega))
 have h4 := h' a b d c ha hb hd hc ((e _ _ _ _).2 (by omega))
 have h5 := h' b d a c hb hd ha hc ((e _ _ _ _).2 (by omega))
 have h6 := h' c d a b hc hd ha hb ((e _ _ _ _).2 (by omega))
 have h7 := h' a d b c ha hd hb hc ((e _ _ _ _).2 (by omega))
 have h8 := h' d a b c hd ha hb hc ((e _ _ _ _).2 (by omega))
 cases x <;> cases p <;> cases q <;> cases r <;> simp only [side, pick, List.append_nil, List.nil_append, List.cons_append, reduceCtorEq, if_true, if_false] <;> first | with_reducible exact h1.1 | with_reducible exact h1.2.1 | with_reducible exact h1.2.2.1 | with_reducible exact h1.2.2.2.1 | with_reducible exact h1.2.2.2.2 | with_reducible exact h2.1 | with_reducible exact h2.2.1 | with_reducible exact h2.2.2.1 | with_reducible exact h2.2.2.2.1 | with_reducible exact h3.2.1 | with_reducible exact h3.2.2.1 | with_reducible exact h4.2.1 | with_reducible exact h4.2.2.1 | with_reducible exact h5.2.2.1 | with_reducible exact h6.2.2.1 | with_reducible exact h6.2.2.2.1 | with_reducible exact h7.2.2.1 | with_reducible exact h8.2.2.2.1
theorem side_sum (p q r : Bool) (a b c d : Nat) : (sumL (side true p q r a b c d), sumL (side false p q r a b c d)) = splitN p q r a b c d := by
 cases p <;> cases q <;> cases r <;> simp [side, pick, sumL, splitN]
def chB (b : Bool) : UInt8 := if b then 43 else 45
def circB (p q r : Bool) : ByteArray := ⟨#[43, chB p, chB q, chB r]⟩
theorem circT_B (A B C D : Int) : circT A B C D = circB (decide (-A * B > 0)) (decide (A * C > 0)) (decide (-A * D > 0)) := by
 have e : ∀ x : Int, sB x = chB (decide (x > 0)) := fun x => by
  unfold sB chB
  by_cases h : x > 0
  ·rw [if_pos h, decide_eq_true h, if_pos rfl]
  ·rw [if_neg h, decide_eq_false h, if_neg (by decide)]
 unfold circT circB
 rw [e, e, e]
theorem rd4 (a b c d : Int) : rd [a, b, c, d] (0 : Nat) = a ∧ rd [a, b, c, d] (1 : Nat) = b ∧ rd [a, b, c, d] (2 : Nat) = c ∧ rd [a, b, c, d] (3 : Nat) = d := ⟨rfl, rfl, rfl, rfl⟩
theorem rd4_mem {a b c d : Nat} {i : Nat} (hi : i < 4) : ∃ m : Nat, rd [(a : Int), (b : Int), (c : Int), (d : Int)] (i : Int) = (m : Int) ∧ (m = a ∨ m = b ∨ m = c ∨ m = d) := by
 have : i = 0 ∨ i = 1 ∨ i = 2 ∨ i = 3 := by omega
 rcases this with rfl | rfl | rfl | rfl
 ·exact ⟨a, rfl, by omega⟩
 ·exact ⟨b, rfl, by omega⟩
 ·exact ⟨c, rfl, by omega⟩
 ·exact ⟨d, rfl, by omega⟩
theorem bt_circB (p q r : Bool) : bt (circB p q r) ((0 : Nat) : Int) = 43 ∧ (bt (circB p q r) ((1 : Nat) : Int) = 43 ↔ p = true) ∧ (bt (circB p q r) ((2 : Nat) : Int) = 43 ↔ q = true) ∧ (bt (circB p q r) ((3 : Nat) : Int) = 43 ↔ r = true) := by
 cases p <;> cases q <;> cases r <;> decide +kernel
theorem impl_split_loop (p q r : Bool) {a b c d : Nat} (ha : a < 7) (hb : b < 7) (hc : c < 7) (hd : d < 7) (h : dist4 a b c d = true) :
  Ev (fun k => impl_chi_split.l0 k (circB p q r) 0 0 [(a : Int), (b : Int), (c : Int), (d : Int)] 4 0) (((splitN p q r a b c d).1 : Int), ((splitN p q r a b c d).2 : Int)) := by
 have key := loop_up (σ := Int × Int) (ρ := Int × Int) (lo := 0) (n := 4) (K := fun s _ => some s) (L := fun i s k => impl_chi_split.l0 k (circB p q r) s.1 s.2 [(a : Int), (b : Int), (c : Int), (d : Int)] 4 i)
  (fun s i => .ok (if bt (circB p q r) (i : Int) = 43 then (Go.bits .or .i64 s.1 (shl .i64 1 (rd [(a : Int), (b : Int), (c : Int), (d : Int)] (i : Int))), s.2) else (s.1, Go.bits .or .i64 s.2 (shl .i64 1 (rd [(a : Int), (b : Int), (c : Int), (d : Int)] (i : Int))))))
  (fun s => ?_) (fun i _ hi s => ?_) (by omega) (0, 0)
 ·rw [foldlM_ok] at key
  refine ev_cast (key _ (Ev.now _)) ?_
  have o1 := (ok_facts (side_ok ha hb hc hd h true p q r)).1
  have o2 := (ok_facts (side_ok ha hb hc hd h false p q r)).1
  have e := side_sum p q r a b c d
  rw [← e]
  rw [← o1, ← o2]
  show (List.range' 0 4).foldl _ _ = _
  rw [show List.range' 0 4 = [0, 1, 2, 3] from rfl]
  obtain ⟨b0, b1, b2, b3⟩ := bt_circB p q r
  obtain ⟨r0, r1, r2, r3⟩ := rd4 (a : Int) (b : Int) (c : Int) (d : Int)
  simp only [List.foldl_cons, List.foldl_nil, r0, r1, r2, r3, b0, b1, b2, b3]
  cases p <;> cases q <;> cases r <;> rfl
 ·refine Goes.step ?_
  simp only [impl_chi_split.l0]
  exact Goes.neg (by omega) (Goes.ok (K := fun s _ => some s) s)
 ·obtain ⟨m, hm, hm4⟩ := rd4_mem (a := a) (b := b) (c := c) (d := d) hi
  refine Goes.step ?_
  simp only [impl_chi_split.l0]
  refine Goes.pos (by omega) (Goes.pos (by omega) (Goes.pos (by simp only [List.length_cons, List.length_nil]; omega) (Goes.pos (by show (i : Int) < 4; omega) ?_)))
  rw [wrap_id (by omega) (by omega)]
  by_cases g : bt (circB p q r) (i : Int) = 43
  ·rw [if_pos g]
   exact Goes.pos g (Goes.pos (by rw [hm]; omega) (Goes.ok _))
  ·rw [if_neg g]
   exact Goes.neg g (Goes.pos (by rw [hm]; omega) (Goes.ok _))
theorem spec_split_loop (p q r : Bool) {a b c d : Nat} (ha : a < 7) (hb : b < 7) (hc : c < 7) (hd : d < 7) (h : dist4 a b c d = true) :
  Ev (fun k => spec_l5Split.l0 k [(a : Int), (b : Int), (c : Int), (d : Int)] (circB p q r) 0 0 0) (((splitN p q r a b c d).1 : Int), ((splitN p q r a b c d).2 : Int)) := by
 have key := loop_up (σ := Int × Int) (ρ := Int × Int) (lo := 0) (n := 4) (K := fun s _ => some s) (L := fun i s k => spec_l5Split.l0 k [(a : Int), (b : Int), (c : Int), (d : Int)] (circB p q r) s.1 s.2 i)
  (fun s i => .ok (if bt (circB p q r) (i : Int) = 43 then (wrap64 (s.1 + (shl .i64 1 (rd [(a : Int), (b : Int), (c : Int), (d : Int)] (i : Int)))), s.2) else (s.1, wrap64 (s.2 + (shl .i64 1 (rd [(a : Int), (b : Int), (c : Int), (d : Int)] (i : Int)))))))
  (fun s => ?_) (fun i _ hi s => ?_) (by omega) (0, 0)
 ·rw [foldlM_ok] at key
  refine ev_cast (key _ (Ev.now _)) ?_
  have o1 := (ok_facts (side_ok ha hb hc hd h true p q r)).2.1
  have o2 := (ok_facts (side_ok ha hb hc hd h false p q r)).2.1
  have e := side_sum p q r a b c d
  rw [← e]
  rw [← o1, ← o2]
  show (List.range' 0 4).foldl _ _ = _
  rw [show List.range' 0 4 = [0, 1, 2, 3] from rfl]
  obtain ⟨b0, b1, b2, b3⟩ := bt_circB p q r
  obtain ⟨r0, r1, r2, r3⟩ := rd4 (a : Int) (b : Int) (c : Int) (d : Int)
  simp only [List.foldl_cons, List.foldl_nil, r0, r1, r2, r3, b0, b1, b2, b3]
  cases p <;> cases q <;> cases r <;> rfl
 ·refine Goes.step ?_
  simp only [spec_l5Split.l0]
  exact Goes.neg (by omega) (Goes.ok (K := fun s _ => some s) s)
 ·obtain ⟨m, hm, hm4⟩ := rd4_mem (a := a) (b := b) (c := c) (d := d) hi
  have hu : IntKind.u64.wrap (rd [(a : Int), (b : Int), (c : Int), (d : Int)] (i : Int)) = rd [(a : Int), (b : Int), (c : Int), (d : Int)] (i : Int) := by
   rw [hm]; exact u64_id (by omega)
  refine Goes.step ?_
  simp only [spec_l5Split.l0, hu]
  refine Goes.pos (by omega) (Goes.pos (by omega) (Goes.pos (by show (i : Int) < 4; omega) ?_))
  rw [wrap_id (x := (i : Int) + 1) (by omega) (by omega)]
  by_cases g : bt (circB p q r) (i : Int) = 43
  ·rw [if_pos g]
   exact Goes.pos g (Goes.pos (by simp only [List.length_cons, List.length_nil]; omega) (Goes.pos (by rw [hm]; omega) (Goes.ok _)))
  ·rw [if_neg g]
   exact Goes.neg g (Goes.pos (by simp only [List.length_cons, List.length_nil]; omega) (Goes.pos (by rw [hm]; omega) (Goes.ok _)))
def splitV (n : Nat) (t : ByteArray) (a b c d : Nat) : Nat × Nat := splitN (decide (-(chi n t b c d) * chi n t a c d > 0)) (decide (chi n t b c d * chi n t a b d > 0)) (decide (-(chi n t b c d) * chi n t a b c > 0)) a b c d
def innerV (n : Nat) (t : ByteArray) (a b c d : Nat) : Int := mx (onlyV (splitV n t a b c d).1) (onlyV (splitV n t a b c d).2)
theorem dist4_iff {a b c d : Nat} : dist4 a b c d = true ↔ (a ≠ b ∧ a ≠ c ∧ a ≠ d ∧ b ≠ c ∧ b ≠ d ∧ c ≠ d) := by
 simp only [dist4, Bool.and_eq_true, decide_eq_true_eq]
 constructor <;> intro h <;> omega
theorem splitV_lt {n : Nat} (t : ByteArray) {a b c d : Nat} (ha : a < 7) (hb : b < 7) (hc : c < 7) (hd : d < 7) (h : dist4 a b c d = true) : (splitV n t a b c d).1 < 128 ∧ (splitV n t a b c d).2 < 128 := by
 unfold splitV
 rw [← side_sum]
 exact ⟨(ok_facts (side_ok ha hb hc hd h true _ _ _)).2.2, (ok_facts (side_ok ha hb hc hd h false _ _ _)).2.2⟩
section
variable {n : Nat} {t : ByteArray} (h : areOk n t = true) {a b c d : Nat} (ha : a < n) (hb : b < n) (hc : c < n) (hd : d < n) (hx : dist4 a b c d = true)
include h ha hb hc hd hx
theorem impl_split : Ev (fun k => impl_chi_split.f k (tblL n t) (a : Int) (b : Int) (c : Int) (d : Int)) (((splitV n t a b c d).1 : Int), ((splitV n t a b c d).2 : Int)) := by
 obtain ⟨⟨h0, h1⟩, _, _⟩ := (areOk_iff _ _).1 h
 obtain ⟨e1, e2, e3, e4, e5, e6⟩ := dist4_iff.1 hx
 unfold impl_chi_split.f
 refine Ev.bind (chi_circuit_ev h ha hb hc hd e1 e2 e3 e4 e5 e6) (ev_call rfl ?_)
 rw [circT_B]
 exact impl_split_loop _ _ _ (by omega) (by omega) (by omega) (by omega) hx
theorem spec_split : Ev (fun k => spec_l5Split.f k (n : Int) t [(a : Int), (b : Int), (c : Int), (d : Int)]) (((splitV n t a b c d).1 : Int), ((splitV n t a b c d).2 : Int)) := by
 obtain ⟨⟨h0, h1⟩, _, _⟩ := (areOk_iff _ _).1 h
 obtain ⟨e1, e2, e3, e4, e5, e6⟩ := dist4_iff.1 hx
 unfold spec_l5Split.f
 refine ev_pos (by simp only [List.length_cons, List.length_nil]; omega) (ev_pos (by simp only [List.length_cons, List.length_nil]; omega) (ev_pos (by simp only [List.length_cons, List.length_nil]; omega) (ev_pos (by simp only [List.length_cons, List.length_nil]; omega) ?_)))
 refine Ev.bind (spec_circ4 h ha hb hc hd e1 e2 e3 e4 e5 e6) ?_
 rw [circT_B]
 exact spec_split_loop _ _ _ (by omega) (by omega) (by omega) (by omega) hx
end
theorem order_ev (n : Int) (t : ByteArray) (hs : t.size ≤ 9223372036854775807) : Ev (fun k => impl_orderOf.f k n t) (if acyOk n t = true then (tblL n.toNat t, true) else ([], false)) := by
 unfold impl_orderOf.f
 refine Ev.bind (impl_isA n t hs) ?_
 by_cases h : acyOk n t = true
 ·rw [if_pos h]
  have ha : areOk n t = true := by
   unfold acyOk at h
   rw [Bool.and_eq_true] at h
   exact mat_are h.1
  obtain ⟨⟨h0, h1⟩, _, _⟩ := (areOk_iff _ _).1 ha
  obtain ⟨N, rfl⟩ : ∃ N : Nat, n = (N : Int) := Int.eq_ofNat_of_zero_le (by omega)
  exact ev_pos h (Ev.bind (tableOf_ev ha) (Ev.now _))
 ·rw [if_neg h]
  exact ev_neg h (Ev.now _)
theorem acy_are {n : Int} {t : ByteArray} (h : acyOk n t = true) : ∃ N : Nat, n = (N : Int) ∧ areOk N t = true ∧ 3 ≤ N ∧ N ≤ 7 := by
 unfold acyOk at h
 rw [Bool.and_eq_true] at h
 have ha := mat_are h.1
 obtain ⟨⟨h0, h1⟩, _, _⟩ := (areOk_iff _ _).1 ha
 obtain ⟨N, rfl⟩ : ∃ N : Nat, n = (N : Int) := Int.eq_ofNat_of_zero_le (by omega)
 exact ⟨N, rfl, ha, by omega, by omega⟩
theorem spec_max (a b : Int) : spec_l1Max.f a b = some (mx a b) := by
 unfold spec_l1Max.f mx
 split <;> simp <;> omega
section
variable {n : Nat} {t : ByteArray} (h : areOk n t = true) {a b c d : Nat} (ha : a < n) (hb : b < n) (hc : c < n) (hd : d < n) (hx : dist4 a b c d = true)
include h ha hb hc hd hx
theorem impl_inner : Ev (fun k => impl_chi_inner.f k (tblL n t) (a : Int) (b : Int) (c : Int) (d : Int)) (innerV n t a b c d) := by
 obtain ⟨⟨h0, h1⟩, _, _⟩ := (areOk_iff _ _).1 h
 obtain ⟨l1, l2⟩ := splitV_lt t (a := a) (b := b) (c := c) (d := d) (n := n) (by omega) (by omega) (by omega) (by omega) hx
 unfold impl_chi_inner.f
 exact Ev.bind (impl_split h ha hb hc hd hx) (Ev.bind (single_ev l1) (Ev.bind (single_ev l2) (Ev.now _)))
theorem spec_inner : Ev (fun k => spec_l5Inner.f k (n : Int) t [(a : Int), (b : Int), (c : Int), (d : Int)]) (innerV n t a b c d) := by
 obtain ⟨⟨h0, h1⟩, _, _⟩ := (areOk_iff _ _).1 h
 obtain ⟨l1, l2⟩ := splitV_lt t (a := a) (b := b) (c := c) (d := d) (n := n) (by omega) (by omega) (by omega) (by omega) hx
 unfold spec_l5Inner.f
 exact Ev.bind (spec_split h ha hb hc hd hx) (Ev.bind (only_ev l1) (Ev.bind (only_ev l2) (ev_call (spec_max _ _) (Ev.now _))))
theorem impl_inside : Ev (fun k => impl_chi_isInside.f k (tblL n t) (a : Int) (b : Int) (c : Int) (d : Int)) (innerV n t a b c d == (a : Int)) := by
 unfold impl_chi_isInside.f
 exact Ev.bind (impl_inner h ha hb hc hd hx) (Ev.now _)
end
end Go.Proofs.Ytckkfjdkaimmhaa.M
namespace Go.Proofs.Ytckkfjdkaimmhaa.PX
open Go.RowKit Go.Proofs.Ytckkfjdkaimmhaa.G Go.Proofs.YtckkfjdkaimmhaaW.PrintWords Go.Proofs.YtckkfjdkaimmhaaW.PrintLast Go.Proofs.YtckkfjdkaimmhaaW.PrintMore
attribute [local go_sem] max2_int min2_int max_two min_two max_three min_three max_four min_four   -- for this text's walks alone
set_option linter.unusedVariables false
set_option linter.unusedSimpArgs false
/-! ### impl_chi_countInside: function 116 -/
/-! ### spec_l5Inside: function 117 -/
end Go.Proofs.Ytckkfjdkaimmhaa.PX
namespace Go.Proofs.Ytckkfjdkaimmhaa.M
open Go.RowKit Go.Proofs.YtckkfjdkaimmhaaW.PrintWords Go.Proofs.Ytckkfjdkaimmhaa.PX Go.Proofs.Ytckkfjdkaimmhaa.G Go.Proofs.YtckkfjdkaimmhaaW.PrintMore
def toS3 (q : Nat × Nat × Nat) : S99 := ⟨(q.1 : Int), (q.2.1 : Int), (q.2.2 : Int)⟩
theorem tripN_S {n : Nat} (h0 : 3 ≤ n) (h1 : n ≤ 7) : tripN n = (tripsL n).map toS3 := tripN_L h0 h1
theorem rd_toS3 {qs : List (Nat × Nat × Nat)} {i : Nat} (h : i < qs.length) : rd_T99 (qs.map toS3) (i : Int) = toS3 qs[i] := by
 rw [rd_trip (by rw [List.length_map]; exact h), List.getElem_map]
theorem quads_len {n : Nat} (h0 : 3 ≤ n) (h1 : n ≤ 7) : (tripsL n).length ≤ 35 := by
 refine five (p := fun n => (tripsL n).length ≤ 35) h0 h1 ?_ ?_ ?_ ?_ ?_ <;> decide +kernel
def insB (n : Nat) (t : ByteArray) (p a b c : Nat) : Bool := decide (p ≠ a) && decide (p ≠ b) && decide (p ≠ c) && (innerV n t p a b c == (p : Int))
theorem insB_dist {n : Nat} {t : ByteArray} {p a b c : Nat} (h1 : p ≠ a) (h2 : p ≠ b) (h3 : p ≠ c) : insB n t p a b c = (innerV n t p a b c == (p : Int)) := by
 unfold insB
 rw [decide_eq_true h1, decide_eq_true h2, decide_eq_true h3]
 rfl
section
variable {n : Nat} {t : ByteArray} (h : areOk n t = true) {a b c : Nat} (ha : a < n) (hb : b < n) (hc : c < n) (hab : a ≠ b) (hac : a ≠ c) (hbc : b ≠ c)
include h ha hb hc hab hac hbc
end
def inB (n : Nat) (t : ByteArray) (s p : Nat) : Bool := (tripsL n).any fun q => insB n t p q.1 q.2.1 q.2.2 && s.testBit q.1 && s.testBit q.2.1 && s.testBit q.2.2
theorem has_ev {s k : Nat} (hs : s < 128) (hk : k ≤ 7) : spec_l6Has.f (s : Int) (k : Int) = some (s.testBit k) := by
 unfold spec_l6Has.f
 rw [u64_id hk, if_pos (by omega)]
 have e := bitQ_eq hs hk
 unfold bitQ at e
 rw [e]
 cases s.testBit k <;> rfl
section
variable {n : Nat} {t : ByteArray} (h : areOk n t = true)
include h
theorem spec_in6 {s p : Nat} (hs : s < 128) (hp : p < n) : Ev (fun k => spec_l6In.f k (n : Int) t (s : Int) (p : Int)) (inB n t s p) := by
 obtain ⟨⟨h0, h1⟩, _, _⟩ := (areOk_iff _ _).1 h
 have h0 : 3 ≤ n := by omega
 have h1 : n ≤ 7 := by omega
 unfold spec_l6In.f
 have key := loops3 (σ := Unit) (ρ := Bool) (n := n) (K := fun _ _ => some false) (L0 := fun a _ k => spec_l6In.l0 k (s : Int) (p : Int) a (n : Int) t) (L1 := fun a b _ k => spec_l6In.l1 k (s : Int) (p : Int) a b (n : Int) t) (L2 := fun a b c _ k => spec_l6In.l2 k (s : Int) (p : Int) a b c (n : Int) t)
  (fun _ q => if insB n t p q.1 q.2.1 q.2.2 && s.testBit q.1 && s.testBit q.2.1 && s.testBit q.2.2 then .error true else .ok ()) (fun u => ?_) (fun a ha u => ?_) (fun a ha u => ?_) (fun a b hab hb u => ?_) (fun a b hab hb u => ?_) (fun a b c hab hbc hc u => ?_) ()
 ·rw [foldlM_any (fun q : Nat × Nat × Nat => insB n t p q.1 q.2.1 q.2.2 && s.testBit q.1 && s.testBit q.2.1 && s.testBit q.2.2)] at key
  unfold inB
  cases hq : (tripsL n).any fun q => insB n t p q.1 q.2.1 q.2.2 && s.testBit q.1 && s.testBit q.2.1 && s.testBit q.2.2 with
  | true => rw [hq] at key; exact key
  | false => rw [hq] at key; exact key _ (Ev.now _)
 ·refine Goes.step ?_
  simp only [spec_l6In.l0]
  exact Goes.neg (by omega) (Goes.ok (K := fun _ _ => some false) u)
 ·refine Goes.step ?_
  simp only [spec_l6In.l0]
  refine Goes.pos (by omega) ?_
  rw [wrap_id (by omega) (by omega)]
  exact Goes.ok (K := fun _ k => spec_l6In.l1 k (s : Int) (p : Int) (a : Int) ((a + 1 : Nat) : Int) (n : Int) t) u
 ·refine Goes.step ?_
  simp only [spec_l6In.l1]
  refine Goes.neg (by omega) ?_
  rw [wrap_id (by omega) (by omega)]
  exact Goes.ok (K := fun _ k => spec_l6In.l0 k (s : Int) (p : Int) ((a + 1 : Nat) : Int) (n : Int) t) u
 ·refine Goes.step ?_
  simp only [spec_l6In.l1]
  refine Goes.pos (by omega) ?_
  rw [wrap_id (by omega) (by omega)]
  exact Goes.ok (K := fun _ k => spec_l6In.l2 k (s : Int) (p : Int) (a : Int) (b : Int) ((b + 1 : Nat) : Int) (n : Int) t) u
 ·refine Goes.step ?_
  simp only [spec_l6In.l2]
  refine Goes.neg (by omega) ?_
  rw [wrap_id (by omega) (by omega)]
  exact Goes.ok (K := fun _ k => spec_l6In.l1 k (s : Int) (p : Int) (a : Int) ((b + 1 : Nat) : Int) (n : Int) t) u
 ·refine Goes.step ?_
  simp only [spec_l6In.l2]
  refine Goes.pos (by omega) ?_
  rw [wrap_id (by omega) (by omega)]
  have on : Goes (ρ := Bool) (.ok ()) (fun (_ : Unit) k => spec_l6In.l2 k (s : Int) (p : Int) (a : Int) (b : Int) ((c + 1 : Nat) : Int) (n : Int) t) (fun k => spec_l6In.l2 k (s : Int) (p : Int) (a : Int) (b : Int) ((c : Int) + 1) (n : Int) t) := Goes.ok (K := fun (_ : Unit) k => spec_l6In.l2 k (s : Int) (p : Int) (a : Int) (b : Int) ((c + 1 : Nat) : Int) (n : Int) t) ()
  by_cases e1 : p = a
  ·rw [show insB n t p a b c = false by simp [insB, e1]]
   exact Goes.pos (by omega) on
  refine Goes.neg (by omega) ?_
  by_cases e2 : p = b
  ·rw [show insB n t p a b c = false by simp [insB, e2]]
   exact Goes.pos (by omega) on
  refine Goes.neg (by omega) ?_
  by_cases e3 : p = c
  ·rw [show insB n t p a b c = false by simp [insB, e3]]
   exact Goes.pos (by omega) on
  refine Goes.neg (by omega) (Goes.call (has_ev hs (by omega)) ?_)
  rw [insB_dist e1 e2 e3]
  cases s.testBit a with
  | false => rw [Bool.and_false, Bool.false_and, Bool.false_and]; exact Goes.neg (by decide) on
  | true =>
   refine Goes.pos (by trivial) (Goes.call (has_ev hs (by omega)) ?_)
   cases s.testBit b with
   | false => rw [Bool.and_false, Bool.false_and]; exact Goes.neg (by decide) on
   | true =>
    refine Goes.pos (by trivial) (Goes.call (has_ev hs (by omega)) ?_)
    cases s.testBit c with
    | false => rw [Bool.and_false]; exact Goes.neg (by decide) on
    | true =>
     refine Goes.pos (by trivial) (Goes.ev (spec_inner h hp (by omega) (by omega) hc (dist4_iff.2 (by omega))) ?_)
     by_cases g : innerV n t p a b c = (p : Int)
     ·rw [beq_iff_eq.2 g]
      exact Goes.pos g (Goes.ret _)
     ·rw [beq_eq_false_iff_ne.2 g]
      exact Goes.neg g on
theorem impl_inHull {s p : Nat} (hs : s < 128) (hp : p < n) (hsp : s.testBit p = false) : Ev (fun k => impl_chi_inHull.f k (tblL n t) (s : Int) (p : Int)) (inB n t s p) := by
 obtain ⟨⟨h0, h1⟩, _, _⟩ := (areOk_iff _ _).1 h
 have h0 : 3 ≤ n := by omega
 have h1 : n ≤ 7 := by omega
 unfold impl_chi_inHull.f
 rw [tbl_n]
 refine Ev.bind (triples_ev h0 h1) ?_
 rw [tripN_S h0 h1]
 have hl : ((tripsL n).map toS3).length = (tripsL n).length := List.length_map ..
 have h35 := quads_len h0 h1
 have key := loop_up (σ := Unit) (ρ := Bool) (lo := 0) (n := (tripsL n).length) (K := fun _ _ => some false) (L := fun i _ k => impl_chi_inHull.l0 k (tblL n t) (s : Int) (p : Int) ((tripsL n).map toS3) (((tripsL n).map toS3).length : Int) i)
  (fun _ i => if insB n t p ((tripsL n).getD i (0, 0, 0)).1 ((tripsL n).getD i (0, 0, 0)).2.1 ((tripsL n).getD i (0, 0, 0)).2.2 && s.testBit ((tripsL n).getD i (0, 0, 0)).1 && s.testBit ((tripsL n).getD i (0, 0, 0)).2.1 && s.testBit ((tripsL n).getD i (0, 0, 0)).2.2 then .error true else .ok ())
  (fun u => ?_) (fun i _ hi u => ?_) (by omega) ()
 ·rw [foldlM_index (0, 0, 0) (fun (_ : Unit) (q : Nat × Nat × Nat) => if insB n t p q.1 q.2.1 q.2.2 && s.testBit q.1 && s.testBit q.2.1 && s.testBit q.2.2 then (.error true : Except Bool Unit) else .ok ()),
   foldlM_any (fun q : Nat × Nat × Nat => insB n t p q.1 q.2.1 q.2.2 && s.testBit q.1 && s.testBit q.2.1 && s.testBit q.2.2)] at key
  unfold inB
  cases hq : (tripsL n).any fun q => insB n t p q.1 q.2.1 q.2.2 && s.testBit q.1 && s.testBit q.2.1 && s.testBit q.2.2 with
  | true => rw [hq] at key; exact key
  | false => rw [hq] at key; exact key _ (Ev.now _)
 ·refine Goes.step ?_
  simp only [impl_chi_inHull.l0]
  exact Goes.neg (by omega) (Goes.ok (K := fun _ _ => some false) u)
 ·have hg : (tripsL n).getD i (0, 0, 0) = (tripsL n)[i] := by rw [List.getD_eq_getElem?_getD, List.getElem?_eq_getElem hi]; rfl
  have hm := List.getElem_mem hi
  rw [hg]
  refine Goes.step ?_
  simp only [impl_chi_inHull.l0, rd_toS3 hi]
  generalize (tripsL n)[i] = q at *
  obtain ⟨a, b, c⟩ := q
  obtain ⟨hab, hbc, hc⟩ := mem_trips hm
  simp only [toS3]
  refine Goes.pos (by omega) (Goes.pos (by omega) (Goes.pos (by omega) (Goes.pos (by omega) (Goes.pos (by omega) (Goes.pos (by omega) ?_)))))
  rw [wrap_id (x := (i : Int) + 1) (by omega) (by omega)]
  have on : Goes (ρ := Bool) (.ok ()) (fun (_ : Unit) k => impl_chi_inHull.l0 k (tblL n t) (s : Int) (p : Int) ((tripsL n).map toS3) (((tripsL n).map toS3).length : Int) ((i + 1 : Nat) : Int)) (fun k => impl_chi_inHull.l0 k (tblL n t) (s : Int) (p : Int) ((tripsL n).map toS3) (((tripsL n).map toS3).length : Int) ((i : Int) + 1)) :=
   Goes.ok (K := fun (_ : Unit) k => impl_chi_inHull.l0 k (tblL n t) (s : Int) (p : Int) ((tripsL n).map toS3) (((tripsL n).map toS3).length : Int) ((i + 1 : Nat) : Int)) ()
  have hmask := (set_facts hs).2.1 a b c hab hbc (by omega)
  by_cases g : Go.bits .and .i64 (s : Int) (mask3 a b c) = mask3 a b c
  ·obtain ⟨g1, g2, g3⟩ := hmask.1 g
   have e1 : p ≠ a := fun e => by rw [e, g1] at hsp; cases hsp
   have e2 : p ≠ b := fun e => by rw [e, g2] at hsp; cases hsp
   have e3 : p ≠ c := fun e => by rw [e, g3] at hsp; cases hsp
   rw [g1, g2, g3, insB_dist e1 e2 e3, Bool.and_true, Bool.and_true, Bool.and_true]
   refine Goes.pos g (Goes.ev (impl_inside h hp (by omega) (by omega) hc (dist4_iff.2 (by omega))) ?_)
   cases innerV n t p a b c == (p : Int) with
   | true => exact Goes.pos (by trivial) (Goes.ret _)
   | false => exact Goes.neg (by decide) on
  ·have e : (insB n t p a b c && s.testBit a && s.testBit b && s.testBit c) = false := by
    rw [Bool.eq_false_iff]
    simp only [ne_eq, Bool.and_eq_true]
    exact fun e => g (hmask.2 ⟨e.1.1.2, e.1.2, e.2⟩)
   rw [e]
   exact Goes.neg g on
end
def extB (n : Nat) (t : ByteArray) (s p : Nat) : Bool := s.testBit p && !inB n t s p
def extN (n : Nat) (t : ByteArray) (s : Nat) : Nat := sumN (extB n t s) n
theorem sum_fold {ρ : Type} (c : Nat → Bool) (n : Nat) : (List.range' 0 (n - 0)).foldlM (fun (s : Nat) p => (.ok (if c p then s + 2 ^ p else s) : Except ρ Nat)) 0 = .ok (sumN c n) := by
 rw [foldlM_ok, Nat.sub_zero, ← List.range_eq_range']
 congr 1
 induction n with
 | zero => rfl
 | succ n ih => rw [List.range_succ, List.foldl_append, ih]; rfl
theorem inB_rem {n : Nat} {t : ByteArray} {s p : Nat} (hn : n ≤ 7) (hs : s < 128) (hp : p < 7) : inB n t (remN s p) p = inB n t s p := by
 have hm : ∀ q ∈ tripsL n, (insB n t p q.1 q.2.1 q.2.2 && (remN s p).testBit q.1 && (remN s p).testBit q.2.1 && (remN s p).testBit q.2.2) = (insB n t p q.1 q.2.1 q.2.2 && s.testBit q.1 && s.testBit q.2.1 && s.testBit q.2.2) := fun q hq => by
  obtain ⟨a, b, c⟩ := q
  obtain ⟨hab, hbc, hc⟩ := mem_trips hq
  have hr := ((set_facts hs).1 p hp).2.2
  simp only
  rw [hr a (by omega), hr b (by omega), hr c (by omega)]
  by_cases e1 : p = a
  ·rw [show insB n t p a b c = false by simp [insB, e1]]; simp
  by_cases e2 : p = b
  ·rw [show insB n t p a b c = false by simp [insB, e2]]; simp
  by_cases e3 : p = c
  ·rw [show insB n t p a b c = false by simp [insB, e3]]; simp
  have d1 : decide (a ≠ p) = true := decide_eq_true (fun e => e1 e.symm)
  have d2 : decide (b ≠ p) = true := decide_eq_true (fun e => e2 e.symm)
  have d3 : decide (c ≠ p) = true := decide_eq_true (fun e => e3 e.symm)
  rw [d1, d2, d3, Bool.and_true, Bool.and_true, Bool.and_true]
 unfold inB
 rw [Bool.eq_iff_iff, List.any_eq_true, List.any_eq_true]
 constructor
 ·rintro ⟨q, hq, e⟩
  exact ⟨q, hq, (hm q hq) ▸ e⟩
 ·rintro ⟨q, hq, e⟩
  exact ⟨q, hq, (hm q hq).symm ▸ e⟩
section
variable {n : Nat} {t : ByteArray} (h : areOk n t = true)
include h
theorem impl_ext {s : Nat} (hs : s < 128) : Ev (fun k => impl_chi_extremeIn.f k (tblL n t) (s : Int)) (extN n t s : Int) := by
 obtain ⟨⟨h0, h1⟩, _, _⟩ := (areOk_iff _ _).1 h
 unfold impl_chi_extremeIn.f
 have key := loop_up' (σ := Nat) (ρ := Int) (lo := 0) (n := n) (K := fun u _ => some (u : Int)) (L := fun i u k => impl_chi_extremeIn.l0 k (tblL n t) (s : Int) (u : Int) i)
  (fun i u => u < 2 ^ i) (fun u p => .ok (if extB n t s p then u + 2 ^ p else u)) (fun u _ => ?_) (fun p _ hp u hu => ?_) (fun p _ hp u hu u' e => ?_) (by omega) 0 (by decide)
 ·rw [sum_fold] at key
  exact key _ (Ev.now _)
 ·refine Goes.step ?_
  simp only [impl_chi_extremeIn.l0, tbl_n]
  exact Goes.neg (by omega) (Goes.ok (K := fun u _ => some (u : Int)) u)
 ·refine Goes.step ?_
  simp only [impl_chi_extremeIn.l0, tbl_n]
  refine Goes.pos (by omega) (Goes.pos (by omega) ?_)
  have hp7 : p < 7 := by omega
  have hbq := bitQ_eq hs (k := p) (by omega)
  unfold bitQ at hbq
  rw [hbq, wrap_id (x := (p : Int) + 1) (by omega) (by omega)]
  unfold extB
  have pw := pow_128 (k := p) (by omega)
  cases hb : s.testBit p with
  | false => exact Goes.neg (by simp) (Goes.ok (K := fun (u : Nat) k => impl_chi_extremeIn.l0 k (tblL n t) (s : Int) (u : Int) ((p + 1 : Nat) : Int)) u)
  | true =>
   obtain ⟨r1, r2, r3⟩ := (set_facts hs).1 p hp7
   have hrp : (remN s p).testBit p = false := by rw [r3 p hp7]; simp
   rw [r1, ((set_facts (s := u) (by omega)).2.2 p hp7 hu).1]
   refine Goes.pos (by simp) (Goes.ev (impl_inHull h r2 hp hrp) ?_)
   rw [inB_rem (by omega) hs hp7]
   cases inB n t s p with
   | true => exact Goes.pos (by trivial) (Goes.ok (K := fun (u : Nat) k => impl_chi_extremeIn.l0 k (tblL n t) (s : Int) (u : Int) ((p + 1 : Nat) : Int)) u)
   | false => exact Goes.neg (by decide) (Goes.ok (K := fun (u : Nat) k => impl_chi_extremeIn.l0 k (tblL n t) (s : Int) (u : Int) ((p + 1 : Nat) : Int)) (u + 2 ^ p))
 ·cases e
  rw [Nat.pow_succ]
  split <;> omega
theorem spec_ext {s : Nat} (hs : s < 128) : Ev (fun k => spec_l6Extreme.f k (n : Int) t (s : Int)) (extN n t s : Int) := by
 obtain ⟨⟨h0, h1⟩, _, _⟩ := (areOk_iff _ _).1 h
 unfold spec_l6Extreme.f
 have key := loop_up' (σ := Nat) (ρ := Int) (lo := 0) (n := n) (K := fun u _ => some (u : Int)) (L := fun i u k => spec_l6Extreme.l0 k (s : Int) (u : Int) i (n : Int) t)
  (fun i u => u < 2 ^ i) (fun u p => .ok (if extB n t s p then u + 2 ^ p else u)) (fun u _ => ?_) (fun p _ hp u hu => ?_) (fun p _ hp u hu u' e => ?_) (by omega) 0 (by decide)
 ·rw [sum_fold] at key
  exact key _ (Ev.now _)
 ·refine Goes.step ?_
  simp only [spec_l6Extreme.l0]
  exact Goes.neg (by omega) (Goes.ok (K := fun u _ => some (u : Int)) u)
 ·refine Goes.step ?_
  simp only [spec_l6Extreme.l0]
  refine Goes.pos (by omega) (Goes.call (has_ev hs (by omega)) ?_)
  have pw := pow_128 (k := p) (by omega)
  rw [u64_id (k := p) (by omega), shl_id (k := p) (by omega), wrap_id (x := (p : Int) + 1) (by omega) (by omega), wrap_id (x := (u : Int) + ((2 ^ p : Nat) : Int)) (by omega) (by omega)]
  unfold extB
  cases hb : s.testBit p with
  | false => exact Goes.neg (by simp) (Goes.ok (K := fun (u : Nat) k => spec_l6Extreme.l0 k (s : Int) (u : Int) ((p + 1 : Nat) : Int) (n : Int) t) u)
  | true =>
   refine Goes.pos (by trivial) (Goes.ev (spec_in6 h hs hp) ?_)
   cases inB n t s p with
   | true => exact Goes.pos (by trivial) (Goes.ok (K := fun (u : Nat) k => spec_l6Extreme.l0 k (s : Int) (u : Int) ((p + 1 : Nat) : Int) (n : Int) t) u)
   | false => exact Goes.neg (by decide) (Goes.pos (by omega) (Goes.ok (K := fun (u : Nat) k => spec_l6Extreme.l0 k (s : Int) (u : Int) ((p + 1 : Nat) : Int) (n : Int) t) (u + 2 ^ p)))
 ·cases e
  rw [Nat.pow_succ]
  split <;> omega
end
theorem extN_lt {n : Nat} (t : ByteArray) (s : Nat) (hn : n ≤ 7) : extN n t s < 128 := sumN_lt7 _ hn
theorem extN_bit {n : Nat} (t : ByteArray) (s : Nat) {p : Nat} (hn : n ≤ 7) (hp : p < n) : (extN n t s).testBit p = extB n t s p := sumN_bit _ hn hp
end Go.Proofs.Ytckkfjdkaimmhaa.M
namespace Go.Proofs.Ytckkfjdkaimmhaa.M
open Go.RowKit Go.Proofs.YtckkfjdkaimmhaaW.PrintWords Go.Proofs.Ytckkfjdkaimmhaa.PX Go.Proofs.Ytckkfjdkaimmhaa.G
theorem four_sort {n : Nat} {P : Nat → Nat → Nat → Nat → Prop} (h1 : ∀ a b c d, a < n → b < n → c < n → d < n → P b a c d → P a b c d) (h2 : ∀ a b c d, a < n → b < n → c < n → d < n → P a c b d → P a b c d) (h3 : ∀ a b c d, a < n → b < n → c < n → d < n → P a b d c → P a b c d)
  (base : ∀ a b c d, a < b → b < c → c < d → d < n → P a b c d) {a b c d : Nat} (ha : a < n) (hb : b < n) (hc : c < n) (hd : d < n) (hx : dist4 a b c d = true) : P a b c d := by
 obtain ⟨e1, e2, e3, e4, e5, e6⟩ := dist4_iff.1 hx
 have A : ∀ a b c d : Nat, a < b → b < c → c < n → d < n → d ≠ a → d ≠ b → d ≠ c → P a b c d := by
  intro a b c d hab hbc hc hd k1 k2 k3
  rcases Nat.lt_or_gt_of_ne k3 with g | g
  ·refine h3 _ _ _ _ (by omega) (by omega) hc hd ?_
   rcases Nat.lt_or_gt_of_ne k2 with g' | g'
   ·refine h2 _ _ _ _ (by omega) (by omega) hd hc ?_
    rcases Nat.lt_or_gt_of_ne k1 with g'' | g''
    ·exact h1 _ _ _ _ (by omega) hd (by omega) hc (base _ _ _ _ g'' hab hbc hc)
    ·exact base _ _ _ _ g'' g' hbc hc
   ·exact base _ _ _ _ hab g' g hc
  ·exact base _ _ _ _ hab hbc g hd
 have B : ∀ a b c d : Nat, a < b → b < n → c < n → d < n → dist4 a b c d = true → P a b c d := by
  intro a b c d hab hb hc hd hx
  obtain ⟨e1, e2, e3, e4, e5, e6⟩ := dist4_iff.1 hx
  rcases Nat.lt_or_gt_of_ne e4 with g | g
  ·exact A _ _ _ _ hab g hc hd (by omega) (by omega) (by omega)
  ·refine h2 _ _ _ _ (by omega) hb hc hd ?_
   rcases Nat.lt_or_gt_of_ne e2 with g' | g'
   ·exact A _ _ _ _ g' g hb hd (by omega) (by omega) (by omega)
   ·exact h1 _ _ _ _ (by omega) hc hb hd (A _ _ _ _ g' hab hb hd (by omega) (by omega) (by omega))
 rcases Nat.lt_or_gt_of_ne e1 with g | g
 ·exact B _ _ _ _ g hb hc hd hx
 ·exact h1 _ _ _ _ ha hb hc hd (B _ _ _ _ g ha hc hd (dist4_iff.2 (by omega)))
structure Ord (n : Nat) (f : Nat → Nat → Nat → Int) : Prop where
 pm : ∀ a b c, a < n → b < n → c < n → a ≠ b → b ≠ c → a ≠ c → f a b c = 1 ∨ f a b c = -1
 s1 : ∀ a b c, a < n → b < n → c < n → f b a c = -f a b c
 s2 : ∀ a b c, a < n → b < n → c < n → f a c b = -f a b c
 gp : ∀ x a b c d, x < n → a < n → b < n → c < n → d < n → dist4 a b c d = true → x ≠ a → x ≠ b → x ≠ c → x ≠ d → ¬ (f x a b * f x c d = f x a d * f x b c ∧ f x a d * f x b c = -(f x a c) * f x b d)
 ac : ∀ a b c d, a < n → b < n → c < n → d < n → dist4 a b c d = true → ¬ (f a c d = -(f b c d) ∧ f a b d = f b c d ∧ f a b c = -(f b c d))
theorem brkFrom_nil {n : Nat} {t : ByteArray} : ∀ (d x : Nat), brkFrom n t x d = [] → ∀ y, x ≤ y → y < x + d → srch n t y (qs1 (othersN n y) 0 (othersN n y).length) = none := by
 intro d
 induction d with
 | zero => intro x _ y h1 h2; omega
 | succ d ih =>
  intro x h y h1 h2
  rw [brkFrom] at h
  cases hs : srch n t x (qs1 (othersN n x) 0 (othersN n x).length) with
  | some v =>
   rw [hs] at h
   obtain ⟨q, _, hq⟩ := List.exists_of_findSome?_eq_some hs
   unfold brkQ at hq
   split at hq
   ·cases hq; cases h
   ·cases hq
  | none =>
   rw [hs] at h
   by_cases e : y = x
   ·subst e; exact hs
   ·exact ih (x + 1) h y (by omega) (by omega)
theorem mat_gp {n : Nat} {t : ByteArray} (ho : areOk (n : Int) t = true) (hb0 : brkA n t = []) (h0 : 3 ≤ n) (h1 : n ≤ 7) : ∀ x a b c d, x < n → a < n → b < n → c < n → d < n → dist4 a b c d = true → x ≠ a → x ≠ b → x ≠ c → x ≠ d → ¬ (chi n t x a b * chi n t x c d = chi n t x a d * chi n t x b c ∧ chi n t x a d * chi n t x b c = -(chi n t x a c) * chi n t x b d) := by
 have s1 : ∀ a b c, a < n → b < n → c < n → chi n t b a c = -chi n t a b c := fun a b c ha hb hc => chi_swap1 t h0 h1 (by omega) (by omega) (by omega)
 have s2 : ∀ a b c, a < n → b < n → c < n → chi n t a c b = -chi n t a b c := fun a b c ha hb hc => chi_swap2 t h0 h1 (by omega) (by omega) (by omega)
 intro x a b c d hx ha hb hc hd hq k1 k2 k3 k4
 refine four_sort (n := n) (P := fun a b c d => x ≠ a → x ≠ b → x ≠ c → x ≠ d → ¬ (chi n t x a b * chi n t x c d = chi n t x a d * chi n t x b c ∧ chi n t x a d * chi n t x b c = -(chi n t x a c) * chi n t x b d)) ?_ ?_ ?_ ?_ ha hb hc hd hq k1 k2 k3 k4
 ·intro a b c d ha hb hc hd hP k1 k2 k3 k4 hh
  refine hP k2 k1 k3 k4 ?_
  rw [s2 x a b hx ha hb]
  have e1 := hh.1
  have e2 := hh.2
  constructor
  ·rw [Int.neg_mul, e1, e2, Int.neg_mul, Int.neg_neg, Int.mul_comm]
  ·rw [Int.mul_comm (chi n t x b d), Int.neg_mul, Int.mul_comm (chi n t x b c)]
   rw [Int.neg_mul] at e2
   omega
 ·intro a b c d ha hb hc hd hP k1 k2 k3 k4 hh
  refine hP k1 k3 k2 k4 ?_
  have e1 := hh.1
  have e2 := hh.2
  have e3 : chi n t x c b = -chi n t x b c := s2 x b c hx hb hc
  rw [e3]
  rw [Int.neg_mul] at e2
  constructor
  ·rw [Int.mul_neg]; omega
  ·rw [Int.mul_neg, Int.neg_mul]; omega
 ·intro a b c d ha hb hc hd hP k1 k2 k3 k4 hh
  refine hP k1 k2 k4 k3 ?_
  have e1 := hh.1
  have e2 := hh.2
  have e3 : chi n t x d c = -chi n t x c d := s2 x c d hx hc hd
  rw [e3]
  rw [Int.neg_mul] at e2
  constructor
  ·rw [Int.mul_neg]; omega
  ·rw [Int.neg_mul]; omega
 ·intro a b c d hab hbc hcd hd k1 k2 k3 k4 hh
  have hA : areOk (n : Int) t = true := ho
  have hb := hb0
  unfold brkA at hb
  rw [if_pos hA, Int.toNat_natCast] at hb
  have hs := brkFrom_nil n 0 hb x (by omega) (by omega)
  have hcq := chkQ_ok h0 h1
  simp only [chkQ, Bool.and_eq_true, List.all_eq_true, List.mem_range, decide_eq_true_eq] at hcq
  rw [← hcq.1.1 x hx, (quadQ_L h0 h1).1] at hs
  unfold srch at hs
  have hq := List.findSome?_eq_none_iff.1 hs (a, b, c, d) (List.mem_filter.2 ⟨quads_mem hab hbc hcd hd, by simp only [noX, Bool.and_eq_true, decide_eq_true_eq]; omega⟩)
  unfold brkQ at hq
  split at hq
  ·cases hq
  ·rename_i hbk
   refine hbk ?_
   unfold brk
   rw [Bool.and_eq_true, decide_eq_true_eq, decide_eq_true_eq]
   exact hh
theorem acyc_ac {n : Nat} {t : ByteArray} (hac0 : acyc n t = true) (h0 : 3 ≤ n) (h1 : n ≤ 7) : ∀ a b c d, a < n → b < n → c < n → d < n → dist4 a b c d = true → ¬ (chi n t a c d = -(chi n t b c d) ∧ chi n t a b d = chi n t b c d ∧ chi n t a b c = -(chi n t b c d)) := by
 have s1 : ∀ a b c, a < n → b < n → c < n → chi n t b a c = -chi n t a b c := fun a b c ha hb hc => chi_swap1 t h0 h1 (by omega) (by omega) (by omega)
 have s2 : ∀ a b c, a < n → b < n → c < n → chi n t a c b = -chi n t a b c := fun a b c ha hb hc => chi_swap2 t h0 h1 (by omega) (by omega) (by omega)
 intro a b c d ha hb hc hd hq
 refine four_sort (n := n) (P := fun a b c d => dist4 a b c d = true → ¬ (chi n t a c d = -(chi n t b c d) ∧ chi n t a b d = chi n t b c d ∧ chi n t a b c = -(chi n t b c d))) ?_ ?_ ?_ ?_ ha hb hc hd hq hq
 ·intro a b c d ha hb hc hd hP hx hh
  refine hP (dist4_iff.2 (by have := dist4_iff.1 hx; omega)) ?_
  have e1 := s1 a b d ha hb hd
  have e2 := s1 a b c ha hb hc
  omega
 ·intro a b c d ha hb hc hd hP hx hh
  refine hP (dist4_iff.2 (by have := dist4_iff.1 hx; omega)) ?_
  have e1 := s1 b c d hb hc hd
  have e2 := s2 a b c ha hb hc
  omega
 ·intro a b c d ha hb hc hd hP hx hh
  refine hP (dist4_iff.2 (by have := dist4_iff.1 hx; omega)) ?_
  have e1 := s2 b c d hb hc hd
  have e2 := s2 a c d ha hc hd
  omega
 ·intro a b c d hab hbc hcd hd hx hh
  have hac := hac0
  unfold acyc at hac
  rw [Bool.not_eq_true', List.any_eq_false] at hac
  refine hac (a, b, c, d) (quads_mem hab hbc hcd hd) ?_
  obtain ⟨e1, e2, e3⟩ := hh
  unfold allPlus
  simp only [e1, e2, e3, decide_eq_true_eq]
  rcases chi_pm (n := n) (a := b) (b := c) (c := d) t h0 h1 (by omega) (by omega) hd (by omega) (by omega) (by omega) with e | e <;> rw [e] <;> decide +kernel
theorem order_ord {n : Nat} {t : ByteArray} (h : acyOk n t = true) : Ord n (chi n t) := by
 obtain ⟨N, hN, ho, h0, h1⟩ := acy_are h
 obtain rfl : n = N := by omega
 have hm : brkA n t = [] ∧ acyc n t = true := by
  unfold acyOk matOk at h
  simp only [Bool.and_eq_true, Int.toNat_natCast, List.isEmpty_iff] at h
  exact ⟨h.1.2, h.2⟩
 have s1 : ∀ a b c, a < n → b < n → c < n → chi n t b a c = -chi n t a b c := fun a b c ha hb hc => chi_swap1 t h0 h1 (by omega) (by omega) (by omega)
 have s2 : ∀ a b c, a < n → b < n → c < n → chi n t a c b = -chi n t a b c := fun a b c ha hb hc => chi_swap2 t h0 h1 (by omega) (by omega) (by omega)
 exact ⟨fun a b c ha hb hc hab hbc hac => chi_pm t h0 h1 ha hb hc hab hbc hac, s1, s2, mat_gp ho hm.1 h0 h1, acyc_ac hm.2 h0 h1⟩
def ins (f : Nat → Nat → Nat → Int) (p a b c : Nat) : Prop := f p a b = f p b c ∧ f p b c = f p c a
section
variable {n : Nat} {f : Nat → Nat → Nat → Int} (o : Ord n f)
include o
theorem Ord.cyc {a b c : Nat} (ha : a < n) (hb : b < n) (hc : c < n) : f b c a = f a b c ∧ f c a b = f a b c := by
 have e1 := o.s1 a b c ha hb hc
 have e2 := o.s2 b a c hb ha hc
 have e3 := o.s2 a b c ha hb hc
 have e4 := o.s1 a c b ha hc hb
 omega
theorem Ord.trans {t s p q r : Nat} (ht : t < n) (hs : s < n) (hp : p < n) (hq : q < n) (hr : r < n) (hd : dist4 s p q r = true) (k1 : t ≠ s) (k2 : t ≠ p) (k3 : t ≠ q) (k4 : t ≠ r)
  (h1 : f t s p = 1) (h2 : f t s q = 1) (h3 : f t s r = 1) (c1 : f t p q = 1) (c2 : f t q r = 1) (c3 : f t r p = 1) : False := by
 refine o.gp t s p q r ht hs hp hq hr hd k1 k2 k3 k4 ?_
 have e := o.s2 t p r ht hp hr
 have e' : f t p r = -1 := by rw [e] at c3; omega
 rw [h1, h2, h3, c1, c2, e']
 decide
theorem Ord.trans' {t s p q r : Nat} (ht : t < n) (hs : s < n) (hp : p < n) (hq : q < n) (hr : r < n) (hd : dist4 s p q r = true) (k1 : t ≠ s) (k2 : t ≠ p) (k3 : t ≠ q) (k4 : t ≠ r)
  (h1 : f t p s = 1) (h2 : f t q s = 1) (h3 : f t r s = 1) (c1 : f t p q = 1) (c2 : f t q r = 1) (c3 : f t r p = 1) : False := by
 refine o.gp t s p q r ht hs hp hq hr hd k1 k2 k3 k4 ?_
 have e := o.s2 t p r ht hp hr
 have e' : f t p r = -1 := by rw [e] at c3; omega
 have a1 : f t s p = -1 := by rw [o.s2 t p s ht hp hs, h1]
 have a2 : f t s q = -1 := by rw [o.s2 t q s ht hq hs, h2]
 have a3 : f t s r = -1 := by rw [o.s2 t r s ht hr hs, h3]
 rw [a1, a2, a3, c1, c2, e']
 decide
theorem Ord.tot {t a b : Nat} (ht : t < n) (ha : a < n) (hb : b < n) (k1 : t ≠ a) (k2 : t ≠ b) (k3 : a ≠ b) : f t a b = 1 ∨ f t b a = 1 := by
 have e := o.s2 t a b ht ha hb
 rcases o.pm t a b ht ha hb k1 k3 k2 with h | h
 ·exact Or.inl h
 ·exact Or.inr (by rw [e, h]; rfl)
theorem Ord.asym {t a b : Nat} (ht : t < n) (ha : a < n) (hb : b < n) (h : f t a b = 1) : f t b a = -1 := by
 rw [o.s2 t a b ht ha hb, h]
theorem Ord.inside {p a b c : Nat} (hp : p < n) (ha : a < n) (hb : b < n) (hc : c < n) (hd : dist4 p a b c = true) (h : ins f p a b c) : f a b c = f p a b := by
 obtain ⟨h1, h2⟩ := h
 obtain ⟨e1, e2, e3, e4, e5, e6⟩ := dist4_iff.1 hd
 have k := o.ac p a b c hp ha hb hc hd
 have e := o.s2 p a c hp ha hc
 have v := o.pm a b c ha hb hc e4 e6 e5
 have u := o.pm p a b hp ha hb e1 e4 e2
 omega
omit o in
theorem ins_rot {p a b c : Nat} (h : ins f p a b c) : ins f p b c a := ⟨h.2, by rw [← h.2, h.1]⟩
theorem Ord.ins_flip {p a b c : Nat} (hp : p < n) (ha : a < n) (hb : b < n) (hc : c < n) (h : ins f p a b c) : ins f p a c b := by
 have e1 := o.s2 p a b hp ha hb
 have e2 := o.s2 p b c hp hb hc
 have e3 := o.s2 p c a hp hc ha
 obtain ⟨h1, h2⟩ := h
 constructor <;> omega
theorem Ord.between {q c d e p : Nat} (hq : q < n) (hc : c < n) (hd : d < n) (he : e < n) (hp : p < n) (hx : dist4 p c d e = true) (k0 : q ≠ p) (k1 : q ≠ c) (k2 : q ≠ d) (k3 : q ≠ e)
  (hi : ins f p c d e) (h1 : f q c d = 1) (h2 : f q d e = 1) (h3 : f q c e = 1) : f q c p = 1 ∧ f q p e = 1 := by
 obtain ⟨e1, e2, e3, e4, e5, e6⟩ := dist4_iff.1 hx
 have hin := o.inside hp hc hd he hx hi
 obtain ⟨i1, i2⟩ := hi
 have v := o.pm p c d hp hc hd e1 e4 e2
 constructor
 ·
  have g := o.gp c q d e p hc hq hd he hp (dist4_iff.2 (by omega)) (by omega) (by omega) (by omega) (by omega)
  have a1 : f c q d = -1 := by rw [o.s1 q c d hq hc hd, h1]
  have a2 : f c q e = -1 := by rw [o.s1 q c e hq hc he, h3]
  have a3 : f c e p = -(f p c d) := by
   have r1 := (o.cyc hp he hc).1
   have r2 := o.s1 e c p he hc hp
   omega
  have a4 : f c d p = f p c d := (o.cyc hp hc hd).1
  have a5 : f c q p = -(f q c p) := o.s1 q c p hq hc hp
  rw [a1, a2, a3, a4, a5, hin] at g
  rcases o.pm q c p hq hc hp k1 (by omega) k0 with u | u
  ·exact u
  ·exfalso
   rw [u] at g
   rcases v with v | v <;> rw [v] at g <;> exact g (by decide)
 ·have g := o.gp e q c d p he hq hc hd hp (dist4_iff.2 (by omega)) (by omega) (by omega) (by omega) (by omega)
  have a1 : f e q c = 1 := by rw [← h3]; exact (o.cyc hq hc he).2
  have a2 : f e q d = 1 := by rw [← h2]; exact (o.cyc hq hd he).2
  have a3 : f e d p = -(f p c d) := by
   have r1 := (o.cyc hp he hd).1
   have r2 := o.s2 p d e hp hd he
   omega
  have a4 : f e c p = f p c d := by
   have r1 := (o.cyc hp he hc).1
   omega
  have a5 : f e q p = f q p e := (o.cyc hq hp he).2
  have a6 : f e c d = f p c d := by rw [(o.cyc hc hd he).2]; exact hin
  rw [a1, a2, a3, a4, a5, a6] at g
  rcases o.pm q p e hq hp he k0 (by omega) k3 with u | u
  ·exact u
  ·exfalso
   rw [u] at g
   rcases v with v | v <;> rw [v] at g <;> exact g (by decide)
def inT (n : Nat) (f : Nat → Nat → Nat → Int) (S : Nat → Prop) (p : Nat) : Prop := ∃ a b c, a < n ∧ b < n ∧ c < n ∧ dist4 p a b c = true ∧ S a ∧ S b ∧ S c ∧ ins f p a b c
set_option maxHeartbeats 4000000 in
theorem Ord.leave {S : Nat → Prop} {p q : Nat} (hp : p < n) (hq : q < n) (hpq : p ≠ q) (h1 : inT n f S p) (h2 : inT n f S q) : inT n f (fun x => S x ∧ x ≠ p) q := by
 refine Classical.byContradiction fun hno => ?_
 have N : ∀ x y z, x < n → y < n → z < n → S x → S y → S z → x ≠ p → y ≠ p → z ≠ p → dist4 q x y z = true → f q x y = 1 → f q y z = 1 → f q z x = 1 → False := fun x y z hx hy hz sx sy sz x1 y1 z1 hd c1 c2 c3 =>
  hno ⟨x, y, z, hx, hy, hz, hd, ⟨sx, x1⟩, ⟨sy, y1⟩, ⟨sz, z1⟩, by rw [ins, c1, c2, c3]; exact ⟨rfl, rfl⟩⟩
 -- q lies inside p, a, b
 obtain ⟨a, b, ha, hb, sa, sb, hd, c1, c2, c3⟩ : ∃ a b, a < n ∧ b < n ∧ S a ∧ S b ∧ dist4 q p a b = true ∧ f q a b = 1 ∧ f q b p = 1 ∧ f q p a = 1 := by
  obtain ⟨x, y, z, hx, hy, hz, hd, sx, sy, sz, hi⟩ := h2
  obtain ⟨e1, e2, e3, e4, e5, e6⟩ := dist4_iff.1 hd
  have fin : ∀ a b : Nat, a < n → b < n → S a → S b → dist4 q p a b = true → ins f q p a b → ∃ a b, a < n ∧ b < n ∧ S a ∧ S b ∧ dist4 q p a b = true ∧ f q a b = 1 ∧ f q b p = 1 ∧ f q p a = 1 := by
   intro a b ha hb sa sb hd hi
   obtain ⟨d1, d2, d3, d4, d5, d6⟩ := dist4_iff.1 hd
   obtain ⟨i1, i2⟩ := hi
   rcases o.pm q p a hq hp ha d1 d4 d2 with v | v
   ·exact ⟨a, b, ha, hb, sa, sb, hd, by omega, by omega, v⟩
   ·have r1 := o.s2 q a b hq ha hb
    have r2 := o.s2 q b p hq hb hp
    have r3 := o.s2 q p a hq hp ha
    exact ⟨b, a, hb, ha, sb, sa, dist4_iff.2 (by omega), by omega, by omega, by omega⟩
  by_cases k1 : x = p
  ·subst k1; exact fin y z hy hz sy sz hd hi
  by_cases k2 : y = p
  ·subst k2; exact fin z x hz hx sz sx (dist4_iff.2 (by omega)) (ins_rot hi)
  by_cases k3 : z = p
  ·subst k3; exact fin x y hx hy sx sy (dist4_iff.2 (by omega)) (ins_rot (ins_rot hi))
  exact absurd ⟨x, y, z, hx, hy, hz, hd, ⟨sx, k1⟩, ⟨sy, k2⟩, ⟨sz, k3⟩, hi⟩ hno
 obtain ⟨d1, d2, d3, d4, d5, d6⟩ := dist4_iff.1 hd
 have L1 : ∀ t, t < n → S t → t ≠ p → t ≠ q → t ≠ a → t ≠ b → f q t a = 1 → f q t p = 1 → False := by
  intro t ht st k1 k2 k3 k4 g1 g2
  rcases o.tot hq ht hb (by omega) (by omega) (by omega) with g | g
  ·exact o.trans hq ht ha hb hp (dist4_iff.2 (by omega)) (by omega) (by omega) (by omega) (by omega) g1 g g2 c1 c2 c3
  ·exact N t a b ht ha hb st sa sb k1 (by omega) (by omega) (dist4_iff.2 (by omega)) g1 c1 g
 have L2 : ∀ t, t < n → S t → t ≠ p → t ≠ q → t ≠ a → t ≠ b → f q b t = 1 → f q p t = 1 → False := by
  intro t ht st k1 k2 k3 k4 g1 g2
  rcases o.tot hq ha ht (by omega) (by omega) (by omega) with g | g
  ·exact o.trans' hq ht ha hb hp (dist4_iff.2 (by omega)) (by omega) (by omega) (by omega) (by omega) g g1 g2 c1 c2 c3
  ·exact N t a b ht ha hb st sa sb k1 (by omega) (by omega) (dist4_iff.2 (by omega)) g c1 g1
 -- two elements between which q sees p
 have core : ∀ c e, c < n → e < n → S c → S e → c ≠ p → e ≠ p → c ≠ q → e ≠ q → c ≠ e → f q c p = 1 → f q p e = 1 → f q c e = 1 → False := by
  intro c e hc he sc se k1 k2 k3 k4 k5 g1 g2 g3
  have nca : c ≠ a := fun h => by rw [h] at g1; have := o.asym hq hp ha c3; omega
  have neb : e ≠ b := fun h => by rw [h] at g2; have := o.asym hq hb hp c2; omega
  by_cases cb : c = b
  ·subst cb
   by_cases ea : e = a
   ·subst ea; have := o.asym hq ha hb c1; omega
   ·exact L2 e he se k2 k4 ea neb g3 g2
  by_cases ea : e = a
  ·subst ea; exact L1 c hc sc k1 k3 nca cb g3 g1
  have ac : f q a c = 1 := by
   rcases o.tot hq ha hc (by omega) (by omega) (by omega) with g | g
   ·exact g
   ·exact (L1 c hc sc k1 k3 nca cb g g1).elim
  have eb : f q e b = 1 := by
   rcases o.tot hq he hb (by omega) (by omega) (by omega) with g | g
   ·exact g
   ·exact (L2 e he se k2 k4 ea neb g g2).elim
  rcases o.tot hq hc hb (by omega) (by omega) (by omega) with g | g
  ·exact o.trans hq hc he hb hp (dist4_iff.2 (by omega)) (by omega) (by omega) (by omega) (by omega) g3 g g1 eb c2 g2
  ·exact N b c e hb hc he sb sc se (by omega) k1 k2 (dist4_iff.2 (by omega)) g g3 eb
 obtain ⟨x, y, z, hx, hy, hz, hd', sx, sy, sz, hi⟩ := h1
 obtain ⟨x1, x2, x3, x4, x5, x6⟩ := dist4_iff.1 hd'
 have inq : ∀ y z : Nat, y < n → z < n → S y → S z → dist4 p q y z = true → ins f p q y z → False := by
  intro y z hy hz sy sz hd' hi
  obtain ⟨x1, x2, x3, x4, x5, x6⟩ := dist4_iff.1 hd'
  have hin := o.inside hp hq hy hz hd' hi
  obtain ⟨i1, i2⟩ := hi
  have r1 := (o.cyc hp hq hy).1
  have r2 := (o.cyc hp hz hq).2
  rcases o.pm p q y hp hq hy x1 x4 x2 with v | v
  ·exact core y z hy hz sy sz (by omega) (by omega) (by omega) (by omega) x6 (by omega) (by omega) (by omega)
  ·have r3 := o.s2 q y p hq hy hp
   have r4 := o.s2 q p z hq hp hz
   have r5 := o.s2 q y z hq hy hz
   exact core z y hz hy sz sy (by omega) (by omega) (by omega) (by omega) (fun h => x6 h.symm) (by omega) (by omega) (by omega)
 by_cases k1 : x = q
 ·subst k1; exact inq y z hy hz sy sz hd' hi
 by_cases k2 : y = q
 ·subst k2; exact inq z x hz hx sz sx (dist4_iff.2 (by omega)) (ins_rot hi)
 by_cases k3 : z = q
 ·subst k3; exact inq x y hx hy sx sy (dist4_iff.2 (by omega)) (ins_rot (ins_rot hi))
 -- q sees x, y, z in some order
 have ord : ∀ c d e : Nat, c < n → d < n → e < n → S c → S e → dist4 p c d e = true → ins f p c d e → c ≠ q → d ≠ q → e ≠ q → f q c d = 1 → f q d e = 1 → f q c e = 1 → False := by
  intro c d e hc hd he sc se hx hi k1 k2 k3 g1 g2 g3
  obtain ⟨x1, x2, x3, x4, x5, x6⟩ := dist4_iff.1 hx
  have hb := o.between hq hc hd he hp hx (by omega) (by omega) (by omega) (by omega) hi g1 g2 g3
  exact core c e hc he sc se (by omega) (by omega) k1 k3 (by omega) hb.1 hb.2 g3
 have i2 := ins_rot hi
 have i3 := ins_rot i2
 have j1 := o.ins_flip hp hx hy hz hi
 have j2 := o.ins_flip hp hy hz hx i2
 have j3 := o.ins_flip hp hz hx hy i3
 have hnr := N x y z hx hy hz sx sy sz (by omega) (by omega) (by omega) (dist4_iff.2 (by omega))
 have hnr' := N x z y hx hz hy sx sz sy (by omega) (by omega) (by omega) (dist4_iff.2 (by omega))
 rcases o.tot hq hx hy (by omega) (by omega) x4 with g1 | g1 <;> rcases o.tot hq hy hz (by omega) (by omega) x6 with g2 | g2 <;> rcases o.tot hq hx hz (by omega) (by omega) x5 with g3 | g3
 ·exact ord x y z hx hy hz sx sz hd' hi k1 k2 k3 g1 g2 g3
 ·exact hnr g1 g2 g3
 ·exact ord x z y hx hz hy sx sy (dist4_iff.2 (by omega)) j1 k1 k3 k2 g3 g2 g1
 ·exact ord z x y hz hx hy sz sy (dist4_iff.2 (by omega)) i3 k3 k1 k2 g3 g1 g2
 ·exact ord y x z hy hx hz sy sz (dist4_iff.2 (by omega)) j2 k2 k1 k3 g1 g3 g2
 ·exact ord y z x hy hz hx sy sx (dist4_iff.2 (by omega)) i2 k2 k3 k1 g2 g3 g1
 ·exact hnr' g3 g2 g1
 ·exact ord z y x hz hy hx sz sx (dist4_iff.2 (by omega)) j3 k3 k2 k1 g2 g1 g3
end
def mxChk : Bool := (List.range 7).all fun a => (List.range 7).all fun b => (List.range 7).all fun c => (List.range 7).all fun d => !dist4 a b c d || twos.all fun p => twos.all fun q => twos.all fun r =>
 decide (mx (onlyV (splitN p q r a b c d).1) (onlyV (splitN p q r a b c d).2) = (a : Int)) == (!p && !q && !r)
theorem mxChk_ok : mxChk = true := by decide +kernel
theorem mx_facts {a b c d : Nat} (ha : a < 7) (hb : b < 7) (hc : c < 7) (hd : d < 7) (h : dist4 a b c d = true) (p q r : Bool) :
  decide (mx (onlyV (splitN p q r a b c d).1) (onlyV (splitN p q r a b c d).2) = (a : Int)) = (!p && !q && !r) := by
 have g := List.all_eq_true.1 mxChk_ok a (List.mem_range.2 ha)
 have g := List.all_eq_true.1 g b (List.mem_range.2 hb)
 have g := List.all_eq_true.1 g c (List.mem_range.2 hc)
 have g := List.all_eq_true.1 g d (List.mem_range.2 hd)
 rw [h, Bool.not_true, Bool.false_or] at g
 have g := List.all_eq_true.1 g p (by cases p <;> decide)
 have g := List.all_eq_true.1 g q (by cases q <;> decide)
 have g := List.all_eq_true.1 g r (by cases r <;> decide)
 exact beq_iff_eq.1 g
theorem inner_iff {n : Nat} {t : ByteArray} (o : Ord n (chi n t)) (h1 : n ≤ 7) {p a b c : Nat} (hp : p < n) (ha : a < n) (hb : b < n) (hc : c < n) (hd : dist4 p a b c = true) :
  innerV n t p a b c = (p : Int) ↔ ins (chi n t) p a b c := by
 obtain ⟨e1, e2, e3, e4, e5, e6⟩ := dist4_iff.1 hd
 have m := mx_facts (show p < 7 by omega) (show a < 7 by omega) (show b < 7 by omega) (show c < 7 by omega) hd (decide (-(chi n t a b c) * chi n t p b c > 0)) (decide (chi n t a b c * chi n t p a c > 0)) (decide (-(chi n t a b c) * chi n t p a b > 0))
 have key : innerV n t p a b c = (p : Int) ↔ (!decide (-(chi n t a b c) * chi n t p b c > 0) && !decide (chi n t a b c * chi n t p a c > 0) && !decide (-(chi n t a b c) * chi n t p a b > 0)) = true := by
  rw [← m, decide_eq_true_eq]
  rfl
 rw [key]
 have s := o.s2 p a c hp ha hc
 constructor
 ·intro g
  unfold ins
  rcases o.pm p a b hp ha hb e1 e4 e2 with x | x <;> rcases o.pm p b c hp hb hc e2 e6 e3 with y | y <;> rcases o.pm p a c hp ha hc e1 e5 e3 with z | z <;> rcases o.pm a b c ha hb hc e4 e6 e5 with w | w <;> rw [x, y, z, w] at g <;> first | (exact absurd g (by decide)) | (rw [s, x, y, z]; exact ⟨rfl, rfl⟩)
 ·intro g
  have w := o.inside hp ha hb hc hd g
  obtain ⟨g1, g2⟩ := g
  rw [s] at g2
  rw [w]
  rcases o.pm p a b hp ha hb e1 e4 e2 with x | x <;> rcases o.pm p b c hp hb hc e2 e6 e3 with y | y <;> rcases o.pm p a c hp ha hc e1 e5 e3 with z | z <;> rw [x, y] at g1 <;> rw [y, z] at g2 <;> first | (exact absurd g1 (by decide)) | (exact absurd g2 (by decide)) | (rw [x, y, z]; decide)
theorem inB_inT {n : Nat} {t : ByteArray} (o : Ord n (chi n t)) (h1 : n ≤ 7) {s p : Nat} (hp : p < n) (h : inB n t s p = true) : inT n (chi n t) (fun x => s.testBit x = true) p := by
 obtain ⟨⟨a, b, c⟩, hm, hq⟩ := List.any_eq_true.1 h
 obtain ⟨m1, m2, m3⟩ := mem_trips hm
 simp only [insB, Bool.and_eq_true, decide_eq_true_eq, beq_iff_eq] at hq
 obtain ⟨⟨⟨⟨⟨⟨d1, d2⟩, d3⟩, hi⟩, ba⟩, bb⟩, bc⟩ := hq
 have hd : dist4 p a b c = true := dist4_iff.2 ⟨d1, d2, d3, by omega, by omega, by omega⟩
 exact ⟨a, b, c, by omega, by omega, m3, hd, ba, bb, bc, (inner_iff o h1 hp (by omega) (by omega) m3 hd).1 hi⟩
theorem inT_mono {n : Nat} {f : Nat → Nat → Nat → Int} {S S' : Nat → Prop} {p : Nat} (h : inT n f S p) (hs : ∀ x, S x → S' x) : inT n f S' p := by
 obtain ⟨a, b, c, ha, hb, hc, hd, sa, sb, sc, hi⟩ := h
 exact ⟨a, b, c, ha, hb, hc, hd, hs _ sa, hs _ sb, hs _ sc, hi⟩
theorem ext_exists {n : Nat} {f : Nat → Nat → Nat → Int} (o : Ord n f) {S : Nat → Prop} (hS : ∀ x, S x → x < n) (h : ∀ p, S p → inT n f S p) : ∀ x, ¬ S x := by
 have key : ∀ k, ∀ q, S q → k ≤ q → inT n f (fun x => S x ∧ k ≤ x) q := by
  intro k
  induction k with
  | zero => exact fun q sq _ => inT_mono (h q sq) fun x sx => ⟨sx, Nat.zero_le _⟩
  | succ k ih =>
   intro q sq hq
   by_cases sk : S k
   ·have g1 := ih k sk (Nat.le_refl _)
    have g2 := ih q sq (by omega)
    exact inT_mono (o.leave (hS k sk) (hS q sq) (by omega) g1 g2) fun x hx => ⟨hx.1.1, by have := hx.1.2; have := hx.2; omega⟩
   ·exact inT_mono (ih q sq (by omega)) fun x hx => ⟨hx.1, by
     have := hx.2
     by_cases e : x = k
     ·subst e; exact absurd hx.1 sk
     ·omega⟩
 have no : ∀ d x, S x → n ≤ x + d → False := by
  intro d
  induction d with
  | zero => intro x sx hx; have := hS x sx; omega
  | succ d ih =>
   intro x sx hx
   obtain ⟨a, _, _, _, _, _, hd, sa, _⟩ := key x x sx (Nat.le_refl _)
   obtain ⟨e1, _⟩ := dist4_iff.1 hd
   exact ih a sa.1 (by have := sa.2; omega)
 exact fun x sx => no n x sx (by omega)
theorem ext_pos {n : Nat} {t : ByteArray} (ho : acyOk n t = true) {s : Nat} (h1 : n ≤ 7) (hs : ∀ p, s.testBit p = true → p < n) (h0 : s ≠ 0) : extN n t s ≠ 0 := by
 intro e
 have o := order_ord ho
 have all : ∀ p, s.testBit p = true → inT n (chi n t) (fun x => s.testBit x = true) p := by
  intro p hp
  have hpn := hs p hp
  have b := extN_bit t s h1 hpn
  rw [e, Nat.zero_testBit] at b
  unfold extB at b
  rw [hp, Bool.true_and] at b
  refine inB_inT o h1 hpn ?_
  cases g : inB n t s p with
  | true => rfl
  | false => rw [g] at b; cases b
 have none := ext_exists o hs all
 refine h0 (Nat.eq_of_testBit_eq fun i => ?_)
 rw [Nat.zero_testBit]
 exact Bool.eq_false_iff.2 (none i)
end Go.Proofs.Ytckkfjdkaimmhaa.M
namespace Go.Proofs.Ytckkfjdkaimmhaa.M
open Go.RowKit Go.Proofs.YtckkfjdkaimmhaaW.PrintWords Go.Proofs.Ytckkfjdkaimmhaa.PX Go.Proofs.Ytckkfjdkaimmhaa.G Go.Proofs.YtckkfjdkaimmhaaW.PrintMore
theorem full_ev {n : Nat} (hn : n ≤ 7) : wrap64 (shl .i64 1 (n : Int) - 1) = ((2 ^ n - 1 : Nat) : Int) := by
 have := pow_128 hn
 have : 0 < 2 ^ n := Nat.pow_pos (by omega)
 rw [shl_id hn, wrap_id (by omega) (by omega)]
 omega
theorem fullSet_f {n : Nat} (hn : n ≤ 7) : impl_fullSet.f (n : Int) = some ((2 ^ n - 1 : Nat) : Int) := by
 unfold impl_fullSet.f
 rw [if_pos (by omega), full_ev hn]
def setB (n : Nat) (s : Int) : Bool := decide (0 ≤ s) && decide (s < ((2 ^ n : Nat) : Int))
theorem isSet_f {n : Nat} (hn : n ≤ 7) (s : Int) : impl_isSet.f (n : Int) s = some (setB n s) := by
 unfold impl_isSet.f setB
 have : 0 < 2 ^ n := Nat.pow_pos (by omega)
 by_cases hs : s ≥ 0
 ·rw [if_pos hs, fullSet_f hn, Option.bind_some, decide_eq_true (show (0 : Int) ≤ s from hs), Bool.true_and]
  congr 1
  exact decide_eq_decide.2 (by omega)
 ·rw [if_neg hs, decide_eq_false (show ¬ (0 : Int) ≤ s from hs), Bool.false_and]
theorem spec_set {n : Nat} (hn : n ≤ 7) (s : Int) : spec_l1In.f s 0 (wrap64 (shl .i64 1 (IntKind.u64.wrap (n : Int)) - 1)) = some (setB n s) := by
 rw [u64_id hn, full_ev hn, spec_in]
 unfold setB
 have : 0 < 2 ^ n := Nat.pow_pos (by omega)
 congr 2
 exact decide_eq_decide.2 (by omega)
theorem set_nat {n : Nat} (hn : n ≤ 7) {s : Int} (h : setB n s = true) : ∃ S : Nat, s = (S : Int) ∧ S < 2 ^ n ∧ S < 128 := by
 simp only [setB, Bool.and_eq_true, decide_eq_true_eq] at h
 have := pow_128 hn
 exact ⟨s.toNat, by omega, by omega, by omega⟩
end Go.Proofs.Ytckkfjdkaimmhaa.M
namespace Go.Proofs.Ytckkfjdkaimmhaa.M
open Go.RowKit Go.Proofs.YtckkfjdkaimmhaaW.PrintWords Go.Proofs.Ytckkfjdkaimmhaa.PX Go.Proofs.Ytckkfjdkaimmhaa.G
def outer (n : Nat) (f : Nat → Nat → Nat → Int) (p : Nat) : Prop := p < n ∧ ∀ a b c, a < n → b < n → c < n → dist4 p a b c = true → ¬ ins f p a b c
def nx (n : Nat) (f : Nat → Nat → Nat → Int) (a b : Nat) : Prop := a < n ∧ b < n ∧ a ≠ b ∧ ∀ x, x < n → x ≠ a → x ≠ b → f a b x = 1
section
variable {n : Nat} {f : Nat → Nat → Nat → Int} (o : Ord n f)
include o
theorem Ord.three {a x y z : Nat} (ha : outer n f a) (hx : x < n) (hy : y < n) (hz : z < n) (hd : dist4 a x y z = true) (h1 : f a x y = 1) (h2 : f a y z = 1) : f a x z = 1 := by
 obtain ⟨e1, e2, e3, e4, e5, e6⟩ := dist4_iff.1 hd
 rcases o.pm a x z ha.1 hx hz e1 e5 e3 with h | h
 ·exact h
 ·exfalso
  refine ha.2 x y z hx hy hz hd ⟨by rw [h1, h2], ?_⟩
  rw [h2, o.s2 a x z ha.1 hx hz, h]
  rfl
theorem Ord.source {a : Nat} (ha : outer n f a) : ∀ k, k ≤ n → (∃ x, x < k ∧ x ≠ a) → ∃ s, s < k ∧ s ≠ a ∧ ∀ x, x < k → x ≠ a → x ≠ s → f a s x = 1 := by
 intro k
 induction k with
 | zero => rintro _ ⟨x, hx, _⟩; omega
 | succ k ih =>
  rintro hk ⟨x0, hx0, hxa⟩
  by_cases e : ∃ x, x < k ∧ x ≠ a
  ·obtain ⟨s, hs, hsa, hall⟩ := ih (by omega) e
   by_cases ek : k = a
   ·exact ⟨s, by omega, hsa, fun x hx h1 h2 => hall x (by omega) h1 h2⟩
   ·rcases o.tot ha.1 (show s < n by omega) (show k < n by omega) (fun e => hsa e.symm) (fun e => ek e.symm) (by omega) with h | h
    ·refine ⟨s, by omega, hsa, fun x hx h1 h2 => ?_⟩
     by_cases exk : x = k
     ·subst exk; exact h
     ·exact hall x (by omega) h1 h2
    ·refine ⟨k, by omega, ek, fun x hx h1 h2 => ?_⟩
     by_cases exs : x = s
     ·subst exs; exact h
     ·exact o.three ha (show k < n by omega) (show s < n by omega) (show x < n by omega) (dist4_iff.2 ⟨fun e => ek e.symm, fun e => hsa e.symm, fun e => h1 e.symm, by omega, fun e => h2 e.symm, fun e => exs e.symm⟩) h (hall x (by omega) h1 exs)
  ·obtain rfl : x0 = k := by
    refine Classical.byContradiction fun g => e ⟨x0, by omega, hxa⟩
   refine ⟨x0, by omega, hxa, fun x hx h1 h2 => ?_⟩
   exact absurd ⟨x, by omega, h1⟩ e
theorem Ord.nx_exists {a : Nat} (h3 : 3 ≤ n) (ha : outer n f a) : ∃ b, nx n f a b := by
 obtain ⟨s, hs, hsa, hall⟩ := o.source ha n (Nat.le_refl _) (by
  by_cases e : a = 0
  ·exact ⟨1, by omega, by omega⟩
  ·exact ⟨0, by omega, by omega⟩)
 exact ⟨s, ha.1, hs, fun e => hsa e.symm, fun x hx h1 h2 => hall x hx h1 h2⟩
theorem Ord.nx_out {a k : Nat} (ha : outer n f a) (h : nx n f a k) : outer n f k := by
 obtain ⟨han, hkn, hak, hall⟩ := h
 refine ⟨hkn, fun x y z hx hy hz hd hi => ?_⟩
 obtain ⟨e1, e2, e3, e4, e5, e6⟩ := dist4_iff.1 hd
 have atx : ∀ y z, y < n → z < n → dist4 k a y z = true → ¬ ins f k a y z := by
  intro y z hy hz hd hi
  obtain ⟨e1, e2, e3, e4, e5, e6⟩ := dist4_iff.1 hd
  have g1 := hall y hy (fun e => e4 e.symm) (fun e => e2 e.symm)
  have g2 := hall z hz (fun e => e5 e.symm) (fun e => e3 e.symm)
  have k1 := o.s1 a k y han hkn hy
  have k2 := (o.cyc han hkn hz).1
  obtain ⟨i1, i2⟩ := hi
  omega
 by_cases ea : x = a
 ·subst ea; exact atx y z hy hz hd hi
 ·by_cases eb : y = a
  ·subst eb; exact atx z x hz hx (dist4_iff.2 ⟨e2, e3, e1, e6, fun e => e4 e.symm, fun e => e5 e.symm⟩) (ins_rot hi)
  ·by_cases ec : z = a
   ·subst ec; exact atx x y hx hy (dist4_iff.2 ⟨e3, e1, e2, fun e => e5 e.symm, fun e => e6 e.symm, e4⟩) (ins_rot (ins_rot hi))
   ·have g1 := hall x hx ea (fun e => e1 e.symm)
    have g2 := hall y hy eb (fun e => e2 e.symm)
    have g3 := hall z hz ec (fun e => e3 e.symm)
    have fin : ∀ c d e, c < n → d < n → e < n → dist4 k c d e = true → c ≠ a → d ≠ a → e ≠ a → ins f k c d e → f a c d = 1 → f a d e = 1 → f a c e = 1 → f a k c = 1 → False := by
     intro c d e hc hd' he hdd c1 d1 e1 hi q1 q2 q3 gc
     have := (o.between han hc hd' he hkn hdd hak (fun e => c1 e.symm) (fun e => d1 e.symm) (fun x => e1 x.symm) hi q1 q2 q3).1
     have s := o.s2 a k c han hkn hc
     omega
    have nr : ¬ ins f a x y z := ha.2 x y z hx hy hz (dist4_iff.2 ⟨fun e => ea e.symm, fun e => eb e.symm, fun e => ec e.symm, e4, e5, e6⟩)
    have sxy := o.s2 a x y han hx hy
    have syz := o.s2 a y z han hy hz
    have sxz := o.s2 a x z han hx hz
    have hi' := o.ins_flip hkn hx hy hz hi
    rcases o.pm a x y han hx hy (fun e => ea e.symm) e4 (fun e => eb e.symm) with u | u <;> rcases o.pm a y z han hy hz (fun e => eb e.symm) e6 (fun e => ec e.symm) with v | v <;> rcases o.pm a x z han hx hz (fun e => ea e.symm) e5 (fun e => ec e.symm) with w | w
    ·exact fin x y z hx hy hz hd ea eb ec hi u v w g1
    ·exact nr ⟨by rw [u, v], by rw [v, sxz, w]; rfl⟩
    ·exact fin x z y hx hz hy (dist4_iff.2 ⟨e1, e3, e2, e5, e4, fun e => e6 e.symm⟩) ea ec eb hi' w (by rw [syz, v]; rfl) u g1
    ·exact fin z x y hz hx hy (dist4_iff.2 ⟨e3, e1, e2, fun e => e5 e.symm, fun e => e6 e.symm, e4⟩) ec ea eb (ins_rot (ins_rot hi)) (by rw [sxz, w]; rfl) u (by rw [syz, v]; rfl) g3
    ·exact fin y x z hy hx hz (dist4_iff.2 ⟨e2, e1, e3, fun e => e4 e.symm, e6, e5⟩) eb ea ec (ins_rot (ins_rot hi')) (by rw [sxy, u]; rfl) w v g2
    ·exact fin y z x hy hz hx (dist4_iff.2 ⟨e2, e3, e1, e6, fun e => e4 e.symm, fun e => e5 e.symm⟩) eb ec ea (ins_rot hi) v (by rw [sxz, w]; rfl) (by rw [sxy, u]; rfl) g2
    ·exact nr ⟨by rw [u, v], by rw [v, sxz, w]⟩
    ·exact fin z y x hz hy hx (dist4_iff.2 ⟨e3, e2, e1, fun e => e6 e.symm, fun e => e5 e.symm, fun e => e4 e.symm⟩) ec eb ea (ins_rot hi') (by rw [syz, v]; rfl) (by rw [sxy, u]; rfl) (by rw [sxz, w]; rfl) g3
theorem Ord.nx_uni {a b b' : Nat} (h : nx n f a b) (h' : nx n f a b') : b = b' := by
 refine Classical.byContradiction fun e => ?_
 have g1 := h.2.2.2 b' h'.2.1 (fun x => h'.2.2.1 x.symm) (fun x => e x.symm)
 have g2 := h'.2.2.2 b h.2.1 (fun x => h.2.2.1 x.symm) e
 have := o.s2 a b b' h.1 h.2.1 h'.2.1
 omega
theorem Ord.nx_inj {a a' b : Nat} (h : nx n f a b) (h' : nx n f a' b) : a = a' := by
 refine Classical.byContradiction fun e => ?_
 have g1 := h.2.2.2 a' h'.1 (fun x => e x.symm) (fun x => h'.2.2.1 x)
 have g2 := h'.2.2.2 a h.1 e (fun x => h.2.2.1 x)
 have k1 := o.s1 a b a' h.1 h.2.1 h'.1
 have k2 := (o.cyc h'.1 h.2.1 h.1).1
 omega
theorem Ord.fan {h : Nat → Nat} (hn : ∀ i, nx n f (h i) (h (i + 1))) {L : Nat} (hL : 1 ≤ L) (hb : h L = h 0) (hm : ∀ j, 1 ≤ j → j < L → h j ≠ h 0) {r : Nat} (hr : outer n f r) (hne : ∀ i, i < L → h i ≠ r) : False := by
 have hne' : ∀ i, i ≤ L → h i ≠ r := fun i hi => by
  by_cases e : i = L
  ·subst e; rw [hb]; exact hne 0 (by omega)
  ·exact hne i (by omega)
 have step : ∀ i, i < L → f r (h i) (h (i + 1)) = 1 := fun i hi => by
  have g := (hn i).2.2.2 r hr.1 (fun e => hne' i (by omega) e.symm) (fun e => hne' (i + 1) (by omega) e.symm)
  rw [← (o.cyc hr.1 (hn i).1 (hn i).2.1).1]
  exact g
 have all : ∀ j, j + 1 < L → f r (h 0) (h (j + 1)) = 1 := by
  intro j
  induction j with
  | zero => intro h1; exact step 0 (by omega)
  | succ j ih =>
   intro h1
   exact o.three hr (hn 0).1 (hn (j + 1)).1 (hn (j + 1)).2.1 (dist4_iff.2 ⟨fun e => hne' 0 (by omega) e.symm, fun e => hne' (j + 1) (by omega) e.symm, fun e => hne' (j + 2) (by omega) e.symm, fun e => hm (j + 1) (by omega) (by omega) e.symm, fun e => hm (j + 2) (by omega) (by omega) e.symm, (hn (j + 1)).2.2.1⟩) (ih (by omega)) (step (j + 1) (by omega))
 by_cases e1 : L = 1
 ·subst e1; exact (hn 0).2.2.1 hb.symm
 ·obtain ⟨j, rfl⟩ : ∃ j, L = j + 2 := ⟨L - 2, by omega⟩
  have g1 := all j (by omega)
  have g2 := step (j + 1) (by omega)
  rw [hb] at g2
  have := o.s2 r (h 0) (h (j + 1)) hr.1 (hn 0).1 (hn j).2.1
  omega
omit o in
theorem nodup_sub : ∀ (l l' : List Nat), l.Nodup → (∀ x ∈ l, x ∈ l') → l.length ≤ l'.length
 | [], _, _, _ => Nat.zero_le _
 | x :: xs, l', hd, h => by
  have hx := h x List.mem_cons_self
  have hd' := List.nodup_cons.1 hd
  have k := nodup_sub xs (l'.erase x) hd'.2 (fun y hy => (List.mem_erase_of_ne (fun e => hd'.1 (by rw [← e]; exact hy))).2 (h y (List.mem_cons_of_mem _ hy)))
  rw [List.length_erase_of_mem hx] at k
  have := List.length_pos_of_mem hx
  rw [List.length_cons]
  omega
omit o in
theorem least (P : Nat → Prop) : ∀ k, P k → ∃ L, L ≤ k ∧ P L ∧ ∀ j, j < L → ¬ P j := by
 intro k
 induction k using Nat.strongRecOn with
 | ind k ih =>
  intro hk
  by_cases e : ∃ j, j < k ∧ P j
  ·obtain ⟨j, hj, hp⟩ := e
   obtain ⟨L, h1, h2, h3⟩ := ih j hj hp
   exact ⟨L, by omega, h2, h3⟩
  ·exact ⟨k, Nat.le_refl _, hk, fun j hj hp => e ⟨j, hj, hp⟩⟩
theorem Ord.cycle {h : Nat → Nat} (hn : ∀ i, nx n f (h i) (h (i + 1))) (ho : outer n f (h 0)) {R : List Nat} (hd : R.Nodup) (hR : ∀ x, x ∈ R ↔ outer n f x) :
  1 ≤ R.length ∧ h R.length = h 0 ∧ (∀ j, 1 ≤ j → j < R.length → h j ≠ h 0) ∧ ∀ i, h i ∈ R := by
 have hout : ∀ i, outer n f (h i) := by
  intro i
  induction i with
  | zero => exact ho
  | succ i ih => exact o.nx_out ih (hn i)
 have back : ∀ i d, h i = h (i + d) → h 0 = h d := by
  intro i
  induction i with
  | zero => intro d e; rw [Nat.zero_add] at e; exact e
  | succ i ih =>
   intro d e
   refine ih d (o.nx_inj (hn i) ?_)
   rw [e, show i + 1 + d = (i + d) + 1 by omega]
   exact hn (i + d)
 have rep : ∃ i j, i < j ∧ j ≤ R.length ∧ h i = h j := by
  refine Classical.byContradiction fun no => ?_
  have nd : ((List.range (R.length + 1)).map h).Nodup := by
   refine List.pairwise_map.2 (List.Pairwise.imp_of_mem ?_ List.pairwise_lt_range)
   intro a b _ hb hab e
   rw [List.mem_range] at hb
   exact no ⟨a, b, hab, by omega, e⟩
  have k := nodup_sub _ R nd (fun x hx => by
   obtain ⟨i, _, rfl⟩ := List.mem_map.1 hx
   exact (hR _).2 (hout i))
  rw [List.length_map, List.length_range] at k
  omega
 obtain ⟨i, j, hij, hj, e⟩ := rep
 have e0 := back i (j - i) (by rw [show i + (j - i) = j by omega]; exact e)
 obtain ⟨L, hL, ⟨l1, l2⟩, l3⟩ := least (fun d => 1 ≤ d ∧ h d = h 0) (j - i) ⟨by omega, e0.symm⟩
 have hm : ∀ j, 1 ≤ j → j < L → h j ≠ h 0 := fun j h1 h2 e => l3 j h2 ⟨h1, e⟩
 have k := nodup_sub R ((List.range L).map h) hd (fun x hx => by
  refine Classical.byContradiction fun no => ?_
  refine o.fan hn l1 l2 hm ((hR x).1 hx) (fun i hi e => no (List.mem_map.2 ⟨i, List.mem_range.2 hi, e⟩)))
 rw [List.length_map, List.length_range] at k
 have eL : L = R.length := by omega
 subst eL
 exact ⟨l1, l2, hm, fun i => (hR _).2 (hout i)⟩
end
end Go.Proofs.Ytckkfjdkaimmhaa.M
namespace Go.Proofs.Ytckkfjdkaimmhaa.M
open Go.RowKit Go.Proofs.YtckkfjdkaimmhaaW.PrintWords Go.Proofs.Ytckkfjdkaimmhaa.PX Go.Proofs.Ytckkfjdkaimmhaa.G Go.Proofs.YtckkfjdkaimmhaaW.PrintMore
def listN (s : Nat) : List Int := ((List.range 7).filter fun i => s.testBit i).map fun (i : Nat) => (i : Int)
def listChk : Bool := (List.range 128).all fun s => decide (spec_l6List.f 30 (s : Int) = some (listN s))
theorem listChk_ok : listChk = true := by decide +kernel
theorem list_ev {s : Nat} (hs : s < 128) : Ev (fun k => spec_l6List.f k (s : Int)) (listN s) := Ev.of (spec_l6List.mono _) (of_decide_eq_true (List.all_eq_true.1 listChk_ok s (List.mem_range.2 hs)))
theorem listN_length (s : Nat) : (listN s).length = popN s := by unfold listN popN; rw [List.length_map]
end Go.Proofs.Ytckkfjdkaimmhaa.M
namespace Go.Proofs.Ytckkfjdkaimmhaa.M
open Go.RowKit Go.Proofs.YtckkfjdkaimmhaaW.PrintWords Go.Proofs.Ytckkfjdkaimmhaa.PX Go.Proofs.Ytckkfjdkaimmhaa.G
def elChk : Bool := (List.range 128).all fun s => decide (impl_elementsOf.f 70 (s : Int) = some (listN s))
theorem elChk_ok : elChk = true := by decide +kernel
theorem elements_ev {s : Nat} (hs : s < 128) : Ev (fun k => impl_elementsOf.f k (s : Int)) (listN s) := Ev.of (impl_elementsOf.mono _) (of_decide_eq_true (List.all_eq_true.1 elChk_ok s (List.mem_range.2 hs)))
def andN (s e : Nat) : Nat := s &&& (127 ^^^ e)
def andChk : Bool := (List.range 128).all fun s => (List.range 128).all fun e => decide (Go.bits .andNot .i64 (s : Int) (e : Int) = (andN s e : Int)) && decide (andN s e ≤ s) && (decide (s &&& e = 0) || decide (andN s e < s))
theorem andChk_ok : andChk = true := by decide +kernel
theorem and_facts {s e : Nat} (hs : s < 128) (he : e < 128) : Go.bits .andNot .i64 (s : Int) (e : Int) = (andN s e : Int) ∧ andN s e ≤ s ∧ (s &&& e ≠ 0 → andN s e < s) := by
 have k := List.all_eq_true.1 (List.all_eq_true.1 andChk_ok s (List.mem_range.2 hs)) e (List.mem_range.2 he)
 simp only [Bool.and_eq_true, Bool.or_eq_true, decide_eq_true_eq] at k
 exact ⟨k.1.1, k.1.2, fun h => k.2.resolve_left h⟩
def layF (n : Nat) (t : ByteArray) : Nat → Nat → List (List Int)
 | 0, _ => []
 | f + 1, s => if s = 0 then [] else listN (extN n t s) :: layF n t f (andN s (extN n t s))
theorem layF_length (n : Nat) (t : ByteArray) : ∀ f s, (layF n t f s).length ≤ f
 | 0, _ => Nat.le_refl _
 | f + 1, s => by
  rw [layF]
  split
  ·exact Nat.zero_le _
  ·rw [List.length_cons]
   exact Nat.succ_le_succ (layF_length n t f _)
theorem popN_le (s : Nat) : popN s ≤ 7 := by
 unfold popN
 exact Nat.le_trans (List.length_filter_le _ _) (by rw [List.length_range]; omega)
theorem layF_rows (n : Nat) (t : ByteArray) : ∀ f s, ∀ r ∈ layF n t f s, r.length ≤ 7
 | 0, _, r, h => by cases h
 | f + 1, s, r, h => by
  rw [layF] at h
  split at h
  ·cases h
  ·rcases List.mem_cons.1 h with rfl | h
   ·rw [listN_length]; exact popN_le _
   ·exact layF_rows n t f _ r h
def layA (n : Int) (t : ByteArray) : List (List Int) := if acyOk n t = true then layF n.toNat t 128 (2 ^ n.toNat - 1) else []
theorem sub_bits {s n p : Nat} (h : s < 2 ^ n) (hp : s.testBit p = true) : p < n := by
 refine Classical.byContradiction fun e => ?_
 have : s.testBit p = false := Nat.testBit_lt_two_pow (Nat.lt_of_lt_of_le h (Nat.pow_le_pow_right (by omega) (by omega)))
 rw [this] at hp
 cases hp
theorem lay_less {n : Nat} {t : ByteArray} (ho : acyOk n t = true) (h1 : n ≤ 7) {s : Nat} (hs : s < 2 ^ n) (h0 : s ≠ 0) : andN s (extN n t s) < s := by
 have hp := pow_128 h1
 refine (and_facts (by omega) (extN_lt t s h1)).2.2 ?_
 have e : s &&& extN n t s = extN n t s := by
  refine Nat.eq_of_testBit_eq fun i => ?_
  rw [Nat.testBit_and]
  by_cases hi : i < n
  ·rw [extN_bit t s h1 hi]
   unfold extB
   cases s.testBit i <;> rfl
  ·have : (extN n t s).testBit i = false := Nat.testBit_lt_two_pow (Nat.lt_of_lt_of_le (sumN_lt (extB n t s) n) (Nat.pow_le_pow_right (by omega) (by omega)))
   rw [this, Bool.and_false]
 rw [e]
 exact ext_pos ho h1 (fun p hp => sub_bits hs hp) h0
section
variable {n : Nat} {t : ByteArray} (ho : acyOk n t = true) (h : areOk n t = true) (h1 : n ≤ 7)
include ho h h1
theorem impl_lay_loop (f : Nat) : ∀ (s : Nat) (acc : List (List Int)), s < f → s < 2 ^ n → acc.length + f ≤ 1000 → Ev (fun k => impl_LayersOf.l0 k (tblL n t) acc (s : Int)) (acc ++ layF n t f s) := by
 have hp := pow_128 h1
 induction f with
 | zero => intro s acc hf; omega
 | succ f ih =>
  intro s acc hf hs ha
  refine ev_step ?_
  simp only [impl_LayersOf.l0]
  rw [layF]
  by_cases g : s = 0
  ·rw [if_pos g, List.append_nil]
   exact ev_pos (by omega) (Ev.now _)
  ·rw [if_neg g]
   have hl := lay_less ho h1 hs g
   refine ev_neg (by omega) (ev_pos (tblL_length _ _) (Ev.bind (impl_ext h (show s < 128 by omega)) (Ev.bind (elements_ev (extN_lt t s h1)) (ev_pos (by omega) ?_))))
   rw [(and_facts (show s < 128 by omega) (extN_lt t s h1)).1]
   refine ev_cast (ih _ _ (by omega) (by omega) ?_) ?_
   ·rw [List.length_append, List.length_singleton]; omega
   ·rw [List.append_assoc]; rfl
theorem spec_lay_loop (f : Nat) : ∀ (s : Nat) (acc : List (List Int)), s < f → s < 2 ^ n → acc.length + f ≤ 1000 → Ev (fun k => spec_LayersOf.l0 k acc (s : Int) (n : Int) t) (acc ++ layF n t f s) := by
 have hp := pow_128 h1
 induction f with
 | zero => intro s acc hf; omega
 | succ f ih =>
  intro s acc hf hs ha
  refine ev_step ?_
  simp only [spec_LayersOf.l0]
  rw [layF]
  by_cases g : s = 0
  ·rw [if_pos g, List.append_nil]
   exact ev_pos (by omega) (Ev.now _)
  ·rw [if_neg g]
   have hl := lay_less ho h1 hs g
   refine ev_neg (by omega) (Ev.bind (spec_ext h (show s < 128 by omega)) (Ev.bind (list_ev (extN_lt t s h1)) (ev_pos (by omega) ?_)))
   rw [(and_facts (show s < 128 by omega) (extN_lt t s h1)).1]
   refine ev_cast (ih _ _ (by omega) (by omega) ?_) ?_
   ·rw [List.length_append, List.length_singleton]; omega
   ·rw [List.append_assoc]; rfl
end
theorem impl_lay (n : Int) (t : ByteArray) (hs : t.size ≤ 9223372036854775807) : Ev (fun k => impl_LayersOf.f k n t) (layA n t) := by
 unfold impl_LayersOf.f layA
 refine Ev.bind (order_ev n t hs) ?_
 by_cases ho : acyOk n t = true
 ·rw [if_pos ho, if_pos ho]
  obtain ⟨N, rfl, h, h0, h1⟩ := acy_are ho
  simp only [Int.toNat_natCast]
  have hp := pow_128 h1
  have hpos : 0 < 2 ^ N := Nat.pow_pos (by omega)
  refine ev_pos (by first | rfl | trivial) (ev_call (fullSet_f h1) ?_)
  exact impl_lay_loop ho h h1 128 (2 ^ N - 1) [] (by omega) (by omega) (by simp)
 ·rw [if_neg ho, if_neg ho]
  exact ev_neg (by decide) (Ev.now _)
theorem spec_lay (n : Int) (t : ByteArray) (hs : t.size ≤ 9223372036854775807) : Ev (fun k => spec_LayersOf.f k n t) (layA n t) := by
 unfold spec_LayersOf.f layA
 refine ev_call rfl (Ev.bind (spec_isA n t hs) ?_)
 by_cases ho : acyOk n t = true
 ·rw [if_pos ho]
  obtain ⟨N, rfl, h, h0, h1⟩ := acy_are ho
  simp only [Int.toNat_natCast]
  have hp := pow_128 h1
  have hpos : 0 < 2 ^ N := Nat.pow_pos (by omega)
  rw [u64_id h1, full_ev h1]
  exact ev_pos ho (ev_pos (by omega) (spec_lay_loop ho h h1 128 (2 ^ N - 1) [] (by omega) (by omega) (by simp)))
 ·rw [if_neg ho]
  exact ev_neg ho (Ev.now _)
end Go.Proofs.Ytckkfjdkaimmhaa.M
namespace Go.Proofs.Ytckkfjdkaimmhaa.M
open Go.RowKit Go.Proofs.YtckkfjdkaimmhaaW.PrintWords Go.Proofs.Ytckkfjdkaimmhaa.PX Go.Proofs.Ytckkfjdkaimmhaa.G Go.Proofs.YtckkfjdkaimmhaaW.PrintMore
def leftV (n : Nat) (t : ByteArray) (i j : Nat) : Nat := ((List.range' 0 n).filter fun k => decide (chi n t i j k = 1)).length
theorem count_fold (c : Nat → Bool) (l : List Nat) : ∀ s : Nat, l.foldl (fun s k => if c k = true then s + 1 else s) s = s + (l.filter c).length := by
 induction l with
 | nil => intro s; rfl
 | cons x l ih =>
  intro s
  rw [List.foldl_cons, ih, List.filter_cons]
  cases c x
  ·rfl
  ·simp only [if_true, List.length_cons]; omega
theorem impl_left {n : Nat} {t : ByteArray} (h : areOk n t = true) {i j : Nat} (hi : i < n) (hj : j < n) : Ev (fun k => impl_chi_left.f k (tblL n t) (i : Int) (j : Int)) (leftV n t i j : Int) := by
 obtain ⟨⟨h0, h1⟩, _, _⟩ := (areOk_iff _ _).1 h
 unfold impl_chi_left.f
 have key := loop_up' (σ := Nat) (ρ := Int) (lo := 0) (n := n) (K := fun s _ => some (s : Int)) (L := fun x s k => impl_chi_left.l0 k (tblL n t) (i : Int) (j : Int) (s : Int) x) (fun x s => s ≤ x)
  (fun s x => .ok (if decide (chi n t i j x = 1) = true then s + 1 else s)) (fun s _ => ?_) (fun x _ hx s hs => ?_) (fun x _ hx s hs s' e => ?_) (by omega) 0 (Nat.le_refl _)
 ·rw [foldlM_ok, count_fold] at key
  refine ev_cast (key _ (Ev.now _)) ?_
  rw [Nat.zero_add]
  rfl
 ·refine Goes.step ?_
  simp only [impl_chi_left.l0, tbl_n]
  exact Goes.neg (by omega) (Goes.ok (K := fun s _ => some (s : Int)) s)
 ·refine Goes.step ?_
  simp only [impl_chi_left.l0, tbl_n]
  rw [tbl_rd n t i j x (by omega) (by omega) (by omega), wrap_id (x := (x : Int) + 1) (by omega) (by omega), wrap_id (x := (s : Int) + 1) (by omega) (by omega)]
  refine Goes.pos (by omega) (Goes.pos (by omega) (Goes.pos (by omega) (Goes.pos (by omega) (Goes.pos (by omega) (Goes.pos (by omega) (Goes.pos (by omega) ?_))))))
  by_cases g : chi n t i j x = 1
  ·rw [decide_eq_true g, if_pos rfl]
   exact Goes.pos g (Goes.ok (K := fun (s : Nat) k => impl_chi_left.l0 k (tblL n t) (i : Int) (j : Int) (s : Int) ((x + 1 : Nat) : Int)) (s + 1))
  ·rw [decide_eq_false g, if_neg (by decide)]
   exact Goes.neg g (Goes.ok (K := fun (s : Nat) k => impl_chi_left.l0 k (tblL n t) (i : Int) (j : Int) (s : Int) ((x + 1 : Nat) : Int)) s)
 ·cases e
  split <;> omega
theorem spec_left {n : Nat} {t : ByteArray} (h : areOk n t = true) {i j : Nat} (hi : i < n) (hj : j < n) (hij : i ≠ j) : Ev (fun k => spec_l7Left.f k (n : Int) t (i : Int) (j : Int)) (leftV n t i j : Int) := by
 obtain ⟨⟨h0, h1⟩, _, _⟩ := (areOk_iff _ _).1 h
 unfold spec_l7Left.f
 have hb1 : ∀ x : Bool, spec_l1Bit.f x = some (if x = true then 1 else 0) := fun x => by unfold spec_l1Bit.f; split <;> rfl
 have key := loop_up' (σ := Nat) (ρ := Int) (lo := 0) (n := n) (K := fun s _ => some (s : Int)) (L := fun x s k => spec_l7Left.l0 k (i : Int) (j : Int) (s : Int) x (n : Int) t) (fun x s => s ≤ x)
  (fun s x => .ok (if decide (chi n t i j x = 1) = true then s + 1 else s)) (fun s _ => ?_) (fun x _ hx s hs => ?_) (fun x _ hx s hs s' e => ?_) (by omega) 0 (Nat.le_refl _)
 ·rw [foldlM_ok, count_fold] at key
  refine ev_cast (key _ (Ev.now _)) ?_
  rw [Nat.zero_add]
  rfl
 ·refine Goes.step ?_
  simp only [spec_l7Left.l0]
  exact Goes.neg (by omega) (Goes.ok (K := fun s _ => some (s : Int)) s)
 ·have fin : ∀ (v : Bool), v = decide (chi n t i j x = 1) → Goes (.ok (if decide (chi n t i j x = 1) = true then s + 1 else s)) (fun (s : Nat) k => spec_l7Left.l0 k (i : Int) (j : Int) (s : Int) ((x + 1 : Nat) : Int) (n : Int) t)
    (fun k => (spec_l1Bit.f v).bind fun t163 => spec_l7Left.l0 k (i : Int) (j : Int) (wrap64 ((s : Int) + t163)) ((x + 1 : Nat) : Int) (n : Int) t) := by
   intro v hv
   refine Goes.call (hb1 v) ?_
   rw [← hv]
   cases v
   ·rw [if_neg (by decide), if_neg (by decide), wrap_id (by omega) (by omega), show (s : Int) + 0 = (s : Int) by omega]
    exact Goes.ok (K := fun (s : Nat) k => spec_l7Left.l0 k (i : Int) (j : Int) (s : Int) ((x + 1 : Nat) : Int) (n : Int) t) s
   ·rw [if_pos rfl, if_pos rfl, wrap_id (by omega) (by omega)]
    exact Goes.ok (K := fun (s : Nat) k => spec_l7Left.l0 k (i : Int) (j : Int) (s : Int) ((x + 1 : Nat) : Int) (n : Int) t) (s + 1)
  refine Goes.step ?_
  simp only [spec_l7Left.l0]
  rw [wrap_id (x := (x : Int) + 1) (by omega) (by omega)]
  refine Goes.pos (by omega) ?_
  by_cases g1 : x = i
  ·subst g1
   refine Goes.pos rfl (fin false ?_)
   rw [(chi_zero t (by omega) (by omega) (show x < 7 by omega) (show j < 7 by omega)).2.1]
   rfl
  ·refine Goes.neg (by omega) ?_
   by_cases g2 : x = j
   ·subst g2
    refine Goes.pos rfl (fin false ?_)
    rw [(chi_zero t (by omega) (by omega) (show x < 7 by omega) (show i < 7 by omega)).2.2]
    rfl
   ·refine Goes.neg (by omega) (Goes.ev (l3At_ev h hi hj hx hij (by omega) (by omega)) (fin _ ?_))
    rcases chi_three n t i j x with e | e | e <;> rw [e] <;> rfl
 ·cases e
  split <;> omega
theorem count_one : ∀ n : Nat, n ≤ 7 → ∀ i : Nat, i < n → ((List.range' 0 n).filter fun k => decide (k = i)).length = 1 := by decide +kernel
theorem count_four (p q r u : Nat → Bool) (l : List Nat) (h : ∀ k ∈ l, (if p k then 1 else 0) + (if q k then 1 else 0) + (if r k then 1 else 0) + (if u k then 1 else 0) = 1) :
  (l.filter p).length + (l.filter q).length + (l.filter r).length + (l.filter u).length = l.length := by
 induction l with
 | nil => rfl
 | cons x l ih =>
  have h1 := ih fun k hk => h k (List.mem_cons_of_mem _ hk)
  have h2 := h x List.mem_cons_self
  rw [List.filter_cons, List.filter_cons, List.filter_cons, List.filter_cons, List.length_cons]
  revert h2
  cases p x <;> cases q x <;> cases r x <;> cases u x <;> simp only [if_true, if_false, List.length_cons, Bool.false_eq_true] <;> intro h2 <;> omega
theorem leftV_sum {n : Nat} (t : ByteArray) (h0 : 3 ≤ n) (h1 : n ≤ 7) {i j : Nat} (hi : i < n) (hj : j < n) (hij : i ≠ j) : leftV n t i j + leftV n t j i + 2 = n := by
 have h := count_four (fun k => decide (chi n t i j k = 1)) (fun k => decide (chi n t j i k = 1)) (fun k => decide (k = i)) (fun k => decide (k = j)) (List.range' 0 n) fun k hk => ?_
 ·rw [count_one n h1 i hi, count_one n h1 j hj, List.length_range'] at h
  unfold leftV
  omega
 ·rw [List.mem_range'_1] at hk
  have e := chi_swap1 t h0 h1 (show i < 7 by omega) (show j < 7 by omega) (show k < 7 by omega)
  rw [e]
  by_cases g1 : k = i
  ·subst g1
   rw [(chi_zero t h0 h1 (show k < 7 by omega) (show j < 7 by omega)).2.1, decide_eq_true (show k = k from rfl), decide_eq_false hij]
   rfl
  ·by_cases g2 : k = j
   ·subst g2
    rw [(chi_zero t h0 h1 (show k < 7 by omega) (show i < 7 by omega)).2.2, decide_eq_true (show k = k from rfl), decide_eq_false g1]
    rfl
   ·rw [decide_eq_false g1, decide_eq_false g2]
    rcases chi_pm t h0 h1 hi hj (show k < n by omega) hij (by omega) (by omega) with e | e <;> rw [e] <;> rfl
end Go.Proofs.Ytckkfjdkaimmhaa.M
