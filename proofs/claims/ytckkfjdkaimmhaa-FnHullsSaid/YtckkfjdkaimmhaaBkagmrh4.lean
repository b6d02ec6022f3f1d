/- A part of proofs about signs and points: what some functions answer, and that their calls answer so. No condition. -/
import Derived.Test.YtckkfjdkaimmhaaProg
import Derived.Test.YtckkfjdkaimmhaaV1
import Derived.Test.YtckkfjdkaimmhaaBkagmrh1
import Derived.Test.YtckkfjdkaimmhaaBkagmrh2
import Derived.Test.YtckkfjdkaimmhaaBkagmrh3
set_option linter.unusedVariables false
set_option linter.unusedSimpArgs false
namespace Go.Proofs.Ytckkfjdkaimmhaa.PX
open Go.RowKit Go.Proofs.Ytckkfjdkaimmhaa.G Go.Proofs.YtckkfjdkaimmhaaW.PrintWords Go.Proofs.YtckkfjdkaimmhaaW.PrintLast Go.Proofs.YtckkfjdkaimmhaaW.PrintMore
attribute [local go_sem] max2_int min2_int max_two min_two max_three min_three max_four min_four   -- for this text's walks alone
set_option linter.unusedVariables false
set_option linter.unusedSimpArgs false
/-! ### spec_DrawInHull: function 52 -/
mutual
def spec_DrawInHull.j0 : Nat → Int → Int → Bool → List Int → Int → Int → Int → ByteArray → Option (Int × ByteArray × Int × Int)
 | 0, _, _, _, _, _, _, _, _ => none
 | k + 1, x7, x8, x30, x1080000, x1080001, x1080002, x1085000, x1085001 => if x30 = true then (some (x1085000, x1085001, x7, x8)) else ((spec_l1Below.f x1080000 x1080001 x1080002 x1085000).bind fun bt1101 => (spec_DrawInHull.l0 k bt1101.1 0 x1080000 bt1101.2.1 bt1101.2.2 x1085000 x1085001))
def spec_DrawInHull.j2 : Nat → Int → List Int → Int → Int → Int → ByteArray → Option (Int × ByteArray × Int × Int)
 | 0, _, _, _, _, _, _ => none
 | k + 1, x8, x1080000, x1080001, x1080002, x1085000, x1085001 => if 0 ≤ (IntKind.u64.wrap (x1085000)) then (if 0 ≤ (IntKind.u64.wrap (x8)) then ((spec_l1Below.f x1080000 x1080001 x1080002 x1085000).bind fun bt1105 => ((spec_l1Once.f x1080000 bt1105.2.1 bt1105.2.2 3).bind fun bt1108 => (if bt1108.1 = true then (if bt1105.1 = x8 then (some (x1085000, x1085001, wrap64 ((wrap64 ((shl .i64 1 (IntKind.u64.wrap (x1085000))) - 1)) - (shl .i64 1 (IntKind.u64.wrap (x8)))), x8)) else (if 0 ≤ (IntKind.u64.wrap (bt1105.1)) then (some (x1085000, x1085001, wrap64 ((wrap64 ((wrap64 ((shl .i64 1 (IntKind.u64.wrap (x1085000))) - 1)) - (shl .i64 1 (IntKind.u64.wrap (x8))))) - (shl .i64 1 (IntKind.u64.wrap (bt1105.1)))), x8)) else (none))) else (some (x1085000, x1085001, wrap64 ((wrap64 ((shl .i64 1 (IntKind.u64.wrap (x1085000))) - 1)) - (shl .i64 1 (IntKind.u64.wrap (x8)))), x8))))) else (none)) else (none)
def spec_DrawInHull.l0 : Nat → Int → Int → List Int → Int → Int → Int → ByteArray → Option (Int × ByteArray × Int × Int)
 | 0, _, _, _, _, _, _, _ => none
 | k + 1, x8, x9, x1080000, x1080001, x1080002, x1085000, x1085001 => if x9 < x1085000 then ((spec_IsExtreme.f k x1085000 x1085001 x8).bind fun t1104 => (if t1104 = true then (if x1085000 = 0 then (none) else (spec_DrawInHull.l0 k (Int.tmod (wrap64 (x8 + 1)) x1085000) (wrap64 (x9 + 1)) x1080000 x1080001 x1080002 x1085000 x1085001)) else (spec_DrawInHull.j2 k x8 x1080000 x1080001 x1080002 x1085000 x1085001))) else (spec_DrawInHull.j2 k x8 x1080000 x1080001 x1080002 x1085000 x1085001)
end
def spec_DrawInHull.f (k : Nat) (l0 : List Int) : Option (Int × ByteArray × Int × Int) := (spec_l1New.f k l0).bind fun bt1076 => ((spec_l5Draw.f k bt1076.1 bt1076.2.1 bt1076.2.2).bind fun bt1080 => ((spec_l1Below.f bt1076.1 bt1080.2.2.1 bt1080.2.2.2 70).bind fun bt1085 => ((spec_l1PickInt.f bt1076.1 bt1085.2.1 bt1085.2.2 (([0, 0, 0, 64, (-70)] : List Int))).bind fun bt1091 => ((spec_l1Below.f bt1076.1 bt1091.2.1 bt1091.2.2 6).bind fun bt1094 => ((spec_l1Once.f bt1076.1 bt1094.2.1 bt1094.2.2 3).bind fun bt1097 => (if bt1097.1 = true then (spec_DrawInHull.j0 k (wrap64 (bt1085.1 + bt1091.1)) bt1094.1 true bt1076.1 bt1097.2.1 bt1097.2.2 bt1080.1 bt1080.2.1) else ((spec_l1In.f bt1080.1 1 7).bind fun t1100 => (spec_DrawInHull.j0 k (wrap64 (bt1085.1 + bt1091.1)) bt1094.1 (!t1100) bt1076.1 bt1097.2.1 bt1097.2.2 bt1080.1 bt1080.2.1))))))))
theorem zl115_0 {p q p0 : Prop} (g : p) (g0 : p0) (h : p → p0 → q := by intro zg_ z0_; repeat (first | (with_reducible first | exact zg_ | apply below_alloc | apply pw_below_drewN | apply below_drew1 | refine below_set ?_ z0_) | exact zg_)) : q := h g g0
theorem zl115_1 {p q p0 : Prop} (g : p) (g0 : p0) (h : p → p0 → q := by intro zg_ z0_; repeat (first | (with_reducible first | exact zg_ | apply IsS110.alloc | apply IsS110.drewN | apply IsS110.drew | apply IsS110.set_1 | apply IsS110.set_2 | refine IsS110.far ?_ z0_ _) | exact zg_)) : q := h g g0
theorem zl115_2 {p q p0 p1 : Prop} (g : p) (g0 : p0) (g1 : p1) (h : p → p0 → p1 → q := by intro zg_ z0_ z1_; repeat (first | (with_reducible first | exact zg_ | apply below_alloc | apply pw_below_drewN | apply below_drew1 | refine below_set ?_ z0_ | refine below_set ?_ z1_) | exact zg_)) : q := h g g0 g1
theorem zl115_3 {p q p0 p1 : Prop} (g : p) (g0 : p0) (g1 : p1) (h : p → p0 → p1 → q := by intro zg_ z0_ z1_; repeat (first | (with_reducible first | exact zg_ | apply IsS110.alloc | apply IsS110.drewN | apply IsS110.drew | apply IsS110.set_1 | apply IsS110.set_2 | refine IsS110.far ?_ z0_ _ | refine IsS110.far ?_ z1_ _) | exact zg_)) : q := h g g0 g1
theorem zl115_4 {p q p0 p1 p2 : Prop} (g : p) (g0 : p0) (g1 : p1) (g2 : p2) (h : p → p0 → p1 → p2 → q := by intro zg_ z0_ z1_ z2_; repeat (first | (with_reducible first | exact zg_ | apply below_alloc | apply pw_below_drewN | apply below_drew1 | refine below_set ?_ z0_ | refine below_set ?_ z1_ | refine below_set ?_ z2_) | exact zg_)) : q := h g g0 g1 g2
set_option maxHeartbeats 8000000 in
set_option maxRecDepth 100000 in
theorem spec_DrawInHull.calls (k : Nat) (A0 : Option Addr) (c0 : Nat) (l0 : List Int) (r1 : Int) (r2 : ByteArray) (r3 : Int) (r4 : Int) (w : World) (hr0 : Kd.C (Kd.int .u8) w A0 l0.length l0) (hc0 : l0.length ≤ c0) (h : spec_DrawInHull.f k l0 = some (r1, r2, r3, r4)) :
  Calls Try.prog 52 #[.slice A0 l0.length c0] w fun e w' => e = .returned (.tuple #[.agg #[.int .i64 r1, .string r2], .int .i64 r3, .int .i64 r4]) ∧ Below w.heap.size w w' := by
 have hu25 := Try.underlying25
 have HR0 := Aside0.mk hr0
 have HC0 := Aside0.mk hc0
 clear hr0 hc0
 have HB := Aside0.mk (Below.refl w.heap.size w)
 have H : ((spec_l1New.f k l0).bind fun bt1076 => ((spec_l5Draw.f k bt1076.1 bt1076.2.1 bt1076.2.2).bind fun bt1080 => ((spec_l1Below.f bt1076.1 bt1080.2.2.1 bt1080.2.2.2 70).bind fun bt1085 => ((spec_l1PickInt.f bt1076.1 bt1085.2.1 bt1085.2.2 (([0, 0, 0, 64, (-70)] : List Int))).bind fun bt1091 => ((spec_l1Below.f bt1076.1 bt1091.2.1 bt1091.2.2 6).bind fun bt1094 => ((spec_l1Once.f bt1076.1 bt1094.2.1 bt1094.2.2 3).bind fun bt1097 => (if bt1097.1 = true then (spec_DrawInHull.j0 k (wrap64 (bt1085.1 + bt1091.1)) bt1094.1 true bt1076.1 bt1097.2.1 bt1097.2.2 bt1080.1 bt1080.2.1) else ((spec_l1In.f bt1080.1 1 7).bind fun t1100 => (spec_DrawInHull.j0 k (wrap64 (bt1085.1 + bt1091.1)) bt1094.1 (!t1100) bt1076.1 bt1097.2.1 bt1097.2.2 bt1080.1 bt1080.2.1))))))))) = some (r1, r2, r3, r4) := h
 clear h
 obtain ⟨⟨t1076, t1077, t1078⟩, A2, H⟩ := zO H
 dsimp only at H
 obtain ⟨⟨t1080, t1081, t1082, t1083⟩, A3, H⟩ := zO H
 dsimp only at H
 obtain ⟨⟨t1085, t1086, t1087⟩, A4, H⟩ := zO H
 dsimp only at H
 obtain ⟨y1088, hy1088⟩ : ∃ y_ : List Int, y_ = (([0, 0, 0, 64, (-70)] : List Int)) := ⟨_, rfl⟩
 replace H : ((spec_l1PickInt.f t1076 t1086 t1087 y1088).bind fun bt1091 => ((spec_l1Below.f t1076 bt1091.2.1 bt1091.2.2 6).bind fun bt1094 => ((spec_l1Once.f t1076 bt1094.2.1 bt1094.2.2 3).bind fun bt1097 => (if bt1097.1 = true then (spec_DrawInHull.j0 k (wrap64 (t1085 + bt1091.1)) bt1094.1 true t1076 bt1097.2.1 bt1097.2.2 t1080 t1081) else ((spec_l1In.f t1080 1 7).bind fun t1100 => (spec_DrawInHull.j0 k (wrap64 (t1085 + bt1091.1)) bt1094.1 (!t1100) t1076 bt1097.2.1 bt1097.2.2 t1080 t1081)))))) = some (r1, r2, r3, r4) := by first | (rw [hy1088]; with_reducible exact H) | (have H2_ := (Option.bind_some _ _).symm.trans H; rw [hy1088]; with_reducible exact H2_) | (have H2_ := (Option.bind_some _ _).symm.trans H; with_reducible exact H2_) | with_reducible exact H | (rw [hy1088]; exact H) | exact H
 have Ny1088 := Aside0.mk hy1088
 clear hy1088
 obtain ⟨⟨t1091, t1092, t1093⟩, A5, H⟩ := zO H
 dsimp only at H
 obtain ⟨⟨t1094, t1095, t1096⟩, A6, H⟩ := zO H
 dsimp only at H
 have HC7 := Aside0.mk H
 clear H
 go_enter Try.func52, Try.ntmps52
 go_upto_region 5 with (first | ((with_reducible refine gate_dst (N := 2) rfl ?_); refine zBx (N := 2) #[.int .i64 0, .string (⟨#[]⟩ : ByteArray)] 25 ?_; intro gb1075 hg w8 hbox hb; have BK1075 := Aside0.mk (hbox); have GW1075 := zS hg; have GE1075 := zS hg; replace HB := zX hb; clear hb hbox hg) | ((with_reducible refine gate_callee (f := 81) rfl ?_); refine zD (some 12) Try.func81 #[.slice A0 l0.length c0] ?_; (with_reducible refine (spec_l1New.calls k _ _ l0 t1076 t1077 t1078 w _ ?side1 ?side2 ?side3 A2.out).mono ?_); (case side1 => exact (zl115_0 HB.out GE1075.out)); (case side2 => exact HR0.out); (case side3 => exact HC0.out); rintro e w9 ⟨g1079, rfl, hi, hb, hb2⟩; refine ⟨_, rfl, ?_⟩; have HI1079 := Aside0.mk (hi); have NB1079_1075 := Aside0.mk (IsS110.ne_blk hi (blk_below (g := gb1075) (o := .cells #[.int .i64 0, .string (⟨#[]⟩ : ByteArray)] 25 (0, 0)) (zK BK1075.out) hb2) (by decide)); have NB1075_1079 := Aside0.mk (Ne.symm (IsS110.ne_blk hi (blk_below (g := gb1075) (o := .cells #[.int .i64 0, .string (⟨#[]⟩ : ByteArray)] 25 (0, 0)) (zK BK1075.out) hb2) (by decide))); replace BK1075 := Aside0.mk (blk_below (g := gb1075) (o := .cells #[.int .i64 0, .string (⟨#[]⟩ : ByteArray)] 25 (0, 0)) (zK BK1075.out) hb2); replace HB := Aside0.mk (hb); (try clear hb); (try clear hb2); (try clear hi)) | ((with_reducible refine gate_callee (f := 109) rfl ?_); refine zD (some 14) Try.func109 #[.pointer (some ⟨g1079, 0, none⟩)] ?_; (with_reducible refine (spec_l5Draw.calls k g1079 t1076 t1077 t1078 t1080 t1081 t1082 t1083 w _ ?side1 ?side2 A3.out).mono ?_); (case side1 => exact (zl115_1 HI1079.out NB1079_1075.out)); (case side2 => exact (zl115_2 HB.out (IsS110.ge HI1079.out) GE1075.out)); rintro e w10 ⟨rfl, hi, hb, hk⟩; refine ⟨_, rfl, ?_⟩; replace BK1075 := zKB hk BK1075.out NB1075_1079.out; replace HI1079 := Aside0.mk (hi); replace HB := Aside0.mk (hb); (try clear hb); (try clear hk); (try clear hi)) | ((with_reducible refine gate_dst (N := 6) rfl ?_); refine zBx (N := 6) #[.int .i64 0, .string (⟨#[]⟩ : ByteArray)] 25 ?_; intro gb1084 hg w11 hbox hb; have n0_ := zV BK1075.out hb; have n1_ := Aside0.mk (IsS110.below (zl115_1 HI1079.out NB1079_1075.out) hb); have n2_ := Aside0.mk (below_step (zG2 (IsS110.ge HI1079.out) GE1075.out) hb); have n3_ := Aside0.mk (hbox); have n4_ := zSg hg (zG2 (IsS110.ge HI1079.out) GE1075.out); have n5_ := zSg hg (zG2 (IsS110.ge HI1079.out) GE1075.out); have n6_ := zL hg BK1075.out; have n7_ := zLg hg BK1075.out; have n8_ := Aside0.mk ((by rw [hg]; exact Nat.ne_of_lt (IsS110.lt (show IsS110 w _ g1079 t1076 t1082 t1083 from (zl115_1 HI1079.out NB1079_1075.out))) : g1079 ≠ gb1084)); have n9_ := Aside0.mk ((by rw [hg]; exact Nat.ne_of_gt (IsS110.lt (show IsS110 w _ g1079 t1076 t1082 t1083 from (zl115_1 HI1079.out NB1079_1075.out))) : gb1084 ≠ g1079)); clear BK1075; clear HI1079; clear HB; have BK1075 := n0_; have HI1079 := n1_; have HB := n2_; have BK1084 := n3_; have GW1084 := n4_; have GE1084 := n5_; have NB1075_1084 := n6_; have NB1084_1075 := n7_; have NB1079_1084 := n8_; have NB1084_1079 := n9_; clear n0_ n1_ n2_ n3_ n4_ n5_ n6_ n7_ n8_ n9_; clear hb hbox hg; have hnb12 := NB1084_1075.out; have hnc12 := NB1075_1084.out; have hnb13 := NB1084_1079.out; have hnc13 := NB1079_1084.out; obtain ⟨hcz14_0, hcz14_1, hfz14_0, hfz14_1⟩ := zq2 BK1084.out) | ((with_reducible refine gate_callee (f := 125) rfl ?_); refine zD (some 16) Try.func125 #[.pointer (some ⟨g1079, 0, none⟩), .int .i64 70] ?_; (with_reducible refine (spec_l1Below.calls g1079 t1076 t1082 t1083 70 t1085 t1086 t1087 w _ ?side1 ?side2 A4.out).mono ?_); (case side1 => exact (zl115_3 HI1079.out NB1079_1075.out NB1079_1084.out)); (case side2 => exact (zl115_4 HB.out (IsS110.ge HI1079.out) GE1075.out GE1084.out)); rintro e w15 ⟨rfl, hi, hb, hk⟩; refine ⟨_, rfl, ?_⟩; replace BK1075 := Aside0.mk (KeepBut.blk hk (g' := gb1075) (o := .cells #[.int .i64 0, .string (⟨#[]⟩ : ByteArray)] 25 (0, 0)) (zk2 BK1075.out NB1075_1084.out NB1075_1084.out) NB1075_1079.out (by simp)); replace BK1084 := Aside0.mk (KeepBut.blk hk (g' := gb1084) (o := .cells #[.int .i64 t1080, .string t1081] 25 (0, 0)) (zk0 BK1084.out) NB1084_1079.out (by simp)); replace HI1079 := Aside0.mk (hi); replace HB := Aside0.mk (hb); (try clear hb); (try clear hk); (try clear hi)) | ((with_reducible refine gate_dst (N := 18) rfl ?_); refine Kd.R_lit (Kd.int .i64) _ 3 ?hg (N := 18) ?hd (xs := ([0, 0, 0, 64, (-70)] : List Int)) (inner := [.int .i64 0, .int .i64 0, .int .i64 0, .int .i64 64, .int .i64 (-70)]) (ok := fun _ => True) (okp := fun _ => True) ?hr ?hp (fun _ hk => hk) trivial (Below.refl _ _) (Nat.le_refl _) (by simp) ?_; (case hd => rfl); (case hg => rfl); (case hr => first | (go_simp; done) | (go_simp; rfl)); (case hp => exact (Reps.one (show Kd.M (Kd.int .i64) _ _ _ 0 [.int .i64 0] from rfl) (Reps.one (show Kd.M (Kd.int .i64) _ _ _ 0 [.int .i64 0] from rfl) (Reps.one (show Kd.M (Kd.int .i64) _ _ _ 0 [.int .i64 0] from rfl) (Reps.one (show Kd.M (Kd.int .i64) _ _ _ 64 [.int .i64 64] from rfl) (Reps.one (show Kd.M (Kd.int .i64) _ _ _ (-70) [.int .i64 (-70)] from rfl) (Reps.none _ _))))))); intro v1089 w16 ho17 hb hg_ hnew_; clear hg_ hnew_; (first | rw [← Ny1088.out] at ho17 | (simp only [Int.reduceToNat] at ho17; rw [← Ny1088.out] at ho17)); have n0_ := Aside0.mk (Kd.R_lower ho17 (below_size (zG3 (IsS110.ge HI1079.out) GE1075.out GE1084.out))); have n1_ := zV BK1075.out hb; have n2_ := Aside0.mk (IsS110.below (zl115_3 HI1079.out NB1079_1075.out NB1079_1084.out) hb); have n3_ := zV BK1084.out hb; have n4_ := Aside0.mk (below_step (zG3 (IsS110.ge HI1079.out) GE1075.out GE1084.out) hb); clear BK1075; clear HI1079; clear BK1084; clear HB; have HO1090 := n0_; have BK1075 := n1_; have HI1079 := n2_; have BK1084 := n3_; have HB := n4_; clear n0_ n1_ n2_ n3_ n4_; clear hb ho17; obtain ⟨Ao18, co18, eo18⟩ := Kd.R_slice HO1090.out; subst eo18) | ((with_reducible refine gate_callee (f := 126) rfl ?_); refine zD (some 19) Try.func126 #[.pointer (some ⟨g1079, 0, none⟩), .slice Ao18 y1088.length co18] ?_; (with_reducible refine (spec_l1PickInt.calls g1079 t1076 t1086 t1087 _ _ y1088 t1091 t1092 t1093 w _ ?side1 ?side2 ?side3 ?side4 ?side5 A5.out).mono ?_); (case side1 => exact (zl115_3 HI1079.out NB1079_1075.out NB1079_1084.out)); (case side2 => exact (zl115_4 HB.out (IsS110.ge HI1079.out) GE1075.out GE1084.out)); (case side3 => repeat (first | exact (Kd.R_reads' HO1090.out).2.2 | (with_reducible refine Kd.C_alloc ?_ _) | (with_reducible refine Kd.C_drewN ?_ _) | (with_reducible refine Kd.C_drew ?_))); (case side4 => exact (Kd.R_reads' HO1090.out).2.1); (case side5 => exact far_slice (IsS110.own_ne HI1079.out HO1090.out (by decide))); rintro e w19 ⟨rfl, hi, hb, hk⟩; refine ⟨_, rfl, ?_⟩; replace BK1075 := zKB hk BK1075.out NB1075_1079.out; replace BK1084 := zKB hk BK1084.out NB1084_1079.out; replace HO1090 := Aside0.mk (Kd.R_mono (Kd.R_keep (IsS110.apart (show IsS110 w _ g1079 t1076 t1086 t1087 from (zl115_3 HI1079.out NB1079_1075.out NB1079_1084.out)) (zR HO1090.out) (by decide)) hk (fun _ h => h.2)) (fun _ h => h.1)); replace HI1079 := Aside0.mk (hi); replace HB := Aside0.mk (hb); (try clear hb); (try clear hk); (try clear hi)) | ((with_reducible refine gate_callee (f := 125) rfl ?_); refine zD (some 22) Try.func125 #[.pointer (some ⟨g1079, 0, none⟩), .int .i64 6] ?_; (with_reducible refine (spec_l1Below.calls g1079 t1076 t1092 t1093 6 t1094 t1095 t1096 w _ ?side1 ?side2 A6.out).mono ?_); (case side1 => exact (zl115_3 HI1079.out NB1079_1075.out NB1079_1084.out)); (case side2 => exact (zl115_4 HB.out (IsS110.ge HI1079.out) GE1075.out GE1084.out)); rintro e w20 ⟨rfl, hi, hb, hk⟩; refine ⟨_, rfl, ?_⟩; replace BK1075 := zKB hk BK1075.out NB1075_1079.out; replace BK1084 := zKB hk BK1084.out NB1084_1079.out; replace HO1090 := Aside0.mk (Kd.R_mono (Kd.R_keep (IsS110.apart (show IsS110 w _ g1079 t1076 t1092 t1093 from (zl115_3 HI1079.out NB1079_1075.out NB1079_1084.out)) (zR HO1090.out) (by decide)) hk (fun _ h => h.2)) (fun _ h => h.1)); replace HI1079 := Aside0.mk (hi); replace HB := Aside0.mk (hb); (try clear hb); (try clear hk); (try clear hi)))
 (try simp only [Act.put, List.setIfInBounds_toArray, List.set_cons_zero, List.set_cons_succ])
 go_cut [30] (fun v30 wc => ∃ (kq : Nat) (x30_6 : Bool) (x1080001_6 : Int) (x1080002_6 : Int), v30 = .bool x30_6 ∧ Aside0 (spec_DrawInHull.j0 kq (wrap64 (t1085 + t1091)) t1094 x30_6 t1076 x1080001_6 x1080002_6 t1080 t1081 = some (r1, r2, r3, r4)) ∧ Aside0 (kq ≤ k) ∧ Aside0 (wc.heap[gb1075]? = some (.cells #[.int .i64 0, .string (⟨#[]⟩ : ByteArray)] 25 (0, 0))) ∧ Aside0 (wc.heap[gb1084]? = some (.cells #[.int .i64 t1080, .string t1081] 25 (0, 0))) ∧ Aside0 (IsS110 w wc g1079 t1076 x1080001_6 x1080002_6) ∧ Aside0 (Below w.heap.size w wc))
 case first =>
  have H := HC7.out
  clear HC7
  obtain ⟨⟨t1097, t1098, t1099⟩, A21, H⟩ := zO H
  dsimp only at H
  by_cases c22 : t1097 = true
  ·subst c22
   replace H := (if_pos rfl).symm.trans H
   have H' := Aside0.mk H; clear H
   go_wp2_with (first | ((with_reducible refine gate_callee (f := 127) rfl ?_); refine zD (some 24) Try.func127 #[.pointer (some ⟨g1079, 0, none⟩), .int .i64 3] ?_; (with_reducible refine (spec_l1Once.calls g1079 t1076 t1095 t1096 3 true t1098 t1099 w _ ?side1 ?side2 A21.out).mono ?_); (case side1 => exact (zl115_3 HI1079.out NB1079_1075.out NB1079_1084.out)); (case side2 => exact (zl115_4 HB.out (IsS110.ge HI1079.out) GE1075.out GE1084.out)); rintro e w23 ⟨rfl, hi, hb, hk⟩; refine ⟨_, rfl, ?_⟩; replace BK1075 := zKB hk BK1075.out NB1075_1079.out; replace BK1084 := zKB hk BK1084.out NB1084_1079.out; replace HO1090 := Aside0.mk (Kd.R_mono (Kd.R_keep (IsS110.apart (show IsS110 w _ g1079 t1076 t1095 t1096 from (zl115_3 HI1079.out NB1079_1075.out NB1079_1084.out)) (zR HO1090.out) (by decide)) hk (fun _ h => h.2)) (fun _ h => h.1)); replace HI1079 := Aside0.mk (hi); replace HB := Aside0.mk (hb); (try clear hb); (try clear hk); (try clear hi)))
   go_meet
   case rel => exact ⟨_, (true), (t1098), (t1099), zF, H', ⟨by first | omega | exact Nat.le_refl _⟩, ⟨zK BK1075.out⟩, ⟨zK BK1084.out⟩, ⟨(zl115_3 HI1079.out NB1079_1075.out NB1079_1084.out)⟩, ⟨zG3 (IsS110.ge HI1079.out) GE1075.out GE1084.out⟩⟩
  replace c22 := Bool.eq_false_iff.mpr c22
  subst c22
  replace H := (if_neg zFf).symm.trans H
  obtain ⟨t1100, A24, H⟩ := zO H
  have H' := Aside0.mk H; clear H
  go_wp2_with (first | ((with_reducible refine gate_callee (f := 127) rfl ?_); refine zD (some 24) Try.func127 #[.pointer (some ⟨g1079, 0, none⟩), .int .i64 3] ?_; (with_reducible refine (spec_l1Once.calls g1079 t1076 t1095 t1096 3 false t1098 t1099 w _ ?side1 ?side2 A21.out).mono ?_); (case side1 => exact (zl115_3 HI1079.out NB1079_1075.out NB1079_1084.out)); (case side2 => exact (zl115_4 HB.out (IsS110.ge HI1079.out) GE1075.out GE1084.out)); rintro e w25 ⟨rfl, hi, hb, hk⟩; refine ⟨_, rfl, ?_⟩; replace BK1075 := zKB hk BK1075.out NB1075_1079.out; replace BK1084 := zKB hk BK1084.out NB1084_1079.out; replace HO1090 := Aside0.mk (Kd.R_mono (Kd.R_keep (IsS110.apart (show IsS110 w _ g1079 t1076 t1095 t1096 from (zl115_3 HI1079.out NB1079_1075.out NB1079_1084.out)) (zR HO1090.out) (by decide)) hk (fun _ h => h.2)) (fun _ h => h.1)); replace HI1079 := Aside0.mk (hi); replace HB := Aside0.mk (hb); (try clear hb); (try clear hk); (try clear hi); have hnb26 := NB1084_1075.out; have hnc26 := NB1075_1084.out; have hnb27 := NB1084_1079.out; have hnc27 := NB1079_1084.out; obtain ⟨hcz28_0, hcz28_1, hfz28_0, hfz28_1⟩ := zq2 BK1084.out) | (go_at_call 89; (with_reducible refine (spec_l1In.calls t1080 1 7 t1100 _ A24.out).mono ?_); rintro e w' ⟨rfl, ⟨nd, rfl⟩⟩))
  go_meet
  case rel => exact ⟨_, (!t1100), (t1098), (t1099), zF, H', ⟨by first | omega | exact Nat.le_refl _⟩, ⟨zK BK1075.out⟩, ⟨zK BK1084.out⟩, ⟨(zl115_3 HI1079.out NB1079_1075.out NB1079_1084.out)⟩, ⟨zG3 (IsS110.ge HI1079.out) GE1075.out GE1084.out⟩⟩
 case rest =>
 clear HC7
 try clear hcz14_0
 try clear hcz14_1
 try clear hfz14_0
 try clear hfz14_1
 obtain ⟨kq, x30_6, x1080001_6, x1080002_6, rfl, HA, HJ6, BK1075, BK1084, HI1079, HB⟩ := hcut
 cases kq with
 | zero => exact absurd HA.out (by simp [spec_DrawInHull.j0])
 | succ kj6 =>
 have H := HA.out
 clear HA
 simp only [spec_DrawInHull.j0] at H
 by_cases c29 : x30_6 = true
 ·subst c29
  replace H := (if_pos rfl).symm.trans H
  simp only [Option.some.injEq, Prod.mk.injEq] at H
  obtain ⟨rfl, rfl, rfl, rfl⟩ := H
  have hnb30 := NB1084_1075.out
  have hnc30 := NB1075_1084.out
  have hnb31 := NB1084_1079.out
  have hnc31 := NB1079_1084.out
  obtain ⟨hcz32_0, hcz32_1, hfz32_0, hfz32_1⟩ := zq2 BK1084.out
  have hnb33 := NB1075_1079.out
  have hnc33 := NB1079_1075.out
  obtain ⟨hcz34_0, hcz34_1, hfz34_0, hfz34_1⟩ := zq2 BK1075.out
  go_wp2
  refine bodyPost_ret (results_ctt rfl _ _ gb1075 25 #[.int .i64 t1080, .string t1081] (0, 0) _ rfl (zk0 BK1075.out) Try.underlying25 rfl (by kernel_rfl)) rfl ?_
  exact ⟨zE, zG3 (IsS110.ge HI1079.out) GE1075.out GE1084.out⟩
 replace c29 := Bool.eq_false_iff.mpr c29
 subst c29
 replace H := (if_neg zFf).symm.trans H
 obtain ⟨⟨t1101, t1102, t1103⟩, A35, H⟩ := zO H
 dsimp only at H
 have HC36 := Aside0.mk H
 clear H
 have hnb37 := NB1084_1075.out
 have hnc37 := NB1075_1084.out
 have hnb38 := NB1084_1079.out
 have hnc38 := NB1079_1084.out
 obtain ⟨hcz39_0, hcz39_1, hfz39_0, hfz39_1⟩ := zq2 BK1084.out
 go_upto_block 0 with (first | ((with_reducible refine gate_callee (f := 125) rfl ?_); refine zD (some 37) Try.func125 #[.pointer (some ⟨g1079, 0, none⟩), .int .i64 t1080] ?_; (with_reducible refine (spec_l1Below.calls g1079 t1076 x1080001_6 x1080002_6 t1080 t1101 t1102 t1103 w _ ?side1 ?side2 A35.out).mono ?_); (case side1 => exact (zl115_3 HI1079.out NB1079_1075.out NB1079_1084.out)); (case side2 => exact (zl115_4 HB.out (IsS110.ge HI1079.out) GE1075.out GE1084.out)); rintro e w40 ⟨rfl, hi, hb, hk⟩; refine ⟨_, rfl, ?_⟩; replace BK1075 := zKB hk BK1075.out NB1075_1079.out; replace BK1084 := zKB hk BK1084.out NB1084_1079.out; replace HI1079 := Aside0.mk (hi); replace HB := Aside0.mk (hb); (try clear hb); (try clear hk); (try clear hi)))
 (try simp only [Act.put, List.setIfInBounds_toArray, List.set_cons_zero, List.set_cons_succ])
 go_cut [8] (fun v8 wc => ∃ (kq : Nat) (x8_35 : Int), v8 = .int .i64 x8_35 ∧ Aside0 (spec_DrawInHull.j2 kq x8_35 t1076 t1102 t1103 t1080 t1081 = some (r1, r2, r3, r4)) ∧ Aside0 (kq ≤ kj6) ∧ Aside0 (wc.heap[gb1075]? = some (.cells #[.int .i64 0, .string (⟨#[]⟩ : ByteArray)] 25 (0, 0))) ∧ Aside0 (wc.heap[gb1084]? = some (.cells #[.int .i64 t1080, .string t1081] 25 (0, 0))) ∧ Aside0 (IsS110 w wc g1079 t1076 t1102 t1103) ∧ Aside0 (Below w.heap.size w wc))
 case first =>
  have H := HC36.out
  clear HC36
  have H' := Aside0.mk H; clear H
  go_wp2
  go_loopg [8, 9] kj6 (fun kq v8 v9 w' => ∃ (x8_2 : Int) (x9_2 : Int), v8 = .int .i64 x8_2 ∧ v9 = .int .i64 x9_2 ∧ Aside0 (spec_DrawInHull.l0 kq x8_2 x9_2 t1076 t1102 t1103 t1080 t1081 = some (r1, r2, r3, r4)) ∧ Aside0 (kq ≤ kj6) ∧ Aside0 (w'.heap[gb1075]? = some (.cells #[.int .i64 0, .string (⟨#[]⟩ : ByteArray)] 25 (0, 0))) ∧ Aside0 (w'.heap[gb1084]? = some (.cells #[.int .i64 t1080, .string t1081] 25 (0, 0))) ∧ Aside0 (IsS110 w w' g1079 t1076 t1102 t1103) ∧ Aside0 (Below w.heap.size w w'))
  case atStart => exact ⟨(t1101), (0), zF, zF, H', ⟨Nat.le_refl _⟩, ⟨zK BK1075.out⟩, ⟨zK BK1084.out⟩, ⟨(zl115_3 HI1079.out NB1079_1075.out NB1079_1084.out)⟩, ⟨zG3 (IsS110.ge HI1079.out) GE1075.out GE1084.out⟩⟩
  case round =>
  clear H'
  try clear c29
  try clear hcz14_0
  try clear hcz14_1
  try clear hcz39_0
  try clear hcz39_1
  try clear hfz14_0
  try clear hfz14_1
  try clear hfz39_0
  try clear hfz39_1
  obtain ⟨x8_2, x9_2, rfl, rfl, HA, HK2, BK1075, BK1084, HI1079, HB⟩ := hrel
  cases gk with
  | zero => exact absurd HA.out (by simp [spec_DrawInHull.l0])
  | succ k2 =>
  have H := HA.out
  clear HA
  simp only [spec_DrawInHull.l0] at H
  by_cases c41 : x9_2 < t1080
  ·rw [if_pos c41] at H
   have c41b0 := decide_eq_true c41
   clear c41
   (first | rw [c41b0] | (simp only [i64_w, i32_w]; rw [c41b0]) | skip)
   obtain ⟨t1104, A42, H⟩ := zO H
   by_cases c43 : t1104 = true
   ·subst c43
    replace H := (if_pos rfl).symm.trans H
    by_cases c44 : t1080 = 0
    ·rw [if_pos c44] at H
     exact absurd H (by simp)
    rw [if_neg c44] at H
    have c44b0 := beq_eq_false_iff_ne.mpr c44
    have c44b1 := bne_iff_ne.mpr c44
    have H' := Aside0.mk H; clear H
    have hnb45 := NB1084_1075.out
    have hnc45 := NB1075_1084.out
    have hnb46 := NB1084_1079.out
    have hnc46 := NB1079_1084.out
    obtain ⟨hcz47_0, hcz47_1, hfz47_0, hfz47_1⟩ := zq2 BK1084.out
    go_wp2_with (first | (go_at_call 56; (with_reducible refine (spec_IsExtreme.calls k2 t1080 t1081 x8_2 true _ A42.out).mono ?_); rintro e w48 ⟨rfl, hb⟩; have n0_ := zV BK1075.out hb; have n1_ := zV BK1084.out hb; have n2_ := Aside0.mk (IsS110.below (zl115_3 HI1079.out NB1079_1075.out NB1079_1084.out) hb); have n3_ := Aside0.mk (below_step (zG3 (IsS110.ge HI1079.out) GE1075.out GE1084.out) hb); clear BK1075; clear BK1084; clear HI1079; clear HB; have BK1075 := n0_; have BK1084 := n1_; have HI1079 := n2_; have HB := n3_; clear n0_ n1_ n2_ n3_; (try clear hb); (try clear hb2); (try clear hk); (try clear hi); obtain ⟨hcz49_0, hcz49_1, hfz49_0, hfz49_1⟩ := zq2 BK1084.out))
    go_roundg k2
    case measure => have := HJ6.out; have := HK2.out; omega
    case rel => exact ⟨(Int.tmod (wrap64 (x8_2 + 1)) t1080), (wrap64 (x9_2 + 1)), zF, zF, H', ⟨by have := HJ6.out; have := HK2.out; omega⟩, ⟨zK BK1075.out⟩, ⟨zK BK1084.out⟩, ⟨(zl115_3 HI1079.out NB1079_1075.out NB1079_1084.out)⟩, ⟨zG3 (IsS110.ge HI1079.out) GE1075.out GE1084.out⟩⟩
   replace c43 := Bool.eq_false_iff.mpr c43
   subst c43
   replace H := (if_neg zFf).symm.trans H
   have H' := Aside0.mk H; clear H
   have hnb50 := NB1084_1075.out
   have hnc50 := NB1075_1084.out
   have hnb51 := NB1084_1079.out
   have hnc51 := NB1079_1084.out
   obtain ⟨hcz52_0, hcz52_1, hfz52_0, hfz52_1⟩ := zq2 BK1084.out
   go_wp2_with (first | (go_at_call 56; (with_reducible refine (spec_IsExtreme.calls k2 t1080 t1081 x8_2 false _ A42.out).mono ?_); rintro e w53 ⟨rfl, hb⟩; have n0_ := zV BK1075.out hb; have n1_ := zV BK1084.out hb; have n2_ := Aside0.mk (IsS110.below (zl115_3 HI1079.out NB1079_1075.out NB1079_1084.out) hb); have n3_ := Aside0.mk (below_step (zG3 (IsS110.ge HI1079.out) GE1075.out GE1084.out) hb); clear BK1075; clear BK1084; clear HI1079; clear HB; have BK1075 := n0_; have BK1084 := n1_; have HI1079 := n2_; have HB := n3_; clear n0_ n1_ n2_ n3_; (try clear hb); (try clear hb2); (try clear hk); (try clear hi)))
   go_meet
   case rel => exact ⟨_, (x8_2), zF, H', ⟨by have := HJ6.out; have := HK2.out; first | omega | exact Nat.le_refl _⟩, ⟨zK BK1075.out⟩, ⟨zK BK1084.out⟩, ⟨(zl115_3 HI1079.out NB1079_1075.out NB1079_1084.out)⟩, ⟨zG3 (IsS110.ge HI1079.out) GE1075.out GE1084.out⟩⟩
  rw [if_neg c41] at H
  have c41b0 := decide_eq_false c41
  clear c41
  (first | rw [c41b0] | (simp only [i64_w, i32_w]; rw [c41b0]) | skip)
  have H' := Aside0.mk H; clear H
  have hnb54 := NB1084_1075.out
  have hnc54 := NB1075_1084.out
  have hnb55 := NB1084_1079.out
  have hnc55 := NB1079_1084.out
  obtain ⟨hcz56_0, hcz56_1, hfz56_0, hfz56_1⟩ := zq2 BK1084.out
  go_wp2
  go_meet
  case rel => exact ⟨_, (x8_2), zF, H', ⟨by have := HJ6.out; have := HK2.out; first | omega | exact Nat.le_refl _⟩, ⟨zK BK1075.out⟩, ⟨zK BK1084.out⟩, ⟨(zl115_3 HI1079.out NB1079_1075.out NB1079_1084.out)⟩, ⟨zG3 (IsS110.ge HI1079.out) GE1075.out GE1084.out⟩⟩
 case rest =>
 clear HC36
 try clear c29
 try clear hcz14_0
 try clear hcz14_1
 try clear hcz39_0
 try clear hcz39_1
 try clear hfz14_0
 try clear hfz14_1
 try clear hfz39_0
 try clear hfz39_1
 obtain ⟨kq, x8_35, rfl, HA, HJ35, BK1075, BK1084, HI1079, HB⟩ := hcut
 cases kq with
 | zero => exact absurd HA.out (by simp [spec_DrawInHull.j2])
 | succ kj35 =>
 have H := HA.out
 clear HA
 simp only [spec_DrawInHull.j2] at H
 obtain ⟨ji57, hji57⟩ : ∃ j_ : Int, (IntKind.u64.wrap (t1080)) = j_ := ⟨_, rfl⟩
 replace H : (if 0 ≤ (ji57) then (if 0 ≤ (IntKind.u64.wrap (x8_35)) then ((spec_l1Below.f t1076 t1102 t1103 t1080).bind fun bt1105 => ((spec_l1Once.f t1076 bt1105.2.1 bt1105.2.2 3).bind fun bt1108 => (if bt1108.1 = true then (if bt1105.1 = x8_35 then (some (t1080, t1081, wrap64 ((wrap64 ((shl .i64 1 (ji57)) - 1)) - (shl .i64 1 (IntKind.u64.wrap (x8_35)))), x8_35)) else (if 0 ≤ (IntKind.u64.wrap (bt1105.1)) then (some (t1080, t1081, wrap64 ((wrap64 ((wrap64 ((shl .i64 1 (ji57)) - 1)) - (shl .i64 1 (IntKind.u64.wrap (x8_35))))) - (shl .i64 1 (IntKind.u64.wrap (bt1105.1)))), x8_35)) else (none))) else (some (t1080, t1081, wrap64 ((wrap64 ((shl .i64 1 (ji57)) - 1)) - (shl .i64 1 (IntKind.u64.wrap (x8_35)))), x8_35))))) else (none)) else (none)) = some (r1, r2, r3, r4) := by first | (rw [hji57] at H; exact H) | (simp only [hji57] at H ⊢; exact H)
 by_cases c58 : 0 ≤ (ji57)
 ·rw [if_pos c58] at H
  have c58b0 := eq_true c58
  have c58b1 := decide_eq_true c58
  clear c58
  obtain ⟨ji59, hji59⟩ : ∃ j_ : Int, (shl .i64 1 (ji57)) = j_ := ⟨_, rfl⟩
  replace H : (if 0 ≤ (IntKind.u64.wrap (x8_35)) then ((spec_l1Below.f t1076 t1102 t1103 t1080).bind fun bt1105 => ((spec_l1Once.f t1076 bt1105.2.1 bt1105.2.2 3).bind fun bt1108 => (if bt1108.1 = true then (if bt1105.1 = x8_35 then (some (t1080, t1081, wrap64 ((wrap64 ((ji59) - 1)) - (shl .i64 1 (IntKind.u64.wrap (x8_35)))), x8_35)) else (if 0 ≤ (IntKind.u64.wrap (bt1105.1)) then (some (t1080, t1081, wrap64 ((wrap64 ((wrap64 ((ji59) - 1)) - (shl .i64 1 (IntKind.u64.wrap (x8_35))))) - (shl .i64 1 (IntKind.u64.wrap (bt1105.1)))), x8_35)) else (none))) else (some (t1080, t1081, wrap64 ((wrap64 ((ji59) - 1)) - (shl .i64 1 (IntKind.u64.wrap (x8_35)))), x8_35))))) else (none)) = some (r1, r2, r3, r4) := by first | (rw [hji59] at H; exact H) | (simp only [hji59] at H ⊢; exact H)
  have hji59_ : (IntKind.i64.wrap (1 * 2 ^ min (ji57).toNat 64)) = ji59 := hji59
  have hji59z : (ji57) ≤ 64 → (IntKind.i64.wrap (1 * 2 ^ (ji57).toNat)) = ji59 := shl_small hji59
  have hji59u : (IntKind.i64.wrap (2 ^ min (ji57).toNat 64)) = ji59 := by have h_ := hji59_; rw [Int.one_mul] at h_; exact h_
  have hji59v : (ji57) ≤ 64 → (IntKind.i64.wrap (2 ^ (ji57).toNat)) = ji59 := fun hle_ => by have h_ := hji59z hle_; rw [Int.one_mul] at h_; exact h_
  have hji59y : (wrap64 (1 * 2 ^ min (ji57).toNat 64)) = ji59 := (i64_w _).symm.trans hji59_
  have hji59x : (ji57) ≤ 64 → (wrap64 (1 * 2 ^ (ji57).toNat)) = ji59 := fun h_ => (i64_w _).symm.trans (hji59z h_)
  obtain ⟨ji60, hji60⟩ : ∃ j_ : Int, (IntKind.u64.wrap (x8_35)) = j_ := ⟨_, rfl⟩
  replace H : (if 0 ≤ (ji60) then ((spec_l1Below.f t1076 t1102 t1103 t1080).bind fun bt1105 => ((spec_l1Once.f t1076 bt1105.2.1 bt1105.2.2 3).bind fun bt1108 => (if bt1108.1 = true then (if bt1105.1 = x8_35 then (some (t1080, t1081, wrap64 ((wrap64 ((ji59) - 1)) - (shl .i64 1 (ji60))), x8_35)) else (if 0 ≤ (IntKind.u64.wrap (bt1105.1)) then (some (t1080, t1081, wrap64 ((wrap64 ((wrap64 ((ji59) - 1)) - (shl .i64 1 (ji60)))) - (shl .i64 1 (IntKind.u64.wrap (bt1105.1)))), x8_35)) else (none))) else (some (t1080, t1081, wrap64 ((wrap64 ((ji59) - 1)) - (shl .i64 1 (ji60))), x8_35))))) else (none)) = some (r1, r2, r3, r4) := by first | (rw [hji60] at H; exact H) | (simp only [hji60] at H ⊢; exact H)
  by_cases c61 : 0 ≤ (ji60)
  ·rw [if_pos c61] at H
   have c61b0 := eq_true c61
   have c61b1 := decide_eq_true c61
   clear c61
   obtain ⟨ji62, hji62⟩ : ∃ j_ : Int, (shl .i64 1 (ji60)) = j_ := ⟨_, rfl⟩
   replace H : ((spec_l1Below.f t1076 t1102 t1103 t1080).bind fun bt1105 => ((spec_l1Once.f t1076 bt1105.2.1 bt1105.2.2 3).bind fun bt1108 => (if bt1108.1 = true then (if bt1105.1 = x8_35 then (some (t1080, t1081, wrap64 ((wrap64 ((ji59) - 1)) - (ji62)), x8_35)) else (if 0 ≤ (IntKind.u64.wrap (bt1105.1)) then (some (t1080, t1081, wrap64 ((wrap64 ((wrap64 ((ji59) - 1)) - (ji62))) - (shl .i64 1 (IntKind.u64.wrap (bt1105.1)))), x8_35)) else (none))) else (some (t1080, t1081, wrap64 ((wrap64 ((ji59) - 1)) - (ji62)), x8_35))))) = some (r1, r2, r3, r4) := by first | (rw [hji62] at H; exact H) | (simp only [hji62] at H ⊢; exact H)
   have hji62_ : (IntKind.i64.wrap (1 * 2 ^ min (ji60).toNat 64)) = ji62 := hji62
   have hji62z : (ji60) ≤ 64 → (IntKind.i64.wrap (1 * 2 ^ (ji60).toNat)) = ji62 := shl_small hji62
   have hji62u : (IntKind.i64.wrap (2 ^ min (ji60).toNat 64)) = ji62 := by have h_ := hji62_; rw [Int.one_mul] at h_; exact h_
   have hji62v : (ji60) ≤ 64 → (IntKind.i64.wrap (2 ^ (ji60).toNat)) = ji62 := fun hle_ => by have h_ := hji62z hle_; rw [Int.one_mul] at h_; exact h_
   have hji62y : (wrap64 (1 * 2 ^ min (ji60).toNat 64)) = ji62 := (i64_w _).symm.trans hji62_
   have hji62x : (ji60) ≤ 64 → (wrap64 (1 * 2 ^ (ji60).toNat)) = ji62 := fun h_ => (i64_w _).symm.trans (hji62z h_)
   obtain ⟨⟨t1105, t1106, t1107⟩, A63, H⟩ := zO H
   dsimp only at H
   obtain ⟨⟨t1108, t1109, t1110⟩, A64, H⟩ := zO H
   dsimp only at H
   by_cases c65 : t1108 = true
   ·subst c65
    replace H := (if_pos rfl).symm.trans H
    by_cases c66 : t1105 = x8_35
    ·rw [if_pos c66] at H
     have c66b0 := beq_iff_eq.mpr c66
     have c66b1 := bne_eq_false_iff_eq.mpr c66
     clear c66
     simp only [Option.some.injEq, Prod.mk.injEq] at H
     obtain ⟨rfl, rfl, rfl, rfl⟩ := H
     have hnb67 := NB1084_1075.out
     have hnc67 := NB1075_1084.out
     have hnb68 := NB1084_1079.out
     have hnc68 := NB1079_1084.out
     obtain ⟨hcz69_0, hcz69_1, hfz69_0, hfz69_1⟩ := zq2 BK1084.out
     go_wp2_with (first | ((with_reducible refine gate_callee (f := 125) rfl ?_); refine zD (some 66) Try.func125 #[.pointer (some ⟨g1079, 0, none⟩), .int .i64 t1080] ?_; (with_reducible refine (spec_l1Below.calls g1079 t1076 t1102 t1103 t1080 t1105 t1106 t1107 w _ ?side1 ?side2 A63.out).mono ?_); (case side1 => exact (zl115_3 HI1079.out NB1079_1075.out NB1079_1084.out)); (case side2 => exact (zl115_4 HB.out (IsS110.ge HI1079.out) GE1075.out GE1084.out)); rintro e w70 ⟨rfl, hi, hb, hk⟩; refine ⟨_, rfl, ?_⟩; replace BK1075 := zKB hk BK1075.out NB1075_1079.out; replace BK1084 := zKB hk BK1084.out NB1084_1079.out; replace HI1079 := Aside0.mk (hi); replace HB := Aside0.mk (hb); (try clear hb); (try clear hk); (try clear hi)) | ((with_reducible refine gate_callee (f := 127) rfl ?_); refine zD (some 68) Try.func127 #[.pointer (some ⟨g1079, 0, none⟩), .int .i64 3] ?_; (with_reducible refine (spec_l1Once.calls g1079 t1076 t1106 t1107 3 true t1109 t1110 w _ ?side1 ?side2 A64.out).mono ?_); (case side1 => exact (zl115_3 HI1079.out NB1079_1075.out NB1079_1084.out)); (case side2 => exact (zl115_4 HB.out (IsS110.ge HI1079.out) GE1075.out GE1084.out)); rintro e w71 ⟨rfl, hi, hb, hk⟩; refine ⟨_, rfl, ?_⟩; replace BK1075 := zKB hk BK1075.out NB1075_1079.out; replace BK1084 := zKB hk BK1084.out NB1084_1079.out; replace HI1079 := Aside0.mk (hi); replace HB := Aside0.mk (hb); (try clear hb); (try clear hk); (try clear hi); obtain ⟨hcz72_0, hcz72_1, hfz72_0, hfz72_1⟩ := zq2 BK1084.out; have hnb73 := NB1075_1079.out; have hnc73 := NB1079_1075.out; obtain ⟨hcz74_0, hcz74_1, hfz74_0, hfz74_1⟩ := zq2 BK1075.out))
     refine bodyPost_ret (results_ctt rfl _ _ gb1075 25 #[.int .i64 t1080, .string t1081] (0, 0) _ rfl (zk0 BK1075.out) Try.underlying25 rfl (by kernel_rfl)) rfl ?_
     exact ⟨by first | rfl | (simp [errW_none, errW_some] <;> rfl) | (simp only [← hji57, ← hji59, ← hji60, ← hji62]; first | rfl | (simp [errW_none, errW_some] <;> rfl)) | (simp [*, errW_none, errW_some] <;> rfl), zG3 (IsS110.ge HI1079.out) GE1075.out GE1084.out⟩
    rw [if_neg c66] at H
    have c66b0 := beq_eq_false_iff_ne.mpr c66
    have c66b1 := bne_iff_ne.mpr c66
    obtain ⟨ji75, hji75⟩ : ∃ j_ : Int, (IntKind.u64.wrap (t1105)) = j_ := ⟨_, rfl⟩
    replace H : (if 0 ≤ (ji75) then (some (t1080, t1081, wrap64 ((wrap64 ((wrap64 ((ji59) - 1)) - (ji62))) - (shl .i64 1 (ji75))), x8_35)) else (none)) = some (r1, r2, r3, r4) := by first | (rw [hji75] at H; exact H) | (simp only [hji75] at H ⊢; exact H)
    (try rw [hji75] at A63)
    (try rw [hji75] at A64)
    by_cases c76 : 0 ≤ (ji75)
    ·rw [if_pos c76] at H
     have c76b0 := eq_true c76
     have c76b1 := decide_eq_true c76
     clear c76
     obtain ⟨ji77, hji77⟩ : ∃ j_ : Int, (shl .i64 1 (ji75)) = j_ := ⟨_, rfl⟩
     replace H : (some (t1080, t1081, wrap64 ((wrap64 ((wrap64 ((ji59) - 1)) - (ji62))) - (ji77)), x8_35)) = some (r1, r2, r3, r4) := by first | (rw [hji77] at H; exact H) | (simp only [hji77] at H ⊢; exact H)
     (try rw [hji77] at A63)
     (try rw [hji77] at A64)
     have hji77_ : (IntKind.i64.wrap (1 * 2 ^ min (ji75).toNat 64)) = ji77 := hji77
     have hji77z : (ji75) ≤ 64 → (IntKind.i64.wrap (1 * 2 ^ (ji75).toNat)) = ji77 := shl_small hji77
     have hji77u : (IntKind.i64.wrap (2 ^ min (ji75).toNat 64)) = ji77 := by have h_ := hji77_; rw [Int.one_mul] at h_; exact h_
     have hji77v : (ji75) ≤ 64 → (IntKind.i64.wrap (2 ^ (ji75).toNat)) = ji77 := fun hle_ => by have h_ := hji77z hle_; rw [Int.one_mul] at h_; exact h_
     have hji77y : (wrap64 (1 * 2 ^ min (ji75).toNat 64)) = ji77 := (i64_w _).symm.trans hji77_
     have hji77x : (ji75) ≤ 64 → (wrap64 (1 * 2 ^ (ji75).toNat)) = ji77 := fun h_ => (i64_w _).symm.trans (hji77z h_)
     simp only [Option.some.injEq, Prod.mk.injEq] at H
     obtain ⟨rfl, rfl, rfl, rfl⟩ := H
     have hnb78 := NB1084_1075.out
     have hnc78 := NB1075_1084.out
     have hnb79 := NB1084_1079.out
     have hnc79 := NB1079_1084.out
     obtain ⟨hcz80_0, hcz80_1, hfz80_0, hfz80_1⟩ := zq2 BK1084.out
     go_wp2_with (first | ((with_reducible refine gate_callee (f := 125) rfl ?_); refine zD (some 66) Try.func125 #[.pointer (some ⟨g1079, 0, none⟩), .int .i64 t1080] ?_; (with_reducible refine (spec_l1Below.calls g1079 t1076 t1102 t1103 t1080 t1105 t1106 t1107 w _ ?side1 ?side2 A63.out).mono ?_); (case side1 => exact (zl115_3 HI1079.out NB1079_1075.out NB1079_1084.out)); (case side2 => exact (zl115_4 HB.out (IsS110.ge HI1079.out) GE1075.out GE1084.out)); rintro e w81 ⟨rfl, hi, hb, hk⟩; refine ⟨_, rfl, ?_⟩; replace BK1075 := zKB hk BK1075.out NB1075_1079.out; replace BK1084 := zKB hk BK1084.out NB1084_1079.out; replace HI1079 := Aside0.mk (hi); replace HB := Aside0.mk (hb); (try clear hb); (try clear hk); (try clear hi)) | ((with_reducible refine gate_callee (f := 127) rfl ?_); refine zD (some 68) Try.func127 #[.pointer (some ⟨g1079, 0, none⟩), .int .i64 3] ?_; (with_reducible refine (spec_l1Once.calls g1079 t1076 t1106 t1107 3 true t1109 t1110 w _ ?side1 ?side2 A64.out).mono ?_); (case side1 => exact (zl115_3 HI1079.out NB1079_1075.out NB1079_1084.out)); (case side2 => exact (zl115_4 HB.out (IsS110.ge HI1079.out) GE1075.out GE1084.out)); rintro e w82 ⟨rfl, hi, hb, hk⟩; refine ⟨_, rfl, ?_⟩; replace BK1075 := zKB hk BK1075.out NB1075_1079.out; replace BK1084 := zKB hk BK1084.out NB1084_1079.out; replace HI1079 := Aside0.mk (hi); replace HB := Aside0.mk (hb); (try clear hb); (try clear hk); (try clear hi); obtain ⟨hcz83_0, hcz83_1, hfz83_0, hfz83_1⟩ := zq2 BK1084.out; have hnb84 := NB1075_1079.out; have hnc84 := NB1079_1075.out; obtain ⟨hcz85_0, hcz85_1, hfz85_0, hfz85_1⟩ := zq2 BK1075.out))
     refine bodyPost_ret (results_ctt rfl _ _ gb1075 25 #[.int .i64 t1080, .string t1081] (0, 0) _ rfl (zk0 BK1075.out) Try.underlying25 rfl (by kernel_rfl)) rfl ?_
     exact ⟨by first | rfl | (simp [errW_none, errW_some] <;> rfl) | (simp only [← hji57, ← hji59, ← hji60, ← hji62, ← hji75, ← hji77]; first | rfl | (simp [errW_none, errW_some] <;> rfl)) | (simp [*, errW_none, errW_some] <;> rfl), zG3 (IsS110.ge HI1079.out) GE1075.out GE1084.out⟩
    rw [if_neg c76] at H
    exact absurd H (by simp)
   replace c65 := Bool.eq_false_iff.mpr c65
   subst c65
   replace H := (if_neg zFf).symm.trans H
   simp only [Option.some.injEq, Prod.mk.injEq] at H
   obtain ⟨rfl, rfl, rfl, rfl⟩ := H
   have hnb86 := NB1084_1075.out
   have hnc86 := NB1075_1084.out
   have hnb87 := NB1084_1079.out
   have hnc87 := NB1079_1084.out
   obtain ⟨hcz88_0, hcz88_1, hfz88_0, hfz88_1⟩ := zq2 BK1084.out
   go_wp2_with (first | ((with_reducible refine gate_callee (f := 125) rfl ?_); refine zD (some 66) Try.func125 #[.pointer (some ⟨g1079, 0, none⟩), .int .i64 t1080] ?_; (with_reducible refine (spec_l1Below.calls g1079 t1076 t1102 t1103 t1080 t1105 t1106 t1107 w _ ?side1 ?side2 A63.out).mono ?_); (case side1 => exact (zl115_3 HI1079.out NB1079_1075.out NB1079_1084.out)); (case side2 => exact (zl115_4 HB.out (IsS110.ge HI1079.out) GE1075.out GE1084.out)); rintro e w89 ⟨rfl, hi, hb, hk⟩; refine ⟨_, rfl, ?_⟩; replace BK1075 := zKB hk BK1075.out NB1075_1079.out; replace BK1084 := zKB hk BK1084.out NB1084_1079.out; replace HI1079 := Aside0.mk (hi); replace HB := Aside0.mk (hb); (try clear hb); (try clear hk); (try clear hi)) | ((with_reducible refine gate_callee (f := 127) rfl ?_); refine zD (some 68) Try.func127 #[.pointer (some ⟨g1079, 0, none⟩), .int .i64 3] ?_; (with_reducible refine (spec_l1Once.calls g1079 t1076 t1106 t1107 3 false t1109 t1110 w _ ?side1 ?side2 A64.out).mono ?_); (case side1 => exact (zl115_3 HI1079.out NB1079_1075.out NB1079_1084.out)); (case side2 => exact (zl115_4 HB.out (IsS110.ge HI1079.out) GE1075.out GE1084.out)); rintro e w90 ⟨rfl, hi, hb, hk⟩; refine ⟨_, rfl, ?_⟩; replace BK1075 := zKB hk BK1075.out NB1075_1079.out; replace BK1084 := zKB hk BK1084.out NB1084_1079.out; replace HI1079 := Aside0.mk (hi); replace HB := Aside0.mk (hb); (try clear hb); (try clear hk); (try clear hi); obtain ⟨hcz91_0, hcz91_1, hfz91_0, hfz91_1⟩ := zq2 BK1084.out; have hnb92 := NB1075_1079.out; have hnc92 := NB1079_1075.out; obtain ⟨hcz93_0, hcz93_1, hfz93_0, hfz93_1⟩ := zq2 BK1075.out))
   refine bodyPost_ret (results_ctt rfl _ _ gb1075 25 #[.int .i64 t1080, .string t1081] (0, 0) _ rfl (zk0 BK1075.out) Try.underlying25 rfl (by kernel_rfl)) rfl ?_
   exact ⟨by first | rfl | (simp [errW_none, errW_some] <;> rfl) | (simp only [← hji57, ← hji59, ← hji60, ← hji62]; first | rfl | (simp [errW_none, errW_some] <;> rfl)) | (simp [*, errW_none, errW_some] <;> rfl), zG3 (IsS110.ge HI1079.out) GE1075.out GE1084.out⟩
  rw [if_neg c61] at H
  exact absurd H (by simp)
 rw [if_neg c58] at H
 exact absurd H (by simp)
/-! ### spec_l6Extreme: function 128 -/
def spec_l6Extreme.l0 : Nat → Int → Int → Int → Int → ByteArray → Option (Int)
 | 0, _, _, _, _, _ => none
 | k + 1, x1, x5, x6, x1112000, x1112001 => if x6 < x1112000 then ((spec_l6Has.f x1 x6).bind fun t1112 => (if t1112 = true then ((spec_l6In.f k x1112000 x1112001 x1 x6).bind fun t1113 => (if t1113 = true then (spec_l6Extreme.l0 k x1 x5 (wrap64 (x6 + 1)) x1112000 x1112001) else (if 0 ≤ (IntKind.u64.wrap (x6)) then (spec_l6Extreme.l0 k x1 (wrap64 (x5 + (shl .i64 1 (IntKind.u64.wrap (x6))))) (wrap64 (x6 + 1)) x1112000 x1112001) else (none)))) else (spec_l6Extreme.l0 k x1 x5 (wrap64 (x6 + 1)) x1112000 x1112001))) else (some x5)
def spec_l6Extreme.f (k : Nat) (a0_0 : Int) (a0_1 : ByteArray) (a1 : Int) : Option (Int) := spec_l6Extreme.l0 k a1 0 0 a0_0 a0_1
set_option maxHeartbeats 8000000 in
set_option maxRecDepth 100000 in
theorem spec_l6Extreme.calls (k : Nat) (a0_0 : Int) (a0_1 : ByteArray) (a1 : Int) (r : Int) (w : World) (h : spec_l6Extreme.f k a0_0 a0_1 a1 = some r) :
  Calls Try.prog 128 #[.agg #[.int .i64 a0_0, .string a0_1], .int .i64 a1] w fun e w' => e = .returned (.int .i64 r) ∧ Below w.heap.size w w' := by
 have hu25 := Try.underlying25
 have HB := Aside0.mk (Below.refl w.heap.size w)
 have H : (spec_l6Extreme.l0 k a1 0 0 a0_0 a0_1) = some r := h
 clear h
 have H' := Aside0.mk H; clear H
 go_enter Try.func128, Try.ntmps128
 go_wp2_with (first | ((with_reducible refine gate_dst (N := 2) rfl ?_); refine zBx (N := 2) #[.int .i64 a0_0, .string a0_1] 25 ?_; intro gb1111 hg w3 hbox hb; have BK1111 := Aside0.mk (hbox); have GW1111 := zS hg; have GE1111 := zS hg; replace HB := zX hb; clear hb hbox hg))
 go_loopg [5, 6] k (fun kq v5 v6 w' => ∃ (x5_1 : Int) (x6_1 : Int), v5 = .int .i64 x5_1 ∧ v6 = .int .i64 x6_1 ∧ Aside0 (spec_l6Extreme.l0 kq a1 x5_1 x6_1 a0_0 a0_1 = some r) ∧ Aside0 (kq ≤ k) ∧ Aside0 (w'.heap[gb1111]? = some (.cells #[.int .i64 a0_0, .string a0_1] 25 (0, 0))) ∧ Aside0 (Below w.heap.size w w'))
 case atStart => exact ⟨(0), (0), zF, zF, H', ⟨Nat.le_refl _⟩, ⟨zK BK1111.out⟩, ⟨zG GE1111.out⟩⟩
 case round =>
 clear H'
 obtain ⟨x5_1, x6_1, rfl, rfl, HA, HK1, BK1111, HB⟩ := hrel
 cases gk with
 | zero => exact absurd HA.out (by simp [spec_l6Extreme.l0])
 | succ k1 =>
 have H := HA.out
 clear HA
 simp only [spec_l6Extreme.l0] at H
 by_cases c4 : x6_1 < a0_0
 ·rw [if_pos c4] at H
  have c4b0 := decide_eq_true c4
  clear c4
  obtain ⟨t1112, A5, H⟩ := zO H
  by_cases c6 : t1112 = true
  ·subst c6
   replace H := (if_pos rfl).symm.trans H
   obtain ⟨t1113, A7, H⟩ := zO H
   by_cases c8 : t1113 = true
   ·subst c8
    replace H := (if_pos rfl).symm.trans H
    have H' := Aside0.mk H; clear H
    obtain ⟨hcz9_0, hcz9_1, hfz9_0, hfz9_1⟩ := zq2 BK1111.out
    go_wp2_with (first | ((with_reducible refine gate_callee (f := 129) rfl ?_); refine zD (some 15) Try.func129 #[.int .i64 a1, .int .i64 x6_1] ?_; (with_reducible refine (spec_l6Has.calls a1 x6_1 true _ A5.out).mono ?_); rintro e w' ⟨rfl, ⟨nd, rfl⟩⟩; refine ⟨_, rfl, ?_⟩) | (go_at_call 132; (with_reducible refine (spec_l6In.calls k1 a0_0 a0_1 a1 x6_1 true _ A7.out).mono ?_); rintro e w10 ⟨rfl, hb⟩; replace BK1111 := zV BK1111.out hb; replace HB := zX1 GE1111.out hb; (try clear hb); (try clear hb2); (try clear hk); (try clear hi)))
    go_roundg k1
    case measure => have := HK1.out; omega
    case rel => exact ⟨(x5_1), (wrap64 (x6_1 + 1)), zF, zF, H', ⟨by have := HK1.out; omega⟩, ⟨zK BK1111.out⟩, ⟨zG GE1111.out⟩⟩
   replace c8 := Bool.eq_false_iff.mpr c8
   subst c8
   replace H := (if_neg zFf).symm.trans H
   obtain ⟨ji11, hji11⟩ : ∃ j_ : Int, (IntKind.u64.wrap (x6_1)) = j_ := ⟨_, rfl⟩
   replace H : (if 0 ≤ (ji11) then (spec_l6Extreme.l0 k1 a1 (wrap64 (x5_1 + (shl .i64 1 (ji11)))) (wrap64 (x6_1 + 1)) a0_0 a0_1) else (none)) = some r := by first | (rw [hji11] at H; exact H) | (simp only [hji11] at H ⊢; exact H)
   (try rw [hji11] at A5)
   (try rw [hji11] at A7)
   by_cases c12 : 0 ≤ (ji11)
   ·rw [if_pos c12] at H
    have c12b0 := eq_true c12
    have c12b1 := decide_eq_true c12
    clear c12
    obtain ⟨ji13, hji13⟩ : ∃ j_ : Int, (shl .i64 1 (ji11)) = j_ := ⟨_, rfl⟩
    replace H : (spec_l6Extreme.l0 k1 a1 (wrap64 (x5_1 + (ji13))) (wrap64 (x6_1 + 1)) a0_0 a0_1) = some r := by first | (rw [hji13] at H; exact H) | (simp only [hji13] at H ⊢; exact H)
    (try rw [hji13] at A5)
    (try rw [hji13] at A7)
    have hji13_ : (IntKind.i64.wrap (1 * 2 ^ min (ji11).toNat 64)) = ji13 := hji13
    have hji13z : (ji11) ≤ 64 → (IntKind.i64.wrap (1 * 2 ^ (ji11).toNat)) = ji13 := shl_small hji13
    have hji13u : (IntKind.i64.wrap (2 ^ min (ji11).toNat 64)) = ji13 := by have h_ := hji13_; rw [Int.one_mul] at h_; exact h_
    have hji13v : (ji11) ≤ 64 → (IntKind.i64.wrap (2 ^ (ji11).toNat)) = ji13 := fun hle_ => by have h_ := hji13z hle_; rw [Int.one_mul] at h_; exact h_
    have hji13y : (wrap64 (1 * 2 ^ min (ji11).toNat 64)) = ji13 := (i64_w _).symm.trans hji13_
    have hji13x : (ji11) ≤ 64 → (wrap64 (1 * 2 ^ (ji11).toNat)) = ji13 := fun h_ => (i64_w _).symm.trans (hji13z h_)
    have H' := Aside0.mk H; clear H
    obtain ⟨hcz14_0, hcz14_1, hfz14_0, hfz14_1⟩ := zq2 BK1111.out
    go_wp2_with (first | ((with_reducible refine gate_callee (f := 129) rfl ?_); refine zD (some 15) Try.func129 #[.int .i64 a1, .int .i64 x6_1] ?_; (with_reducible refine (spec_l6Has.calls a1 x6_1 true _ A5.out).mono ?_); rintro e w' ⟨rfl, ⟨nd, rfl⟩⟩; refine ⟨_, rfl, ?_⟩) | (go_at_call 132; (with_reducible refine (spec_l6In.calls k1 a0_0 a0_1 a1 x6_1 false _ A7.out).mono ?_); rintro e w15 ⟨rfl, hb⟩; replace BK1111 := zV BK1111.out hb; replace HB := zX1 GE1111.out hb; (try clear hb); (try clear hb2); (try clear hk); (try clear hi)))
    go_roundg k1
    case measure => have := HK1.out; omega
    case rel => exact ⟨(wrap64 (x5_1 + (ji13))), (wrap64 (x6_1 + 1)), (by first | rfl | (simp; done) | (simp only [← hji13] <;> (first | rfl | simp)) | (simp [*]; done)), zF, H', ⟨by have := HK1.out; omega⟩, ⟨zK BK1111.out⟩, ⟨zG GE1111.out⟩⟩
   rw [if_neg c12] at H
   exact absurd H (by simp)
  replace c6 := Bool.eq_false_iff.mpr c6
  subst c6
  replace H := (if_neg zFf).symm.trans H
  have H' := Aside0.mk H; clear H
  obtain ⟨hcz16_0, hcz16_1, hfz16_0, hfz16_1⟩ := zq2 BK1111.out
  go_wp2_with (first | ((with_reducible refine gate_callee (f := 129) rfl ?_); refine zD (some 15) Try.func129 #[.int .i64 a1, .int .i64 x6_1] ?_; (with_reducible refine (spec_l6Has.calls a1 x6_1 false _ A5.out).mono ?_); rintro e w' ⟨rfl, ⟨nd, rfl⟩⟩; refine ⟨_, rfl, ?_⟩))
  go_roundg k1
  case measure => have := HK1.out; omega
  case rel => exact ⟨(x5_1), (wrap64 (x6_1 + 1)), zF, zF, H', ⟨by have := HK1.out; omega⟩, ⟨zK BK1111.out⟩, ⟨zG GE1111.out⟩⟩
 rw [if_neg c4] at H
 have c4b0 := decide_eq_false c4
 clear c4
 obtain rfl := Option.some.inj H
 obtain ⟨hcz17_0, hcz17_1, hfz17_0, hfz17_1⟩ := zq2 BK1111.out
 go_wp2
 go_ret
 exact ⟨zE, zG GE1111.out⟩
/-! ### spec_l6Left: function 130 -/
def spec_l6Left.l0 : Nat → Int → Int → Int → Int → Int → ByteArray → Option (Bool)
 | 0, _, _, _, _, _, _ => none
 | k + 1, x1, x2, x3, x9, x1115000, x1115001 => if x9 < x1115000 then (if x9 = x2 then (spec_l6Left.l0 k x1 x2 x3 (wrap64 (x9 + 1)) x1115000 x1115001) else (if x9 = x3 then (spec_l6Left.l0 k x1 x2 x3 (wrap64 (x9 + 1)) x1115000 x1115001) else ((spec_l6Has.f x1 x9).bind fun t1115 => (if t1115 = true then ((spec_l3At.f k x1115000 x1115001 x2 x3 x9).bind fun t1116 => (if t1116 < 0 then (some false) else (spec_l6Left.l0 k x1 x2 x3 (wrap64 (x9 + 1)) x1115000 x1115001))) else (spec_l6Left.l0 k x1 x2 x3 (wrap64 (x9 + 1)) x1115000 x1115001))))) else (some true)
def spec_l6Left.f (k : Nat) (a0_0 : Int) (a0_1 : ByteArray) (a1 : Int) (a2 : Int) (a3 : Int) : Option (Bool) := spec_l6Left.l0 k a1 a2 a3 0 a0_0 a0_1
set_option maxHeartbeats 8000000 in
set_option maxRecDepth 100000 in
theorem spec_l6Left.calls (k : Nat) (a0_0 : Int) (a0_1 : ByteArray) (a1 : Int) (a2 : Int) (a3 : Int) (r : Bool) (w : World) (h : spec_l6Left.f k a0_0 a0_1 a1 a2 a3 = some r) :
  Calls Try.prog 130 #[.agg #[.int .i64 a0_0, .string a0_1], .int .i64 a1, .int .i64 a2, .int .i64 a3] w fun e w' => e = .returned (.bool r) ∧ Below w.heap.size w w' := by
 have hu25 := Try.underlying25
 have HB := Aside0.mk (Below.refl w.heap.size w)
 have H : (spec_l6Left.l0 k a1 a2 a3 0 a0_0 a0_1) = some r := h
 clear h
 have H' := Aside0.mk H; clear H
 go_enter Try.func130, Try.ntmps130
 go_wp2_with (first | ((with_reducible refine gate_dst (N := 4) rfl ?_); refine zBx (N := 4) #[.int .i64 a0_0, .string a0_1] 25 ?_; intro gb1114 hg w5 hbox hb; have BK1114 := Aside0.mk (hbox); have GW1114 := zS hg; have GE1114 := zS hg; replace HB := zX hb; clear hb hbox hg))
 go_loopg [9] k (fun kq v9 w' => ∃ (x9_1 : Int), v9 = .int .i64 x9_1 ∧ Aside0 (spec_l6Left.l0 kq a1 a2 a3 x9_1 a0_0 a0_1 = some r) ∧ Aside0 (kq ≤ k) ∧ Aside0 (w'.heap[gb1114]? = some (.cells #[.int .i64 a0_0, .string a0_1] 25 (0, 0))) ∧ Aside0 (Below w.heap.size w w'))
 case atStart => exact ⟨(0), zF, H', ⟨Nat.le_refl _⟩, ⟨zK BK1114.out⟩, ⟨zG GE1114.out⟩⟩
 case round =>
 clear H'
 obtain ⟨x9_1, rfl, HA, HK1, BK1114, HB⟩ := hrel
 cases gk with
 | zero => exact absurd HA.out (by simp [spec_l6Left.l0])
 | succ k1 =>
 have H := HA.out
 clear HA
 simp only [spec_l6Left.l0] at H
 by_cases c6 : x9_1 < a0_0
 ·rw [if_pos c6] at H
  have c6b0 := decide_eq_true c6
  clear c6
  by_cases c7 : x9_1 = a2
  ·rw [if_pos c7] at H
   have c7b0 := beq_iff_eq.mpr c7
   have c7b1 := bne_eq_false_iff_eq.mpr c7
   clear c7
   have H' := Aside0.mk H; clear H
   obtain ⟨hcz8_0, hcz8_1, hfz8_0, hfz8_1⟩ := zq2 BK1114.out
   go_wp2
   go_roundg k1
   case measure => have := HK1.out; omega
   case rel => exact ⟨(wrap64 (x9_1 + 1)), zF, H', ⟨by have := HK1.out; omega⟩, ⟨zK BK1114.out⟩, ⟨zG GE1114.out⟩⟩
  rw [if_neg c7] at H
  have c7b0 := beq_eq_false_iff_ne.mpr c7
  have c7b1 := bne_iff_ne.mpr c7
  by_cases c9 : x9_1 = a3
  ·rw [if_pos c9] at H
   have c9b0 := beq_iff_eq.mpr c9
   have c9b1 := bne_eq_false_iff_eq.mpr c9
   clear c9
   have H' := Aside0.mk H; clear H
   obtain ⟨hcz10_0, hcz10_1, hfz10_0, hfz10_1⟩ := zq2 BK1114.out
   go_wp2
   go_roundg k1
   case measure => have := HK1.out; omega
   case rel => exact ⟨(wrap64 (x9_1 + 1)), zF, H', ⟨by have := HK1.out; omega⟩, ⟨zK BK1114.out⟩, ⟨zG GE1114.out⟩⟩
  rw [if_neg c9] at H
  have c9b0 := beq_eq_false_iff_ne.mpr c9
  have c9b1 := bne_iff_ne.mpr c9
  obtain ⟨t1115, A11, H⟩ := zO H
  by_cases c12 : t1115 = true
  ·subst c12
   replace H := (if_pos rfl).symm.trans H
   obtain ⟨t1116, A13, H⟩ := zO H
   by_cases c14 : t1116 < 0
   ·rw [if_pos c14] at H
    have c14b0 := decide_eq_true c14
    clear c14
    obtain rfl := Option.some.inj H
    obtain ⟨hcz15_0, hcz15_1, hfz15_0, hfz15_1⟩ := zq2 BK1114.out
    go_wp2_with (first | (go_at_call 129; (with_reducible refine (spec_l6Has.calls a1 x9_1 true _ A11.out).mono ?_); rintro e w' ⟨rfl, ⟨nd, rfl⟩⟩) | (go_at_call 144; (with_reducible refine (spec_l3At.calls k1 a0_0 a0_1 a2 a3 x9_1 t1116 _ A13.out).mono ?_); rintro e w16 ⟨rfl, hb⟩; replace BK1114 := zV BK1114.out hb; replace HB := zX1 GE1114.out hb; (try clear hb); (try clear hb2); (try clear hk); (try clear hi)))
    go_ret
    exact ⟨zE, zG GE1114.out⟩
   rw [if_neg c14] at H
   have c14b0 := decide_eq_false c14
   clear c14
   have H' := Aside0.mk H; clear H
   obtain ⟨hcz17_0, hcz17_1, hfz17_0, hfz17_1⟩ := zq2 BK1114.out
   go_wp2_with (first | (go_at_call 129; (with_reducible refine (spec_l6Has.calls a1 x9_1 true _ A11.out).mono ?_); rintro e w' ⟨rfl, ⟨nd, rfl⟩⟩) | (go_at_call 144; (with_reducible refine (spec_l3At.calls k1 a0_0 a0_1 a2 a3 x9_1 t1116 _ A13.out).mono ?_); rintro e w18 ⟨rfl, hb⟩; replace BK1114 := zV BK1114.out hb; replace HB := zX1 GE1114.out hb; (try clear hb); (try clear hb2); (try clear hk); (try clear hi)))
   go_roundg k1
   case measure => have := HK1.out; omega
   case rel => exact ⟨(wrap64 (x9_1 + 1)), zF, H', ⟨by have := HK1.out; omega⟩, ⟨zK BK1114.out⟩, ⟨zG GE1114.out⟩⟩
  replace c12 := Bool.eq_false_iff.mpr c12
  subst c12
  replace H := (if_neg zFf).symm.trans H
  have H' := Aside0.mk H; clear H
  obtain ⟨hcz19_0, hcz19_1, hfz19_0, hfz19_1⟩ := zq2 BK1114.out
  go_wp2_with (first | (go_at_call 129; (with_reducible refine (spec_l6Has.calls a1 x9_1 false _ A11.out).mono ?_); rintro e w' ⟨rfl, ⟨nd, rfl⟩⟩))
  go_roundg k1
  case measure => have := HK1.out; omega
  case rel => exact ⟨(wrap64 (x9_1 + 1)), zF, H', ⟨by have := HK1.out; omega⟩, ⟨zK BK1114.out⟩, ⟨zG GE1114.out⟩⟩
 rw [if_neg c6] at H
 have c6b0 := decide_eq_false c6
 clear c6
 obtain rfl := Option.some.inj H
 obtain ⟨hcz20_0, hcz20_1, hfz20_0, hfz20_1⟩ := zq2 BK1114.out
 go_wp2
 go_ret
 exact ⟨zE, zG GE1114.out⟩
/-! ### spec_HullOf: function 53 -/
mutual
def spec_HullOf.l0 : Nat → List Int → Int → Int → Int → Int → ByteArray → Option (List Int)
 | 0, _, _, _, _, _, _ => none
 | k + 1, x3, x4, x5, x6, x1118000, x1118001 => (spec_l6Has.f x5 x6).bind fun t1123 => (if t1123 = true then (spec_HullOf.l1 k x3 x4 x5 x6 0 x1118000 x1118001) else (spec_HullOf.l0 k x3 x4 x5 (wrap64 (x6 + 1)) x1118000 x1118001))
def spec_HullOf.l1 : Nat → List Int → Int → Int → Int → Int → Int → ByteArray → Option (List Int)
 | 0, _, _, _, _, _, _, _ => none
 | k + 1, x3, x4, x5, x6, x7, x1118000, x1118001 => if x7 < x1118000 then (if x3.length < 17592186044416 then (spec_HullOf.l2 k (x3 ++ [x6]) x4 x5 x6 x7 (-1) 0 x1118000 x1118001) else (none)) else (some x3)
def spec_HullOf.l2 : Nat → List Int → Int → Int → Int → Int → Int → Int → Int → ByteArray → Option (List Int)
 | 0, _, _, _, _, _, _, _, _, _ => none
 | k + 1, x3, x4, x5, x6, x7, x8, x9, x1118000, x1118001 => if x9 < x1118000 then (if x9 = x6 then (spec_HullOf.l2 k x3 x4 x5 x6 x7 x8 (wrap64 (x9 + 1)) x1118000 x1118001) else ((spec_l6Has.f x5 x9).bind fun t1128 => (if t1128 = true then ((spec_l6Left.f k x1118000 x1118001 x4 x6 x9).bind fun t1129 => (if t1129 = true then (spec_HullOf.l2 k x3 x4 x5 x6 x7 x9 (wrap64 (x9 + 1)) x1118000 x1118001) else (spec_HullOf.l2 k x3 x4 x5 x6 x7 x8 (wrap64 (x9 + 1)) x1118000 x1118001))) else (spec_HullOf.l2 k x3 x4 x5 x6 x7 x8 (wrap64 (x9 + 1)) x1118000 x1118001)))) else (if 0 < (x3.length : Int) then (if x8 = (rd x3 0) then (some x3) else (if x8 < 0 then (some x3) else (spec_HullOf.l1 k x3 x4 x5 x8 (wrap64 (x7 + 1)) x1118000 x1118001))) else (none))
end
def spec_HullOf.f (k : Nat) (a0_0 : Int) (a0_1 : ByteArray) : Option (List Int) := (some (([] : List Int) : List Int)).bind fun y1118 => ((spec_IsAcyclic.f k a0_0 a0_1).bind fun t1121 => (if t1121 = true then (if 0 ≤ (IntKind.u64.wrap (a0_0)) then ((spec_l6Extreme.f k a0_0 a0_1 (wrap64 ((shl .i64 1 (IntKind.u64.wrap (a0_0))) - 1))).bind fun t1122 => (spec_HullOf.l0 k y1118 (wrap64 ((shl .i64 1 (IntKind.u64.wrap (a0_0))) - 1)) t1122 0 a0_0 a0_1)) else (none)) else (some y1118)))
set_option maxHeartbeats 8000000 in
set_option maxRecDepth 100000 in
theorem spec_HullOf.calls (k : Nat) (a0_0 : Int) (a0_1 : ByteArray) (r : List Int) (w : World) (h : spec_HullOf.f k a0_0 a0_1 = some r) :
  Calls Try.prog 53 #[.agg #[.int .i64 a0_0, .string a0_1]] w fun e w' => ∃ v0_ : Value, e = .returned (v0_) ∧ Kd.R (Kd.int .i64) 3 w' w.heap.size (fun _ => True) v0_ r ∧ Below w.heap.size w w' := by
 have hu25 := Try.underlying25
 have HB := Aside0.mk (Below.refl w.heap.size w)
 have H : ((some (([] : List Int) : List Int)).bind fun y1118 => ((spec_IsAcyclic.f k a0_0 a0_1).bind fun t1121 => (if t1121 = true then (if 0 ≤ (IntKind.u64.wrap (a0_0)) then ((spec_l6Extreme.f k a0_0 a0_1 (wrap64 ((shl .i64 1 (IntKind.u64.wrap (a0_0))) - 1))).bind fun t1122 => (spec_HullOf.l0 k y1118 (wrap64 ((shl .i64 1 (IntKind.u64.wrap (a0_0))) - 1)) t1122 0 a0_0 a0_1)) else (none)) else (some y1118)))) = some r := h
 clear h
 obtain ⟨y1118, hy1118⟩ : ∃ y_ : List Int, y_ = (([] : List Int)) := ⟨_, rfl⟩
 replace H : ((spec_IsAcyclic.f k a0_0 a0_1).bind fun t1121 => (if t1121 = true then (if 0 ≤ (IntKind.u64.wrap (a0_0)) then ((spec_l6Extreme.f k a0_0 a0_1 (wrap64 ((shl .i64 1 (IntKind.u64.wrap (a0_0))) - 1))).bind fun t1122 => (spec_HullOf.l0 k y1118 (wrap64 ((shl .i64 1 (IntKind.u64.wrap (a0_0))) - 1)) t1122 0 a0_0 a0_1)) else (none)) else (some y1118))) = some r := by first | (rw [hy1118]; with_reducible exact H) | (have H2_ := (Option.bind_some _ _).symm.trans H; rw [hy1118]; with_reducible exact H2_) | (have H2_ := (Option.bind_some _ _).symm.trans H; with_reducible exact H2_) | with_reducible exact H | (rw [hy1118]; exact H) | exact H
 have Ny1118 := Aside0.mk hy1118
 clear hy1118
 obtain ⟨t1121, A2, H⟩ := zO H
 by_cases c3 : t1121 = true
 ·subst c3
  replace H := (if_pos rfl).symm.trans H
  obtain ⟨ji4, hji4⟩ : ∃ j_ : Int, (IntKind.u64.wrap (a0_0)) = j_ := ⟨_, rfl⟩
  replace H : (if 0 ≤ (ji4) then ((spec_l6Extreme.f k a0_0 a0_1 (wrap64 ((shl .i64 1 (ji4)) - 1))).bind fun t1122 => (spec_HullOf.l0 k y1118 (wrap64 ((shl .i64 1 (ji4)) - 1)) t1122 0 a0_0 a0_1)) else (none)) = some r := by first | (rw [hji4] at H; exact H) | (simp only [hji4] at H ⊢; exact H)
  (try rw [hji4] at A2)
  by_cases c5 : 0 ≤ (ji4)
  ·rw [if_pos c5] at H
   have c5b0 := eq_true c5
   have c5b1 := decide_eq_true c5
   clear c5
   obtain ⟨ji6, hji6⟩ : ∃ j_ : Int, (shl .i64 1 (ji4)) = j_ := ⟨_, rfl⟩
   replace H : ((spec_l6Extreme.f k a0_0 a0_1 (wrap64 ((ji6) - 1))).bind fun t1122 => (spec_HullOf.l0 k y1118 (wrap64 ((ji6) - 1)) t1122 0 a0_0 a0_1)) = some r := by first | (rw [hji6] at H; exact H) | (simp only [hji6] at H ⊢; exact H)
   (try rw [hji6] at A2)
   have hji6_ : (IntKind.i64.wrap (1 * 2 ^ min (ji4).toNat 64)) = ji6 := hji6
   have hji6z : (ji4) ≤ 64 → (IntKind.i64.wrap (1 * 2 ^ (ji4).toNat)) = ji6 := shl_small hji6
   have hji6u : (IntKind.i64.wrap (2 ^ min (ji4).toNat 64)) = ji6 := by have h_ := hji6_; rw [Int.one_mul] at h_; exact h_
   have hji6v : (ji4) ≤ 64 → (IntKind.i64.wrap (2 ^ (ji4).toNat)) = ji6 := fun hle_ => by have h_ := hji6z hle_; rw [Int.one_mul] at h_; exact h_
   have hji6y : (wrap64 (1 * 2 ^ min (ji4).toNat 64)) = ji6 := (i64_w _).symm.trans hji6_
   have hji6x : (ji4) ≤ 64 → (wrap64 (1 * 2 ^ (ji4).toNat)) = ji6 := fun h_ => (i64_w _).symm.trans (hji6z h_)
   obtain ⟨t1122, A7, H⟩ := zO H
   have H' := Aside0.mk H; clear H
   go_enter Try.func53, Try.ntmps53
   go_wp2_with (first | ((with_reducible refine gate_dst (N := 1) rfl ?_); refine zBx (N := 1) #[.int .i64 a0_0, .string a0_1] 25 ?_; intro gb1117 hg w8 hbox hb; have BK1117 := Aside0.mk (hbox); have GW1117 := zS hg; have GE1117 := zS hg; replace HB := zX hb; clear hb hbox hg) | ((with_reducible refine gate_dst (N := 10) rfl ?_); refine Kd.R_lit (Kd.int .i64) _ 3 ?hg (N := 10) ?hd (xs := ([] : List Int)) (inner := []) (ok := fun _ => True) (okp := fun _ => True) ?hr ?hp (fun _ hk => hk) trivial (Below.refl _ _) (Nat.le_refl _) (by simp) ?_; (case hd => rfl); (case hg => rfl); (case hr => first | (go_simp; done) | (go_simp; rfl)); (case hp => exact (Reps.none _ _)); intro v1119 w9 ho10 hb hg_ hnew_; clear hg_ hnew_; (first | rw [← Ny1118.out] at ho10 | (simp only [Int.reduceToNat] at ho10; rw [← Ny1118.out] at ho10)); have HO1120 := Aside0.mk (Kd.R_lower ho10 (below_size (zG GE1117.out))); replace BK1117 := zV BK1117.out hb; replace HB := zX1 GE1117.out hb; clear hb ho10; obtain ⟨hcz11_0, hcz11_1, hfz11_0, hfz11_1⟩ := zq2 BK1117.out) | ((with_reducible refine gate_callee (f := 24) rfl ?_); refine zD (some 12) Try.func24 #[.agg #[.int .i64 a0_0, .string a0_1]] ?_; (with_reducible refine (spec_IsAcyclic.calls k a0_0 a0_1 true _ A2.out).mono ?_); rintro e w12 ⟨rfl, hb⟩; refine ⟨_, rfl, ?_⟩; replace HO1120 := zW HO1120.out hb; replace BK1117 := zV BK1117.out hb; replace HB := zX1 GE1117.out hb; (try clear hb); obtain ⟨hcz13_0, hcz13_1, hfz13_0, hfz13_1⟩ := zq2 BK1117.out) | ((with_reducible refine gate_callee (f := 128) rfl ?_); refine goesL_ (some 22) rfl rfl Try.func128 (by kernel_rfl) rfl #[.agg #[.int .i64 a0_0, .string a0_1], .int .i64 (wrap64 ((ji6) - 1))] rfl (by (try simp only [List.map_toArray, List.map_cons, List.map_nil]); first | done | (simp only [hji6]; rfl) | rfl | (simp only [List.length_drop, List.length_take]; rfl)) ?_; (with_reducible refine (spec_l6Extreme.calls k a0_0 a0_1 (wrap64 ((ji6) - 1)) t1122 _ A7.out).mono ?_); rintro e w14 ⟨rfl, hb⟩; refine ⟨_, rfl, ?_⟩; replace HO1120 := zW HO1120.out hb; replace BK1117 := zV BK1117.out hb; replace HB := zX1 GE1117.out hb; (try clear hb)))
   go_loopg [6] k (fun kq v6 w' => ∃ (x6_1 : Int), v6 = .int .i64 x6_1 ∧ Aside0 (spec_HullOf.l0 kq y1118 (wrap64 ((ji6) - 1)) t1122 x6_1 a0_0 a0_1 = some r) ∧ Aside0 (kq ≤ k) ∧ Aside0 (Kd.R (Kd.int .i64) 3 w' w.heap.size (fun _ => True) v1119 y1118) ∧ Aside0 (w'.heap[gb1117]? = some (.cells #[.int .i64 a0_0, .string a0_1] 25 (0, 0))) ∧ Aside0 (Below w.heap.size w w'))
   case atStart => exact ⟨(0), zF, H', ⟨Nat.le_refl _⟩, ⟨zR HO1120.out⟩, ⟨zK BK1117.out⟩, ⟨zG GE1117.out⟩⟩
   case round =>
   clear H'
   try clear c3
   try clear c5
   try clear c5b0
   try clear c5b1
   try clear hcz11_0
   try clear hcz11_1
   try clear hcz13_0
   try clear hcz13_1
   try clear hfz11_0
   try clear hfz11_1
   try clear hfz13_0
   try clear hfz13_1
   obtain ⟨x6_1, rfl, HA, HK1, HO_3, BK1117, HB⟩ := hrel
   cases gk with
   | zero => exact absurd HA.out (by simp [spec_HullOf.l0])
   | succ k1 =>
   have H := HA.out
   clear HA
   simp only [spec_HullOf.l0] at H
   obtain ⟨t1123, A15, H⟩ := zO H
   by_cases c16 : t1123 = true
   ·subst c16
    replace H := (if_pos rfl).symm.trans H
    have H' := Aside0.mk H; clear H
    go_wp2_with (first | ((with_reducible refine gate_callee (f := 129) rfl ?_); refine zD (some 25) Try.func129 #[.int .i64 t1122, .int .i64 x6_1] ?_; (with_reducible refine (spec_l6Has.calls t1122 x6_1 true _ A15.out).mono ?_); rintro e w' ⟨rfl, ⟨nd, rfl⟩⟩; refine ⟨_, rfl, ?_⟩))
    go_loopg [3, 6, 7] k1 (fun kq v3 v6 v7 w' => ∃ (x3_2 : List Int) (x6_2 : Int) (x7_2 : Int), v6 = .int .i64 x6_2 ∧ v7 = .int .i64 x7_2 ∧ Aside0 (spec_HullOf.l1 kq x3_2 (wrap64 ((ji6) - 1)) t1122 x6_2 x7_2 a0_0 a0_1 = some r) ∧ Aside0 (kq ≤ k1) ∧ Aside0 (Kd.R (Kd.int .i64) 3 w' w.heap.size (fun _ => True) v3 x3_2) ∧ Aside0 (w'.heap[gb1117]? = some (.cells #[.int .i64 a0_0, .string a0_1] 25 (0, 0))) ∧ Aside0 (Below w.heap.size w w'))
    case atStart => exact ⟨(y1118), (x6_1), (0), zF, zF, H', ⟨Nat.le_refl _⟩, ⟨zR HO_3.out⟩, ⟨zK BK1117.out⟩, ⟨zG GE1117.out⟩⟩
    case round =>
    clear H'
    try clear c3
    try clear c5
    try clear c5b0
    try clear c5b1
    try clear c16
    try clear hcz11_0
    try clear hcz11_1
    try clear hcz13_0
    try clear hcz13_1
    try clear hfz11_0
    try clear hfz11_1
    try clear hfz13_0
    try clear hfz13_1
    obtain ⟨x3_2, x6_2, x7_2, rfl, rfl, HA, HK2, HO_3, BK1117, HB⟩ := hrel
    cases gk with
    | zero => exact absurd HA.out (by simp [spec_HullOf.l1])
    | succ k2 =>
    have H := HA.out
    clear HA
    simp only [spec_HullOf.l1] at H
    by_cases c17 : x7_2 < a0_0
    ·rw [if_pos c17] at H
     have c17b0 := decide_eq_true c17
     clear c17
     by_cases c18 : x3_2.length < 17592186044416
     ·rw [if_pos c18] at H
      have LMc18 := Aside0.mk c18
      clear c18
      obtain ⟨y1124, hy1124⟩ : ∃ y_ : List Int, y_ = (x3_2 ++ [x6_2]) := ⟨_, rfl⟩
      replace H : (spec_HullOf.l2 k2 y1124 (wrap64 ((ji6) - 1)) t1122 x6_2 x7_2 (-1) 0 a0_0 a0_1) = some r := by first | (rw [hy1124]; with_reducible exact H) | (have H2_ := (Option.bind_some _ _).symm.trans H; rw [hy1124]; with_reducible exact H2_) | (have H2_ := (Option.bind_some _ _).symm.trans H; with_reducible exact H2_) | with_reducible exact H | (rw [hy1124]; exact H) | exact H
      have Ny1124 := Aside0.mk hy1124
      clear hy1124
      have H' := Aside0.mk H; clear H
      obtain ⟨hcz19_0, hcz19_1, hfz19_0, hfz19_1⟩ := zq2 BK1117.out
      go_wp2_with (first | ((with_reducible refine gate_builtin (b := .append) (xs := #[.tmp 35, .tmp 37]) rfl ?_); at_builtin; refine Kd.R_append (Kd.int .i64) (w0 := w) w.heap.size rfl (.tmp 35) (.tmp 37) 27 3 (.int .i64 0) 8 rfl Try.underlying27 info3 rfl (by decide) (by omega) u3 x3_2 x6_2 [.int .i64 x6_2] (fun _ => True) (fun _ => False) rfl rfl ?aP (fun _ hk => hk.elim) ?aF ?aO ?aB ?aS ?aL ?_; (case aP => exact rfl); (case aB => exact (zG GE1117.out)); (case aF => exact (fun _ _ => trivial)); (case aO => exact (zR HO_3.out)); (case aS => exact (below_size (zG GE1117.out))); (case aL => have := LMc18.out; omega); intro v1125 w20 ho hb hg hat; rw [← Ny1124.out] at ho; have n0_ := Aside0.mk (blk_grown (g := gb1117) (o := .cells #[.int .i64 a0_0, .string a0_1] 25 (0, 0)) (zK BK1117.out) hg (Kd.R_ne HO_3.out BK1117.out (by decide))); have n1_ := Aside0.mk (hb); have n2_ := Aside0.mk (ho); clear BK1117; clear HB; clear HO_3; have BK1117 := n0_; have HB := n1_; have HO1126 := n2_; clear n0_ n1_ n2_; clear ho hb hg hat))
      go_loopg [8, 9] k2 (fun kq v8 v9 w' => ∃ (x8_3 : Int) (x9_3 : Int), v8 = .int .i64 x8_3 ∧ v9 = .int .i64 x9_3 ∧ Aside0 (spec_HullOf.l2 kq y1124 (wrap64 ((ji6) - 1)) t1122 x6_2 x7_2 x8_3 x9_3 a0_0 a0_1 = some r) ∧ Aside0 (kq ≤ k2) ∧ Aside0 (Kd.R (Kd.int .i64) 3 w' w.heap.size (fun _ => True) v1125 y1124) ∧ Aside0 (w'.heap[gb1117]? = some (.cells #[.int .i64 a0_0, .string a0_1] 25 (0, 0))) ∧ Aside0 (Below w.heap.size w w'))
      case atStart => exact ⟨((-1)), (0), zF, zF, H', ⟨Nat.le_refl _⟩, ⟨zR HO1126.out⟩, ⟨zK BK1117.out⟩, ⟨zG GE1117.out⟩⟩
      case round =>
      clear H'
      try clear c3
      try clear c5
      try clear c5b0
      try clear c5b1
      try clear c16
      try clear c17
      try clear c17b0
      try clear c18
      try clear hcz11_0
      try clear hcz11_1
      try clear hcz13_0
      try clear hcz13_1
      try clear hcz19_0
      try clear hcz19_1
      try clear hfz11_0
      try clear hfz11_1
      try clear hfz13_0
      try clear hfz13_1
      try clear hfz19_0
      try clear hfz19_1
      obtain ⟨x8_3, x9_3, rfl, rfl, HA, HK3, HO_3, BK1117, HB⟩ := hrel
      cases gk with
      | zero => exact absurd HA.out (by simp [spec_HullOf.l2])
      | succ k3 =>
      have H := HA.out
      clear HA
      simp only [spec_HullOf.l2] at H
      by_cases c21 : x9_3 < a0_0
      ·rw [if_pos c21] at H
       have c21b0 := decide_eq_true c21
       clear c21
       by_cases c22 : x9_3 = x6_2
       ·rw [if_pos c22] at H
        have c22b0 := beq_iff_eq.mpr c22
        have c22b1 := bne_eq_false_iff_eq.mpr c22
        clear c22
        have H' := Aside0.mk H; clear H
        obtain ⟨hcz23_0, hcz23_1, hfz23_0, hfz23_1⟩ := zq2 BK1117.out
        go_wp2
        go_roundg k3
        case measure => have := HK1.out; have := HK2.out; have := HK3.out; omega
        case rel => exact ⟨(x8_3), (wrap64 (x9_3 + 1)), zF, zF, H', ⟨by have := HK1.out; have := HK2.out; have := HK3.out; omega⟩, ⟨zR HO_3.out⟩, ⟨zK BK1117.out⟩, ⟨zG GE1117.out⟩⟩
       rw [if_neg c22] at H
       have c22b0 := beq_eq_false_iff_ne.mpr c22
       have c22b1 := bne_iff_ne.mpr c22
       obtain ⟨t1128, A24, H⟩ := zO H
       by_cases c25 : t1128 = true
       ·subst c25
        replace H := (if_pos rfl).symm.trans H
        obtain ⟨t1129, A26, H⟩ := zO H
        by_cases c27 : t1129 = true
        ·subst c27
         replace H := (if_pos rfl).symm.trans H
         have H' := Aside0.mk H; clear H
         obtain ⟨hcz28_0, hcz28_1, hfz28_0, hfz28_1⟩ := zq2 BK1117.out
         go_wp2_with (first | (go_at_call 129; (with_reducible refine (spec_l6Has.calls t1122 x9_3 true _ A24.out).mono ?_); rintro e w' ⟨rfl, ⟨nd, rfl⟩⟩) | (go_at_call 130; (with_reducible refine (spec_l6Left.calls k3 a0_0 a0_1 (wrap64 ((ji6) - 1)) x6_2 x9_3 true _ A26.out).mono ?_); rintro e w29 ⟨rfl, hb⟩; replace HO_3 := zW HO_3.out hb; replace BK1117 := zV BK1117.out hb; replace HB := zX1 GE1117.out hb; (try clear hb); (try clear hb2); (try clear hk); (try clear hi)))
         go_roundg k3
         case measure => have := HK1.out; have := HK2.out; have := HK3.out; omega
         case rel => exact ⟨(x9_3), (wrap64 (x9_3 + 1)), zF, zF, H', ⟨by have := HK1.out; have := HK2.out; have := HK3.out; omega⟩, ⟨zR HO_3.out⟩, ⟨zK BK1117.out⟩, ⟨zG GE1117.out⟩⟩
        replace c27 := Bool.eq_false_iff.mpr c27
        subst c27
        replace H := (if_neg zFf).symm.trans H
        have H' := Aside0.mk H; clear H
        obtain ⟨hcz30_0, hcz30_1, hfz30_0, hfz30_1⟩ := zq2 BK1117.out
        go_wp2_with (first | (go_at_call 129; (with_reducible refine (spec_l6Has.calls t1122 x9_3 true _ A24.out).mono ?_); rintro e w' ⟨rfl, ⟨nd, rfl⟩⟩) | (go_at_call 130; (with_reducible refine (spec_l6Left.calls k3 a0_0 a0_1 (wrap64 ((ji6) - 1)) x6_2 x9_3 false _ A26.out).mono ?_); rintro e w31 ⟨rfl, hb⟩; replace HO_3 := zW HO_3.out hb; replace BK1117 := zV BK1117.out hb; replace HB := zX1 GE1117.out hb; (try clear hb); (try clear hb2); (try clear hk); (try clear hi)))
        go_roundg k3
        case measure => have := HK1.out; have := HK2.out; have := HK3.out; omega
        case rel => exact ⟨(x8_3), (wrap64 (x9_3 + 1)), zF, zF, H', ⟨by have := HK1.out; have := HK2.out; have := HK3.out; omega⟩, ⟨zR HO_3.out⟩, ⟨zK BK1117.out⟩, ⟨zG GE1117.out⟩⟩
       replace c25 := Bool.eq_false_iff.mpr c25
       subst c25
       replace H := (if_neg zFf).symm.trans H
       have H' := Aside0.mk H; clear H
       obtain ⟨hcz32_0, hcz32_1, hfz32_0, hfz32_1⟩ := zq2 BK1117.out
       go_wp2_with (first | (go_at_call 129; (with_reducible refine (spec_l6Has.calls t1122 x9_3 false _ A24.out).mono ?_); rintro e w' ⟨rfl, ⟨nd, rfl⟩⟩))
       go_roundg k3
       case measure => have := HK1.out; have := HK2.out; have := HK3.out; omega
       case rel => exact ⟨(x8_3), (wrap64 (x9_3 + 1)), zF, zF, H', ⟨by have := HK1.out; have := HK2.out; have := HK3.out; omega⟩, ⟨zR HO_3.out⟩, ⟨zK BK1117.out⟩, ⟨zG GE1117.out⟩⟩
      rw [if_neg c21] at H
      have c21b0 := decide_eq_false c21
      clear c21
      by_cases c33 : 0 < (y1124.length : Int)
      ·rw [if_pos c33] at H
       have c33b0 := decide_eq_true c33
       have c33b1 : decide (0 < y1124.length) = true := decide_eq_true (by omega)
       clear c33
       by_cases c34 : x8_3 = (rd y1124 0)
       ·rw [if_pos c34] at H
        have c34b0 := beq_iff_eq.mpr c34
        have c34b1 := bne_eq_false_iff_eq.mpr c34
        clear c34
        obtain rfl := Option.some.inj H
        obtain ⟨hcz35_0, hcz35_1, hfz35_0, hfz35_1⟩ := zq2 BK1117.out
        obtain ⟨Ao36, co36, eo36⟩ := Kd.R_slice HO_3.out
        subst eo36
        have p1127 : 0 ≤ (0 : Int) := (by omega)
        have q1127 : 0 < (y1124.length : Int) := zA
        obtain ⟨ad1127, e1127, hx1127_0⟩ := Kd.at_int (Kd.R_reads' HO_3.out).2.2 0 p1127 q1127
        cases e1127
        have qi1127 : (0 < y1124.length) = True := eq_true (by omega)
        (try rw [show ((0 : Int)).toNat = 0 from rfl] at hx1127_0)
        (try rw [Addr.add_zero'] at hx1127_0)
        replace p1127 := eq_true p1127
        replace q1127 := eq_true q1127
        go_wp2
        go_ret
        exact ⟨_, by first | rfl | (simp [errW_none, errW_some] <;> rfl) | (simp only [← hji4, ← hji6]; first | rfl | (simp [errW_none, errW_some] <;> rfl)) | (simp [*, errW_none, errW_some] <;> rfl), zR HO_3.out, zG GE1117.out⟩
       rw [if_neg c34] at H
       have c34b0 := beq_eq_false_iff_ne.mpr c34
       have c34b1 := bne_iff_ne.mpr c34
       by_cases c37 : x8_3 < 0
       ·rw [if_pos c37] at H
        have c37b0 := decide_eq_true c37
        clear c37
        obtain rfl := Option.some.inj H
        obtain ⟨hcz38_0, hcz38_1, hfz38_0, hfz38_1⟩ := zq2 BK1117.out
        obtain ⟨Ao39, co39, eo39⟩ := Kd.R_slice HO_3.out
        subst eo39
        have p1127 : 0 ≤ (0 : Int) := (by omega)
        have q1127 : 0 < (y1124.length : Int) := zA
        obtain ⟨ad1127, e1127, hx1127_0⟩ := Kd.at_int (Kd.R_reads' HO_3.out).2.2 0 p1127 q1127
        cases e1127
        have qi1127 : (0 < y1124.length) = True := eq_true (by omega)
        (try rw [show ((0 : Int)).toNat = 0 from rfl] at hx1127_0)
        (try rw [Addr.add_zero'] at hx1127_0)
        replace p1127 := eq_true p1127
        replace q1127 := eq_true q1127
        go_wp2
        go_ret
        exact ⟨_, by first | rfl | (simp [errW_none, errW_some] <;> rfl) | (simp only [← hji4, ← hji6]; first | rfl | (simp [errW_none, errW_some] <;> rfl)) | (simp [*, errW_none, errW_some] <;> rfl), zR HO_3.out, zG GE1117.out⟩
       rw [if_neg c37] at H
       have c37b0 := decide_eq_false c37
       clear c37
       have H' := Aside0.mk H; clear H
       obtain ⟨hcz40_0, hcz40_1, hfz40_0, hfz40_1⟩ := zq2 BK1117.out
       obtain ⟨Ao41, co41, eo41⟩ := Kd.R_slice HO_3.out
       subst eo41
       have p1127 : 0 ≤ (0 : Int) := (by omega)
       have q1127 : 0 < (y1124.length : Int) := zA
       obtain ⟨ad1127, e1127, hx1127_0⟩ := Kd.at_int (Kd.R_reads' HO_3.out).2.2 0 p1127 q1127
       cases e1127
       have qi1127 : (0 < y1124.length) = True := eq_true (by omega)
       (try rw [show ((0 : Int)).toNat = 0 from rfl] at hx1127_0)
       (try rw [Addr.add_zero'] at hx1127_0)
       replace p1127 := eq_true p1127
       replace q1127 := eq_true q1127
       go_wp2
       go_roundg k3
       case measure => have := HK1.out; have := HK2.out; have := HK3.out; omega
       case rel => exact ⟨(y1124), (x8_3), (wrap64 (x7_2 + 1)), zF, zF, H', ⟨by have := HK1.out; have := HK2.out; have := HK3.out; omega⟩, ⟨zR HO_3.out⟩, ⟨zK BK1117.out⟩, ⟨zG GE1117.out⟩⟩
      rw [if_neg c33] at H
      exact absurd H (by simp)
     rw [if_neg c18] at H
     exact absurd H (by simp)
    rw [if_neg c17] at H
    have c17b0 := decide_eq_false c17
    clear c17
    obtain rfl := Option.some.inj H
    obtain ⟨hcz42_0, hcz42_1, hfz42_0, hfz42_1⟩ := zq2 BK1117.out
    go_wp2
    go_ret
    exact ⟨_, by first | rfl | (simp [errW_none, errW_some] <;> rfl) | (simp only [← hji4, ← hji6]; first | rfl | (simp [errW_none, errW_some] <;> rfl)) | (simp [*, errW_none, errW_some] <;> rfl), zR HO_3.out, zG GE1117.out⟩
   replace c16 := Bool.eq_false_iff.mpr c16
   subst c16
   replace H := (if_neg zFf).symm.trans H
   have H' := Aside0.mk H; clear H
   go_wp2_with (first | ((with_reducible refine gate_callee (f := 129) rfl ?_); refine zD (some 25) Try.func129 #[.int .i64 t1122, .int .i64 x6_1] ?_; (with_reducible refine (spec_l6Has.calls t1122 x6_1 false _ A15.out).mono ?_); rintro e w' ⟨rfl, ⟨nd, rfl⟩⟩; refine ⟨_, rfl, ?_⟩))
   go_roundg k1
   case measure => have := HK1.out; omega
   case rel => exact ⟨(wrap64 (x6_1 + 1)), zF, H', ⟨by have := HK1.out; omega⟩, ⟨zR HO_3.out⟩, ⟨zK BK1117.out⟩, ⟨zG GE1117.out⟩⟩
  rw [if_neg c5] at H
  exact absurd H (by simp)
 replace c3 := Bool.eq_false_iff.mpr c3
 subst c3
 replace H := (if_neg zFf).symm.trans H
 obtain rfl := Option.some.inj H
 go_enter Try.func53, Try.ntmps53
 go_wp2_with (first | ((with_reducible refine gate_dst (N := 1) rfl ?_); refine zBx (N := 1) #[.int .i64 a0_0, .string a0_1] 25 ?_; intro gb1117 hg w43 hbox hb; have BK1117 := Aside0.mk (hbox); have GW1117 := zS hg; have GE1117 := zS hg; replace HB := zX hb; clear hb hbox hg) | ((with_reducible refine gate_dst (N := 10) rfl ?_); refine Kd.R_lit (Kd.int .i64) _ 3 ?hg (N := 10) ?hd (xs := ([] : List Int)) (inner := []) (ok := fun _ => True) (okp := fun _ => True) ?hr ?hp (fun _ hk => hk) trivial (Below.refl _ _) (Nat.le_refl _) (by simp) ?_; (case hd => rfl); (case hg => rfl); (case hr => first | (go_simp; done) | (go_simp; rfl)); (case hp => exact (Reps.none _ _)); intro v1119 w44 ho45 hb hg_ hnew_; clear hg_ hnew_; (first | rw [← Ny1118.out] at ho45 | (simp only [Int.reduceToNat] at ho45; rw [← Ny1118.out] at ho45)); have HO1120 := Aside0.mk (Kd.R_lower ho45 (below_size (zG GE1117.out))); replace BK1117 := zV BK1117.out hb; replace HB := zX1 GE1117.out hb; clear hb ho45; obtain ⟨hcz46_0, hcz46_1, hfz46_0, hfz46_1⟩ := zq2 BK1117.out) | ((with_reducible refine gate_callee (f := 24) rfl ?_); refine zD (some 12) Try.func24 #[.agg #[.int .i64 a0_0, .string a0_1]] ?_; (with_reducible refine (spec_IsAcyclic.calls k a0_0 a0_1 false _ A2.out).mono ?_); rintro e w47 ⟨rfl, hb⟩; refine ⟨_, rfl, ?_⟩; replace HO1120 := zW HO1120.out hb; replace BK1117 := zV BK1117.out hb; replace HB := zX1 GE1117.out hb; (try clear hb)))
 go_ret
 exact ⟨_, zE, zR HO1120.out, zG GE1117.out⟩
/-! ### spec_l6List: function 131 -/
def spec_l6List.l0 : Nat → Int → List Int → Int → Option (List Int)
 | 0, _, _, _ => none
 | k + 1, x0, x3, x4 => if x4 < 7 then ((spec_l6Has.f x0 x4).bind fun t1133 => (if t1133 = true then (if x3.length < 17592186044416 then (spec_l6List.l0 k x0 (x3 ++ [x4]) (wrap64 (x4 + 1))) else (none)) else (spec_l6List.l0 k x0 x3 (wrap64 (x4 + 1))))) else (some x3)
def spec_l6List.f (k : Nat) (a0 : Int) : Option (List Int) := spec_l6List.l0 k a0 (([] : List Int)) 0
theorem spec_l6List.mono_l : ∀ k, (∀ y0 y1 y2, LeO (spec_l6List.l0 k y0 y1 y2) (spec_l6List.l0 (k + 1) y0 y1 y2))
 | 0 => fun _ _ _ r h => by simp [spec_l6List.l0] at h
 | k + 1 => by
  have ih0 := spec_l6List.mono_l k
  ·intro y0 y1 y2
   unfold spec_l6List.l0
   repeat' first
   | (with_reducible first | exact ih0 .. | exact LeO.refl _ | exact LeO.none _ | refine LeO.ite ?_ ?_ | refine LeO.bind ?_ (fun _ => ?_))
   | exact ih0 .. | exact LeO.none _ | refine LeO.ite ?_ ?_ | refine LeO.bind ?_ (fun _ => ?_)
theorem spec_l6List.mono : ∀ a0 k, LeO (spec_l6List.f k a0) (spec_l6List.f (k + 1) a0) := by
 intro a0 k
 have ih0 := spec_l6List.mono_l k
 unfold spec_l6List.f
 repeat' first
   | (with_reducible first | exact ih0 .. | exact LeO.refl _ | exact LeO.none _ | refine LeO.ite ?_ ?_ | refine LeO.bind ?_ (fun _ => ?_))
   | exact ih0 .. | exact LeO.none _ | refine LeO.ite ?_ ?_ | refine LeO.bind ?_ (fun _ => ?_)
set_option maxHeartbeats 8000000 in
set_option maxRecDepth 100000 in
theorem spec_l6List.calls (k : Nat) (a0 : Int) (r : List Int) (w : World) (h : spec_l6List.f k a0 = some r) :
  Calls Try.prog 131 #[.int .i64 a0] w fun e w' => ∃ v0_ : Value, e = .returned (v0_) ∧ Kd.R (Kd.int .i64) 3 w' w.heap.size (fun _ => True) v0_ r ∧ Below w.heap.size w w' := by
 have HB := Aside0.mk (Below.refl w.heap.size w)
 have H : (spec_l6List.l0 k a0 (([] : List Int)) 0) = some r := h
 clear h
 obtain ⟨y1130, hy1130⟩ : ∃ y_ : List Int, y_ = (([] : List Int)) := ⟨_, rfl⟩
 replace H : (spec_l6List.l0 k a0 y1130 0) = some r := by first | (rw [hy1130]; with_reducible exact H) | (have H2_ := (Option.bind_some _ _).symm.trans H; rw [hy1130]; with_reducible exact H2_) | (have H2_ := (Option.bind_some _ _).symm.trans H; with_reducible exact H2_) | with_reducible exact H | (rw [hy1130]; exact H) | exact H
 have Ny1130 := Aside0.mk hy1130
 clear hy1130
 have H' := Aside0.mk H; clear H
 go_enter Try.func131, Try.ntmps131
 go_wp2_with (first | ((with_reducible refine gate_dst (N := 5) rfl ?_); refine Kd.R_lit (Kd.int .i64) _ 3 ?hg (N := 5) ?hd (xs := ([] : List Int)) (inner := []) (ok := fun _ => True) (okp := fun _ => True) ?hr ?hp (fun _ hk => hk) trivial (Below.refl _ _) (Nat.le_refl _) (by simp) ?_; (case hd => rfl); (case hg => rfl); (case hr => first | (go_simp; done) | (go_simp; rfl)); (case hp => exact (Reps.none _ _)); intro v1131 w2 ho3 hb hg_ hnew_; clear hg_ hnew_; (first | rw [← Ny1130.out] at ho3 | (simp only [Int.reduceToNat] at ho3; rw [← Ny1130.out] at ho3)); have HO1132 := Aside0.mk (Kd.R_lower ho3 (below_size zB)); replace HB := zX hb; clear hb ho3))
 go_loopg [3, 4] k (fun kq v3 v4 w' => ∃ (x3_1 : List Int) (x4_1 : Int), v4 = .int .i64 x4_1 ∧ Aside0 (spec_l6List.l0 kq a0 x3_1 x4_1 = some r) ∧ Aside0 (kq ≤ k) ∧ Aside0 (Kd.R (Kd.int .i64) 3 w' w.heap.size (fun _ => True) v3 x3_1) ∧ Aside0 (Below w.heap.size w w'))
 case atStart => exact ⟨(y1130), (0), zF, H', ⟨Nat.le_refl _⟩, ⟨zR HO1132.out⟩, ⟨zB⟩⟩
 case round =>
 clear H'
 obtain ⟨x3_1, x4_1, rfl, HA, HK1, HO_3, HB⟩ := hrel
 cases gk with
 | zero => exact absurd HA.out (by simp [spec_l6List.l0])
 | succ k1 =>
 have H := HA.out
 clear HA
 simp only [spec_l6List.l0] at H
 by_cases c4 : x4_1 < 7
 ·rw [if_pos c4] at H
  have c4b0 := decide_eq_true c4
  clear c4
  obtain ⟨t1133, A5, H⟩ := zO H
  by_cases c6 : t1133 = true
  ·subst c6
   replace H := (if_pos rfl).symm.trans H
   by_cases c7 : x3_1.length < 17592186044416
   ·rw [if_pos c7] at H
    have LMc7 := Aside0.mk c7
    clear c7
    obtain ⟨y1134, hy1134⟩ : ∃ y_ : List Int, y_ = (x3_1 ++ [x4_1]) := ⟨_, rfl⟩
    replace H : (spec_l6List.l0 k1 a0 y1134 (wrap64 (x4_1 + 1))) = some r := by first | (rw [hy1134]; with_reducible exact H) | (have H2_ := (Option.bind_some _ _).symm.trans H; rw [hy1134]; with_reducible exact H2_) | (have H2_ := (Option.bind_some _ _).symm.trans H; with_reducible exact H2_) | with_reducible exact H | (rw [hy1134]; exact H) | exact H
    have Ny1134 := Aside0.mk hy1134
    clear hy1134
    have H' := Aside0.mk H; clear H
    go_wp2_with (first | ((with_reducible refine gate_callee (f := 129) rfl ?_); refine zD (some 12) Try.func129 #[.int .i64 a0, .int .i64 x4_1] ?_; (with_reducible refine (spec_l6Has.calls a0 x4_1 true _ A5.out).mono ?_); rintro e w' ⟨rfl, ⟨nd, rfl⟩⟩; refine ⟨_, rfl, ?_⟩) | ((with_reducible refine gate_builtin (b := .append) (xs := #[.tmp 13, .tmp 15]) rfl ?_); at_builtin; refine Kd.R_append (Kd.int .i64) (w0 := w) w.heap.size rfl (.tmp 13) (.tmp 15) 27 3 (.int .i64 0) 8 rfl Try.underlying27 info3 rfl (by decide) (by omega) u3 x3_1 x4_1 [.int .i64 x4_1] (fun _ => True) (fun _ => False) rfl rfl ?aP (fun _ hk => hk.elim) ?aF ?aO ?aB ?aS ?aL ?_; (case aP => exact rfl); (case aB => exact zB); (case aF => exact (fun _ _ => trivial)); (case aO => exact (zR HO_3.out)); (case aS => exact (below_size zB)); (case aL => have := LMc7.out; omega); intro v1135 w8 ho hb hg hat; rw [← Ny1134.out] at ho; have n0_ := Aside0.mk (hb); have n1_ := Aside0.mk (ho); clear HB; clear HO_3; have HB := n0_; have HO1136 := n1_; clear n0_ n1_; clear ho hb hg hat))
    go_roundg k1
    case measure => have := HK1.out; omega
    case rel => exact ⟨(y1134), (wrap64 (x4_1 + 1)), zF, H', ⟨by have := HK1.out; omega⟩, ⟨zR HO1136.out⟩, ⟨zB⟩⟩
   rw [if_neg c7] at H
   exact absurd H (by simp)
  replace c6 := Bool.eq_false_iff.mpr c6
  subst c6
  replace H := (if_neg zFf).symm.trans H
  have H' := Aside0.mk H; clear H
  go_wp2_with (first | ((with_reducible refine gate_callee (f := 129) rfl ?_); refine zD (some 12) Try.func129 #[.int .i64 a0, .int .i64 x4_1] ?_; (with_reducible refine (spec_l6Has.calls a0 x4_1 false _ A5.out).mono ?_); rintro e w' ⟨rfl, ⟨nd, rfl⟩⟩; refine ⟨_, rfl, ?_⟩))
  go_roundg k1
  case measure => have := HK1.out; omega
  case rel => exact ⟨(x3_1), (wrap64 (x4_1 + 1)), zF, H', ⟨by have := HK1.out; omega⟩, ⟨zR HO_3.out⟩, ⟨zB⟩⟩
 rw [if_neg c4] at H
 have c4b0 := decide_eq_false c4
 clear c4
 obtain rfl := Option.some.inj H
 go_wp2
 go_ret
 exact ⟨_, zE, zR HO_3.out, zB⟩
/-! ### spec_LayersOf: function 54 -/
def spec_LayersOf.l0 : Nat → List (List Int) → Int → Int → ByteArray → Option ((List (List Int)))
 | 0, _, _, _, _ => none
 | k + 1, x3, x4, x1138000, x1138001 => if x4 = 0 then (some x3) else ((spec_l6Extreme.f k x1138000 x1138001 x4).bind fun t1142 => ((spec_l6List.f k t1142).bind fun t1143 => (if x3.length < 5864062014805 then (spec_LayersOf.l0 k (x3 ++ [t1143]) (Go.bits .andNot .i64 x4 t1142) x1138000 x1138001) else (none))))
def spec_LayersOf.f (k : Nat) (a0_0 : Int) (a0_1 : ByteArray) : Option ((List (List Int))) := (some (([] : List (List Int)) : List (List Int))).bind fun y1138 => ((spec_IsAcyclic.f k a0_0 a0_1).bind fun t1141 => (if t1141 = true then (if 0 ≤ (IntKind.u64.wrap (a0_0)) then (spec_LayersOf.l0 k y1138 (wrap64 ((shl .i64 1 (IntKind.u64.wrap (a0_0))) - 1)) a0_0 a0_1) else (none)) else (some y1138)))
set_option maxHeartbeats 8000000 in
set_option maxRecDepth 100000 in
theorem spec_LayersOf.calls (k : Nat) (a0_0 : Int) (a0_1 : ByteArray) (r : List (List Int)) (w : World) (h : spec_LayersOf.f k a0_0 a0_1 = some r) :
  Calls Try.prog 54 #[.agg #[.int .i64 a0_0, .string a0_1]] w fun e w' => ∃ v0_ : Value, e = .returned (v0_) ∧ Kd.S (Kd.slice 3 (Kd.int .i64)) 27 w' w.heap.size (fun _ => True) v0_ r ∧ Below w.heap.size w w' := by
 have hu25 := Try.underlying25
 have HB := Aside0.mk (Below.refl w.heap.size w)
 have H : ((some (([] : List (List Int)) : List (List Int))).bind fun y1138 => ((spec_IsAcyclic.f k a0_0 a0_1).bind fun t1141 => (if t1141 = true then (if 0 ≤ (IntKind.u64.wrap (a0_0)) then (spec_LayersOf.l0 k y1138 (wrap64 ((shl .i64 1 (IntKind.u64.wrap (a0_0))) - 1)) a0_0 a0_1) else (none)) else (some y1138)))) = some r := h
 clear h
 obtain ⟨y1138, hy1138⟩ : ∃ y_ : List (List Int), y_ = (([] : List (List Int))) := ⟨_, rfl⟩
 replace H : ((spec_IsAcyclic.f k a0_0 a0_1).bind fun t1141 => (if t1141 = true then (if 0 ≤ (IntKind.u64.wrap (a0_0)) then (spec_LayersOf.l0 k y1138 (wrap64 ((shl .i64 1 (IntKind.u64.wrap (a0_0))) - 1)) a0_0 a0_1) else (none)) else (some y1138))) = some r := by first | (rw [hy1138]; with_reducible exact H) | (have H2_ := (Option.bind_some _ _).symm.trans H; rw [hy1138]; with_reducible exact H2_) | (have H2_ := (Option.bind_some _ _).symm.trans H; with_reducible exact H2_) | with_reducible exact H | (rw [hy1138]; exact H) | exact H
 have Ny1138 := Aside0.mk hy1138
 clear hy1138
 obtain ⟨t1141, A2, H⟩ := zO H
 by_cases c3 : t1141 = true
 ·subst c3
  replace H := (if_pos rfl).symm.trans H
  obtain ⟨ji4, hji4⟩ : ∃ j_ : Int, (IntKind.u64.wrap (a0_0)) = j_ := ⟨_, rfl⟩
  replace H : (if 0 ≤ (ji4) then (spec_LayersOf.l0 k y1138 (wrap64 ((shl .i64 1 (ji4)) - 1)) a0_0 a0_1) else (none)) = some r := by first | (rw [hji4] at H; exact H) | (simp only [hji4] at H ⊢; exact H)
  (try rw [hji4] at A2)
  by_cases c5 : 0 ≤ (ji4)
  ·rw [if_pos c5] at H
   have c5b0 := eq_true c5
   have c5b1 := decide_eq_true c5
   clear c5
   obtain ⟨ji6, hji6⟩ : ∃ j_ : Int, (shl .i64 1 (ji4)) = j_ := ⟨_, rfl⟩
   replace H : (spec_LayersOf.l0 k y1138 (wrap64 ((ji6) - 1)) a0_0 a0_1) = some r := by first | (rw [hji6] at H; exact H) | (simp only [hji6] at H ⊢; exact H)
   (try rw [hji6] at A2)
   have hji6_ : (IntKind.i64.wrap (1 * 2 ^ min (ji4).toNat 64)) = ji6 := hji6
   have hji6z : (ji4) ≤ 64 → (IntKind.i64.wrap (1 * 2 ^ (ji4).toNat)) = ji6 := shl_small hji6
   have hji6u : (IntKind.i64.wrap (2 ^ min (ji4).toNat 64)) = ji6 := by have h_ := hji6_; rw [Int.one_mul] at h_; exact h_
   have hji6v : (ji4) ≤ 64 → (IntKind.i64.wrap (2 ^ (ji4).toNat)) = ji6 := fun hle_ => by have h_ := hji6z hle_; rw [Int.one_mul] at h_; exact h_
   have hji6y : (wrap64 (1 * 2 ^ min (ji4).toNat 64)) = ji6 := (i64_w _).symm.trans hji6_
   have hji6x : (ji4) ≤ 64 → (wrap64 (1 * 2 ^ (ji4).toNat)) = ji6 := fun h_ => (i64_w _).symm.trans (hji6z h_)
   have H' := Aside0.mk H; clear H
   go_enter Try.func54, Try.ntmps54
   go_wp2_with (first | ((with_reducible refine gate_dst (N := 1) rfl ?_); refine zBx (N := 1) #[.int .i64 a0_0, .string a0_1] 25 ?_; intro gb1137 hg w7 hbox hb; have BK1137 := Aside0.mk (hbox); have GW1137 := zS hg; have GE1137 := zS hg; replace HB := zX hb; clear hb hbox hg) | ((with_reducible refine gate_dst (N := 6) rfl ?_); refine Kd.S_lit (Kd.slice 3 (Kd.int .i64)) _ 27 ?hg (N := 6) ?hd (xs := ([] : List (List Int))) (inner := []) (ok := fun _ => True) (okp := fun _ => True) ?hr ?hp (fun _ hk => hk) trivial (Below.refl _ _) (Nat.le_refl _) (by simp) ?_; (case hd => rfl); (case hg => rfl); (case hr => first | (go_simp; done) | (go_simp; rfl)); (case hp => exact (Reps.none _ _)); intro v1139 w8 ho9 hb hg_ hnew_; clear hg_ hnew_; (first | rw [← Ny1138.out] at ho9 | (simp only [Int.reduceToNat] at ho9; rw [← Ny1138.out] at ho9)); have HO1140 := Aside0.mk (Kd.S_lower ho9 (below_size (zG GE1137.out))); replace BK1137 := zV BK1137.out hb; replace HB := zX1 GE1137.out hb; clear hb ho9; obtain ⟨hcz10_0, hcz10_1, hfz10_0, hfz10_1⟩ := zq2 BK1137.out) | ((with_reducible refine gate_callee (f := 24) rfl ?_); refine zD (some 8) Try.func24 #[.agg #[.int .i64 a0_0, .string a0_1]] ?_; (with_reducible refine (spec_IsAcyclic.calls k a0_0 a0_1 true _ A2.out).mono ?_); rintro e w11 ⟨rfl, hb⟩; refine ⟨_, rfl, ?_⟩; replace HO1140 := Aside0.mk (Kd.S_below (by (with_reducible repeat (first | apply Kd.S_alloc | apply Kd.S_drewN | apply Kd.S_drew)); exact HO1140.out) hb); replace BK1137 := zV BK1137.out hb; replace HB := zX1 GE1137.out hb; (try clear hb); obtain ⟨hcz12_0, hcz12_1, hfz12_0, hfz12_1⟩ := zq2 BK1137.out))
   go_loopg [3, 4] k (fun kq v3 v4 w' => ∃ (x3_1 : List (List Int)) (x4_1 : Int), v4 = .int .i64 x4_1 ∧ Aside0 (spec_LayersOf.l0 kq x3_1 x4_1 a0_0 a0_1 = some r) ∧ Aside0 (kq ≤ k) ∧ Aside0 (Kd.S (Kd.slice 3 (Kd.int .i64)) 27 w' w.heap.size (fun _ => True) v3 x3_1) ∧ Aside0 (w'.heap[gb1137]? = some (.cells #[.int .i64 a0_0, .string a0_1] 25 (0, 0))) ∧ Aside0 (Below w.heap.size w w'))
   case atStart => exact ⟨(y1138), (wrap64 ((ji6) - 1)), (by first | rfl | (simp; done) | (simp only [← hji6] <;> (first | rfl | simp)) | (simp [*]; done)), H', ⟨Nat.le_refl _⟩, ⟨by (with_reducible repeat (first | apply Kd.S_alloc | apply Kd.S_drewN | apply Kd.S_drew)); exact HO1140.out⟩, ⟨zK BK1137.out⟩, ⟨zG GE1137.out⟩⟩
   case round =>
   clear H'
   try clear c3
   try clear c5
   try clear c5b0
   try clear c5b1
   try clear hcz10_0
   try clear hcz10_1
   try clear hcz12_0
   try clear hcz12_1
   try clear hfz10_0
   try clear hfz10_1
   try clear hfz12_0
   try clear hfz12_1
   obtain ⟨x3_1, x4_1, rfl, HA, HK1, HO_3, BK1137, HB⟩ := hrel
   cases gk with
   | zero => exact absurd HA.out (by simp [spec_LayersOf.l0])
   | succ k1 =>
   have H := HA.out
   clear HA
   simp only [spec_LayersOf.l0] at H
   by_cases c13 : x4_1 = 0
   ·rw [if_pos c13] at H
    have c13b0 := beq_iff_eq.mpr c13
    have c13b1 := bne_eq_false_iff_eq.mpr c13
    clear c13
    obtain rfl := Option.some.inj H
    go_wp2
    go_ret
    exact ⟨_, by first | rfl | (simp [errW_none, errW_some] <;> rfl) | (simp only [← hji4, ← hji6]; first | rfl | (simp [errW_none, errW_some] <;> rfl)) | (simp [*, errW_none, errW_some] <;> rfl), by (with_reducible repeat (first | apply Kd.S_alloc | apply Kd.S_drewN | apply Kd.S_drew)); exact HO_3.out, zG GE1137.out⟩
   rw [if_neg c13] at H
   have c13b0 := beq_eq_false_iff_ne.mpr c13
   have c13b1 := bne_iff_ne.mpr c13
   obtain ⟨t1142, A14, H⟩ := zO H
   obtain ⟨t1143, A15, H⟩ := zO H
   by_cases c16 : x3_1.length < 5864062014805
   ·rw [if_pos c16] at H
    have LMc16 := Aside0.mk c16
    clear c16
    obtain ⟨y1146, hy1146⟩ : ∃ y_ : List (List Int), y_ = (x3_1 ++ [t1143]) := ⟨_, rfl⟩
    replace H : (spec_LayersOf.l0 k1 y1146 (Go.bits .andNot .i64 x4_1 t1142) a0_0 a0_1) = some r := by first | (rw [hy1146]; with_reducible exact H) | (have H2_ := (Option.bind_some _ _).symm.trans H; rw [hy1146]; with_reducible exact H2_) | (have H2_ := (Option.bind_some _ _).symm.trans H; with_reducible exact H2_) | with_reducible exact H | (rw [hy1146]; exact H) | exact H
    have Ny1146 := Aside0.mk hy1146
    clear hy1146
    have H' := Aside0.mk H; clear H
    obtain ⟨hcz17_0, hcz17_1, hfz17_0, hfz17_1⟩ := zq2 BK1137.out
    go_wp2_with (first | ((with_reducible refine gate_callee (f := 128) rfl ?_); refine zD (some 20) Try.func128 #[.agg #[.int .i64 a0_0, .string a0_1], .int .i64 x4_1] ?_; (with_reducible refine (spec_l6Extreme.calls k1 a0_0 a0_1 x4_1 t1142 _ A14.out).mono ?_); rintro e w18 ⟨rfl, hb⟩; refine ⟨_, rfl, ?_⟩; replace HO_3 := Aside0.mk (Kd.S_below (by (with_reducible repeat (first | apply Kd.S_alloc | apply Kd.S_drewN | apply Kd.S_drew)); exact HO_3.out) hb); replace BK1137 := zV BK1137.out hb; replace HB := zX1 GE1137.out hb; (try clear hb)) | ((with_reducible refine gate_callee (f := 131) rfl ?_); refine zD (some 23) Try.func131 #[.int .i64 t1142] ?_; (with_reducible refine (spec_l6List.calls k1 t1142 t1143 _ A15.out).mono ?_); rintro e w19 ⟨v1144, rfl, ho0, hb⟩; refine ⟨_, rfl, ?_⟩; replace HO_3 := Aside0.mk (Kd.S_elder' (by (with_reducible repeat (first | apply Kd.S_alloc | apply Kd.S_drewN | apply Kd.S_drew)); exact HO_3.out) (Kd.R_base ho0) hb); have HO1145 := Aside0.mk (Kd.R_lower ho0 (below_size (zG GE1137.out))); replace BK1137 := zV BK1137.out hb; replace HB := zX1 GE1137.out hb; (try clear hb); (try clear ho0); obtain ⟨Ao21, co21, eo21⟩ := Kd.R_slice HO1145.out; subst eo21) | ((with_reducible refine gate_builtin (b := .append) (xs := #[.tmp 21, .tmp 24]) rfl ?_); at_builtin; refine Kd.S_append (Kd.slice 3 (Kd.int .i64)) (w0 := w) w.heap.size rfl (.tmp 21) (.tmp 24) 44 27 (.slice none 0 0) 24 rfl Try.underlying44 info27 rfl (by decide) (by omega) u3 x3_1 t1143 [.slice Ao21 t1143.length co21] (fun _ => True) (fun k_ => some k_ = (.slice Ao21 t1143.length co21 : Value).ownBlock) rfl rfl ?aP (fun k_ hk_ => ((Kd.R_mono (ok' := fun k_ => ((fun _ => True)) k_ ∧ some k_ ≠ (u3 : Value).ownBlock) (Kd.R_apart' (HO1145.out) (Kd.S_typed HO_3.out) (by decide)) (fun k_ hk => ⟨trivial, hk.2⟩))).1 k_ hk_.symm) ?aF ?aO ?aB ?aS ?aL ?_; (case aP => exact Kd.M_row (Kd.R_mono (Kd.R_tight rfl (Kd.R_mono (ok' := fun k_ => ((fun _ => True)) k_ ∧ some k_ ≠ (u3 : Value).ownBlock) (Kd.R_apart' (HO1145.out) (Kd.S_typed HO_3.out) (by decide)) (fun k_ hk => ⟨trivial, hk.2⟩))) (fun _ h_ => h_))); (case aB => exact (zG GE1137.out)); (case aF => exact (fun _ _ => trivial)); (case aO => exact (by (with_reducible repeat (first | apply Kd.S_alloc | apply Kd.S_drewN | apply Kd.S_drew)); exact Kd.S_mono HO_3.out (fun k_ hk => ⟨trivial, fun e_ => hk.2 e_⟩))); (case aS => exact (below_size (zG GE1137.out))); (case aL => have := LMc16.out; omega); intro v1147 w20 ho hb hg hat; rw [← Ny1146.out] at ho; have n0_ := Aside0.mk (blk_grown (g := gb1137) (o := .cells #[.int .i64 a0_0, .string a0_1] 25 (0, 0)) (zK BK1137.out) hg (Kd.S_ne HO_3.out BK1137.out (by decide))); have n1_ := Aside0.mk (hb); have n2_ := Aside0.mk (ho); clear BK1137; clear HB; clear HO_3; clear HO1145; have BK1137 := n0_; have HB := n1_; have HO1148 := n2_; clear n0_ n1_ n2_; clear ho hb hg hat))
    go_roundg k1
    case measure => have := HK1.out; omega
    case rel => exact ⟨(y1146), (Go.bits .andNot .i64 x4_1 t1142), zF, H', ⟨by have := HK1.out; omega⟩, ⟨by (with_reducible repeat (first | apply Kd.S_alloc | apply Kd.S_drewN | apply Kd.S_drew)); exact HO1148.out⟩, ⟨zK BK1137.out⟩, ⟨zG GE1137.out⟩⟩
   rw [if_neg c16] at H
   exact absurd H (by simp)
  rw [if_neg c5] at H
  exact absurd H (by simp)
 replace c3 := Bool.eq_false_iff.mpr c3
 subst c3
 replace H := (if_neg zFf).symm.trans H
 obtain rfl := Option.some.inj H
 go_enter Try.func54, Try.ntmps54
 go_wp2_with (first | ((with_reducible refine gate_dst (N := 1) rfl ?_); refine zBx (N := 1) #[.int .i64 a0_0, .string a0_1] 25 ?_; intro gb1137 hg w22 hbox hb; have BK1137 := Aside0.mk (hbox); have GW1137 := zS hg; have GE1137 := zS hg; replace HB := zX hb; clear hb hbox hg) | ((with_reducible refine gate_dst (N := 6) rfl ?_); refine Kd.S_lit (Kd.slice 3 (Kd.int .i64)) _ 27 ?hg (N := 6) ?hd (xs := ([] : List (List Int))) (inner := []) (ok := fun _ => True) (okp := fun _ => True) ?hr ?hp (fun _ hk => hk) trivial (Below.refl _ _) (Nat.le_refl _) (by simp) ?_; (case hd => rfl); (case hg => rfl); (case hr => first | (go_simp; done) | (go_simp; rfl)); (case hp => exact (Reps.none _ _)); intro v1139 w23 ho24 hb hg_ hnew_; clear hg_ hnew_; (first | rw [← Ny1138.out] at ho24 | (simp only [Int.reduceToNat] at ho24; rw [← Ny1138.out] at ho24)); have HO1140 := Aside0.mk (Kd.S_lower ho24 (below_size (zG GE1137.out))); replace BK1137 := zV BK1137.out hb; replace HB := zX1 GE1137.out hb; clear hb ho24; obtain ⟨hcz25_0, hcz25_1, hfz25_0, hfz25_1⟩ := zq2 BK1137.out) | ((with_reducible refine gate_callee (f := 24) rfl ?_); refine zD (some 8) Try.func24 #[.agg #[.int .i64 a0_0, .string a0_1]] ?_; (with_reducible refine (spec_IsAcyclic.calls k a0_0 a0_1 false _ A2.out).mono ?_); rintro e w26 ⟨rfl, hb⟩; refine ⟨_, rfl, ?_⟩; replace HO1140 := Aside0.mk (Kd.S_below (by (with_reducible repeat (first | apply Kd.S_alloc | apply Kd.S_drewN | apply Kd.S_drew)); exact HO1140.out) hb); replace BK1137 := zV BK1137.out hb; replace HB := zX1 GE1137.out hb; (try clear hb)))
 go_ret
 exact ⟨_, zE, by (with_reducible repeat (first | apply Kd.S_alloc | apply Kd.S_drewN | apply Kd.S_drew)); exact HO1140.out, zG GE1137.out⟩
/-! ### impl_isElement: function 86 -/
def impl_isElement.f (a0 : Int) (a1 : Int) : Option (Bool) := if a1 ≥ 0 then (some (decide (a1 < a0))) else (some false)
set_option maxHeartbeats 8000000 in
set_option maxRecDepth 100000 in
theorem impl_isElement.calls (a0 : Int) (a1 : Int) (r : Bool) (w : World) (h : impl_isElement.f a0 a1 = some r) :
  Calls Try.prog 86 #[.int .i64 a0, .int .i64 a1] w fun e w' => e = .returned (.bool r) ∧ Drawn0 w w' := by
 have H : (if a1 ≥ 0 then (some (decide (a1 < a0))) else (some false)) = some r := h
 clear h
 by_cases c3 : a1 ≥ 0
 ·rw [if_pos c3] at H
  have c3b0 : decide (0 ≤ a1) = true := decide_eq_true c3
  clear c3
  obtain rfl := Option.some.inj H
  go_enter Try.func86, Try.ntmps86
  go_wp2
  go_ret
  exact ⟨by first | rfl | (simp; done) | (simp [*]; done), by repeat (first | exact Drawn0.refl _ | apply Drawn0.step)⟩
 rw [if_neg c3] at H
 have c3b0 : decide (0 ≤ a1) = false := decide_eq_false c3
 clear c3
 obtain rfl := Option.some.inj H
 go_enter Try.func86, Try.ntmps86
 go_wp2
 go_ret
 exact ⟨by first | rfl | (simp; done) | (simp [*]; done), by repeat (first | exact Drawn0.refl _ | apply Drawn0.step)⟩
/-! ### impl_IsExtreme: function 55 -/
def impl_IsExtreme.f (k : Nat) (a0_0 : Int) (a0_1 : ByteArray) (a1 : Int) : Option (Bool) := (impl_orderOf.f k a0_0 a0_1).bind fun bt1150 => (if bt1150.2 = true then ((impl_isElement.f a0_0 a1).bind fun t1154 => (if t1154 = true then ((impl_fullSet.f a0_0).bind fun t1155 => (if bt1150.1.length = 344 then ((impl_chi_extremeIn.f k bt1150.1 t1155).bind fun t1156 => (if 0 ≤ a1 then (some ((Go.bits .and .i64 (shr .i64 t1156 a1) 1) == 1)) else (none))) else (none))) else (some false))) else (some false))
set_option maxHeartbeats 8000000 in
set_option maxRecDepth 100000 in
theorem impl_IsExtreme.calls (k : Nat) (a0_0 : Int) (a0_1 : ByteArray) (a1 : Int) (r : Bool) (w : World) (h : impl_IsExtreme.f k a0_0 a0_1 a1 = some r) :
  Calls Try.prog 55 #[.agg #[.int .i64 a0_0, .string a0_1], .int .i64 a1] w fun e w' => e = .returned (.bool r) ∧ Below w.heap.size w w' := by
 have hu25 := Try.underlying25
 have HB := Aside0.mk (Below.refl w.heap.size w)
 have H : ((impl_orderOf.f k a0_0 a0_1).bind fun bt1150 => (if bt1150.2 = true then ((impl_isElement.f a0_0 a1).bind fun t1154 => (if t1154 = true then ((impl_fullSet.f a0_0).bind fun t1155 => (if bt1150.1.length = 344 then ((impl_chi_extremeIn.f k bt1150.1 t1155).bind fun t1156 => (if 0 ≤ a1 then (some ((Go.bits .and .i64 (shr .i64 t1156 a1) 1) == 1)) else (none))) else (none))) else (some false))) else (some false))) = some r := h
 clear h
 obtain ⟨⟨t1150, t1153⟩, A3, H⟩ := zO H
 dsimp only at H
 by_cases c4 : t1153 = true
 ·subst c4
  replace H := (if_pos rfl).symm.trans H
  obtain ⟨t1154, A5, H⟩ := zO H
  by_cases c6 : t1154 = true
  ·subst c6
   replace H := (if_pos rfl).symm.trans H
   obtain ⟨t1155, A7, H⟩ := zO H
   by_cases c8 : t1150.length = 344
   ·rw [if_pos c8] at H
    have c8b0 := eq_true c8
    have c8b1 := decide_eq_true c8
    clear c8
    obtain ⟨t1156, A9, H⟩ := zO H
    by_cases c10 : 0 ≤ a1
    ·rw [if_pos c10] at H
     have c10b0 := eq_true c10
     have c10b1 := decide_eq_true c10
     clear c10
     obtain ⟨ji11, hji11⟩ : ∃ j_ : Int, (shr .i64 t1156 a1) = j_ := ⟨_, rfl⟩
     replace H : (some ((Go.bits .and .i64 (ji11) 1) == 1)) = some r := by first | (rw [hji11] at H; exact H) | (simp only [hji11] at H ⊢; exact H)
     (try rw [hji11] at A3)
     (try rw [hji11] at A5)
     (try rw [hji11] at A7)
     (try rw [hji11] at A9)
     have hji11_ : (t1156 / 2 ^ min a1.toNat 64) = ji11 := hji11
     have hji11z : a1 ≤ 64 → (t1156 / 2 ^ a1.toNat) = ji11 := shr_small hji11
     obtain rfl := Option.some.inj H
     go_enter Try.func55, Try.ntmps55
     go_wp2_with (first | ((with_reducible refine gate_dst (N := 2) rfl ?_); refine zBx (N := 2) #[.int .i64 a0_0, .string a0_1] 25 ?_; intro gb1149 hg w12 hbox hb; have BK1149 := Aside0.mk (hbox); have GW1149 := zS hg; have GE1149 := zS hg; replace HB := zX hb; clear hb hbox hg; obtain ⟨hcz13_0, hcz13_1, hfz13_0, hfz13_1⟩ := zq2 BK1149.out) | ((with_reducible refine gate_callee (f := 105) rfl ?_); refine zD (some 9) Try.func105 #[.agg #[.int .i64 a0_0, .string a0_1]] ?_; (with_reducible refine (impl_orderOf.calls k a0_0 a0_1 t1150 true _ A3.out).mono ?_); rintro e w14 ⟨v1151, rfl, ho0, hb⟩; refine ⟨_, rfl, ?_⟩; have HO1152 := Aside0.mk (Kd.R_lower ho0 (below_size (zG GE1149.out))); replace BK1149 := zV BK1149.out hb; replace HB := zX1 GE1149.out hb; (try clear hb); (try clear ho0); obtain ⟨hcz15_0, hcz15_1, hfz15_0, hfz15_1⟩ := zq2 BK1149.out) | (go_at_call 86; (with_reducible refine (impl_isElement.calls a0_0 a1 true _ A5.out).mono ?_); rintro e w' ⟨rfl, ⟨nd, rfl⟩⟩) | (go_at_call 121; (with_reducible refine (impl_fullSet.calls a0_0 t1155 _ A7.out).mono ?_); rintro e w' ⟨rfl, ⟨nd, rfl⟩⟩; obtain ⟨go16, co16, eo16, gb16, gl16, cl16, HG16⟩ := Kd.R_form HO1152.out (by have hl_ := Nat.le_of_eq (Eq.symm (zA : t1150.length = 344)); omega); (first | cases eo16 | (injection eo16 with ea_ en_ ec_; (first | subst ea_ | (injection ea_ with ea_; subst ea_)); subst ec_; clear en_)); have GB16 := Aside0.mk gb16; have GG16 := Aside0.mk HG16; clear gb16 gl16 HG16) | (go_at_call 122; (with_reducible refine (impl_chi_extremeIn.calls k _ t1150 t1155 t1156 _ ?side1 ?side2 A9.out).mono ?_); (case side1 => repeat (first | exact (Kd.R_reads' HO1152.out).2.2 | (with_reducible refine Kd.C_alloc ?_ _) | (with_reducible refine Kd.C_drewN ?_ _) | (with_reducible refine Kd.C_drew ?_))); (case side2 => exact (zA : t1150.length = 344)); rintro e w17 ⟨rfl, hb⟩; replace HO1152 := zW HO1152.out hb; replace BK1149 := zV BK1149.out hb; replace HB := zX1 GE1149.out hb; (try clear hb); (try clear hb2); (try clear hk); (try clear hi)))
     go_ret
     exact ⟨by first | rfl | (simp [errW_none, errW_some] <;> rfl) | (simp only [← hji11]; first | rfl | (simp [errW_none, errW_some] <;> rfl)) | (simp [*, errW_none, errW_some] <;> rfl), zG GE1149.out⟩
    rw [if_neg c10] at H
    exact absurd H (by simp)
   rw [if_neg c8] at H
   exact absurd H (by simp)
  replace c6 := Bool.eq_false_iff.mpr c6
  subst c6
  replace H := (if_neg zFf).symm.trans H
  obtain rfl := Option.some.inj H
  go_enter Try.func55, Try.ntmps55
  go_wp2_with (first | ((with_reducible refine gate_dst (N := 2) rfl ?_); refine zBx (N := 2) #[.int .i64 a0_0, .string a0_1] 25 ?_; intro gb1149 hg w18 hbox hb; have BK1149 := Aside0.mk (hbox); have GW1149 := zS hg; have GE1149 := zS hg; replace HB := zX hb; clear hb hbox hg; obtain ⟨hcz19_0, hcz19_1, hfz19_0, hfz19_1⟩ := zq2 BK1149.out) | ((with_reducible refine gate_callee (f := 105) rfl ?_); refine zD (some 9) Try.func105 #[.agg #[.int .i64 a0_0, .string a0_1]] ?_; (with_reducible refine (impl_orderOf.calls k a0_0 a0_1 t1150 true _ A3.out).mono ?_); rintro e w20 ⟨v1151, rfl, ho0, hb⟩; refine ⟨_, rfl, ?_⟩; have HO1152 := Aside0.mk (Kd.R_lower ho0 (below_size (zG GE1149.out))); replace BK1149 := zV BK1149.out hb; replace HB := zX1 GE1149.out hb; (try clear hb); (try clear ho0); obtain ⟨hcz21_0, hcz21_1, hfz21_0, hfz21_1⟩ := zq2 BK1149.out) | (go_at_call 86; (with_reducible refine (impl_isElement.calls a0_0 a1 false _ A5.out).mono ?_); rintro e w' ⟨rfl, ⟨nd, rfl⟩⟩))
  go_ret
  exact ⟨zE, zG GE1149.out⟩
 replace c4 := Bool.eq_false_iff.mpr c4
 subst c4
 replace H := (if_neg zFf).symm.trans H
 obtain rfl := Option.some.inj H
 go_enter Try.func55, Try.ntmps55
 go_wp2_with (first | ((with_reducible refine gate_dst (N := 2) rfl ?_); refine zBx (N := 2) #[.int .i64 a0_0, .string a0_1] 25 ?_; intro gb1149 hg w22 hbox hb; have BK1149 := Aside0.mk (hbox); have GW1149 := zS hg; have GE1149 := zS hg; replace HB := zX hb; clear hb hbox hg; obtain ⟨hcz23_0, hcz23_1, hfz23_0, hfz23_1⟩ := zq2 BK1149.out) | ((with_reducible refine gate_callee (f := 105) rfl ?_); refine zD (some 9) Try.func105 #[.agg #[.int .i64 a0_0, .string a0_1]] ?_; (with_reducible refine (impl_orderOf.calls k a0_0 a0_1 t1150 false _ A3.out).mono ?_); rintro e w24 ⟨v1151, rfl, ho0, hb⟩; refine ⟨_, rfl, ?_⟩; have HO1152 := Aside0.mk (Kd.R_lower ho0 (below_size (zG GE1149.out))); replace BK1149 := zV BK1149.out hb; replace HB := zX1 GE1149.out hb; (try clear hb); (try clear ho0)))
 go_ret
 exact ⟨zE, zG GE1149.out⟩
/-! ### impl_isSet: function 133 -/
def impl_isSet.f (a0 : Int) (a1 : Int) : Option (Bool) := if a1 ≥ 0 then ((impl_fullSet.f a0).bind fun t1157 => (some (decide (a1 ≤ t1157)))) else (some false)
set_option maxHeartbeats 8000000 in
set_option maxRecDepth 100000 in
theorem impl_isSet.calls (a0 : Int) (a1 : Int) (r : Bool) (w : World) (h : impl_isSet.f a0 a1 = some r) :
  Calls Try.prog 133 #[.int .i64 a0, .int .i64 a1] w fun e w' => e = .returned (.bool r) ∧ Drawn0 w w' := by
 have H : (if a1 ≥ 0 then ((impl_fullSet.f a0).bind fun t1157 => (some (decide (a1 ≤ t1157)))) else (some false)) = some r := h
 clear h
 by_cases c3 : a1 ≥ 0
 ·rw [if_pos c3] at H
  have c3b0 : decide (0 ≤ a1) = true := decide_eq_true c3
  clear c3
  obtain ⟨t1157, A4, H⟩ := zO H
  obtain rfl := Option.some.inj H
  go_enter Try.func133, Try.ntmps133
  go_wp2_with (first | (go_at_call 121; (with_reducible refine (impl_fullSet.calls a0 t1157 _ A4.out).mono ?_); rintro e w' ⟨rfl, ⟨nd, rfl⟩⟩))
  go_ret
  exact ⟨by first | rfl | (simp; done) | (simp [*]; done), by repeat (first | exact Drawn0.refl _ | apply Drawn0.step)⟩
 rw [if_neg c3] at H
 have c3b0 : decide (0 ≤ a1) = false := decide_eq_false c3
 clear c3
 obtain rfl := Option.some.inj H
 go_enter Try.func133, Try.ntmps133
 go_wp2
 go_ret
 exact ⟨by first | rfl | (simp; done) | (simp [*]; done), by repeat (first | exact Drawn0.refl _ | apply Drawn0.step)⟩
/-! ### impl_InHull: function 57 -/
def impl_InHull.f (k : Nat) (a0_0 : Int) (a0_1 : ByteArray) (a1 : Int) (a2 : Int) : Option (Bool) := (impl_orderOf.f k a0_0 a0_1).bind fun bt1159 => (if bt1159.2 = true then ((impl_isSet.f a0_0 a1).bind fun t1163 => (if t1163 = true then ((impl_isElement.f a0_0 a2).bind fun t1164 => (if t1164 = true then (if 0 ≤ a2 then (if (Go.bits .and .i64 (shr .i64 a1 a2) 1) = 0 then (if bt1159.1.length = 344 then ((impl_chi_inHull.f k bt1159.1 a1 a2).bind fun t1165 => (some t1165)) else (none)) else (some false)) else (none)) else (some false))) else (some false))) else (some false))
set_option maxHeartbeats 8000000 in
set_option maxRecDepth 100000 in
theorem impl_InHull.calls (k : Nat) (a0_0 : Int) (a0_1 : ByteArray) (a1 : Int) (a2 : Int) (r : Bool) (w : World) (h : impl_InHull.f k a0_0 a0_1 a1 a2 = some r) :
  Calls Try.prog 57 #[.agg #[.int .i64 a0_0, .string a0_1], .int .i64 a1, .int .i64 a2] w fun e w' => e = .returned (.bool r) ∧ Below w.heap.size w w' := by
 have hu25 := Try.underlying25
 have HB := Aside0.mk (Below.refl w.heap.size w)
 have H : ((impl_orderOf.f k a0_0 a0_1).bind fun bt1159 => (if bt1159.2 = true then ((impl_isSet.f a0_0 a1).bind fun t1163 => (if t1163 = true then ((impl_isElement.f a0_0 a2).bind fun t1164 => (if t1164 = true then (if 0 ≤ a2 then (if (Go.bits .and .i64 (shr .i64 a1 a2) 1) = 0 then (if bt1159.1.length = 344 then ((impl_chi_inHull.f k bt1159.1 a1 a2).bind fun t1165 => (some t1165)) else (none)) else (some false)) else (none)) else (some false))) else (some false))) else (some false))) = some r := h
 clear h
 obtain ⟨⟨t1159, t1162⟩, A4, H⟩ := zO H
 dsimp only at H
 by_cases c5 : t1162 = true
 ·subst c5
  replace H := (if_pos rfl).symm.trans H
  obtain ⟨t1163, A6, H⟩ := zO H
  by_cases c7 : t1163 = true
  ·subst c7
   replace H := (if_pos rfl).symm.trans H
   obtain ⟨t1164, A8, H⟩ := zO H
   by_cases c9 : t1164 = true
   ·subst c9
    replace H := (if_pos rfl).symm.trans H
    by_cases c10 : 0 ≤ a2
    ·rw [if_pos c10] at H
     have c10b0 := eq_true c10
     have c10b1 := decide_eq_true c10
     clear c10
     obtain ⟨ji11, hji11⟩ : ∃ j_ : Int, (shr .i64 a1 a2) = j_ := ⟨_, rfl⟩
     replace H : (if (Go.bits .and .i64 (ji11) 1) = 0 then (if t1159.length = 344 then ((impl_chi_inHull.f k t1159 a1 a2).bind fun t1165 => (some t1165)) else (none)) else (some false)) = some r := by first | (rw [hji11] at H; exact H) | (simp only [hji11] at H ⊢; exact H)
     (try rw [hji11] at A4)
     (try rw [hji11] at A6)
     (try rw [hji11] at A8)
     have hji11_ : (a1 / 2 ^ min a2.toNat 64) = ji11 := hji11
     have hji11z : a2 ≤ 64 → (a1 / 2 ^ a2.toNat) = ji11 := shr_small hji11
     by_cases c12 : (Go.bits .and .i64 (ji11) 1) = 0
     ·rw [if_pos c12] at H
      have c12b0 := beq_iff_eq.mpr c12
      have c12b1 := bne_eq_false_iff_eq.mpr c12
      clear c12
      by_cases c13 : t1159.length = 344
      ·rw [if_pos c13] at H
       have c13b0 := eq_true c13
       have c13b1 := decide_eq_true c13
       clear c13
       obtain ⟨t1165, A14, H⟩ := zO H
       obtain rfl := Option.some.inj H
       go_enter Try.func57, Try.ntmps57
       go_wp2_with (first | ((with_reducible refine gate_dst (N := 3) rfl ?_); refine zBx (N := 3) #[.int .i64 a0_0, .string a0_1] 25 ?_; intro gb1158 hg w15 hbox hb; have BK1158 := Aside0.mk (hbox); have GW1158 := zS hg; have GE1158 := zS hg; replace HB := zX hb; clear hb hbox hg; obtain ⟨hcz16_0, hcz16_1, hfz16_0, hfz16_1⟩ := zq2 BK1158.out) | ((with_reducible refine gate_callee (f := 105) rfl ?_); refine zD (some 11) Try.func105 #[.agg #[.int .i64 a0_0, .string a0_1]] ?_; (with_reducible refine (impl_orderOf.calls k a0_0 a0_1 t1159 true _ A4.out).mono ?_); rintro e w17 ⟨v1160, rfl, ho0, hb⟩; refine ⟨_, rfl, ?_⟩; have HO1161 := Aside0.mk (Kd.R_lower ho0 (below_size (zG GE1158.out))); replace BK1158 := zV BK1158.out hb; replace HB := zX1 GE1158.out hb; (try clear hb); (try clear ho0); obtain ⟨hcz18_0, hcz18_1, hfz18_0, hfz18_1⟩ := zq2 BK1158.out) | (go_at_call 133; (with_reducible refine (impl_isSet.calls a0_0 a1 true _ A6.out).mono ?_); rintro e w' ⟨rfl, ⟨nd, rfl⟩⟩) | (go_at_call 86; (with_reducible refine (impl_isElement.calls a0_0 a2 true _ A8.out).mono ?_); rintro e w' ⟨rfl, ⟨nd, rfl⟩⟩; obtain ⟨go19, co19, eo19, gb19, gl19, cl19, HG19⟩ := Kd.R_form HO1161.out (by have hl_ := Nat.le_of_eq (Eq.symm (zA : t1159.length = 344)); omega); (first | cases eo19 | (injection eo19 with ea_ en_ ec_; (first | subst ea_ | (injection ea_ with ea_; subst ea_)); subst ec_; clear en_)); have GB19 := Aside0.mk gb19; have GG19 := Aside0.mk HG19; clear gb19 gl19 HG19) | (go_at_call 134; (with_reducible refine (impl_chi_inHull.calls k _ t1159 a1 a2 t1165 _ ?side1 ?side2 A14.out).mono ?_); (case side1 => repeat (first | exact (Kd.R_reads' HO1161.out).2.2 | (with_reducible refine Kd.C_alloc ?_ _) | (with_reducible refine Kd.C_drewN ?_ _) | (with_reducible refine Kd.C_drew ?_))); (case side2 => exact (zA : t1159.length = 344)); rintro e w20 ⟨rfl, hb⟩; replace HO1161 := zW HO1161.out hb; replace BK1158 := zV BK1158.out hb; replace HB := zX1 GE1158.out hb; (try clear hb); (try clear hb2); (try clear hk); (try clear hi)))
       go_ret
       exact ⟨by first | rfl | (simp [errW_none, errW_some] <;> rfl) | (simp only [← hji11]; first | rfl | (simp [errW_none, errW_some] <;> rfl)) | (simp [*, errW_none, errW_some] <;> rfl), zG GE1158.out⟩
      rw [if_neg c13] at H
      exact absurd H (by simp)
     rw [if_neg c12] at H
     have c12b0 := beq_eq_false_iff_ne.mpr c12
     have c12b1 := bne_iff_ne.mpr c12
     obtain rfl := Option.some.inj H
     go_enter Try.func57, Try.ntmps57
     go_wp2_with (first | ((with_reducible refine gate_dst (N := 3) rfl ?_); refine zBx (N := 3) #[.int .i64 a0_0, .string a0_1] 25 ?_; intro gb1158 hg w21 hbox hb; have BK1158 := Aside0.mk (hbox); have GW1158 := zS hg; have GE1158 := zS hg; replace HB := zX hb; clear hb hbox hg; obtain ⟨hcz22_0, hcz22_1, hfz22_0, hfz22_1⟩ := zq2 BK1158.out) | ((with_reducible refine gate_callee (f := 105) rfl ?_); refine zD (some 11) Try.func105 #[.agg #[.int .i64 a0_0, .string a0_1]] ?_; (with_reducible refine (impl_orderOf.calls k a0_0 a0_1 t1159 true _ A4.out).mono ?_); rintro e w23 ⟨v1160, rfl, ho0, hb⟩; refine ⟨_, rfl, ?_⟩; have HO1161 := Aside0.mk (Kd.R_lower ho0 (below_size (zG GE1158.out))); replace BK1158 := zV BK1158.out hb; replace HB := zX1 GE1158.out hb; (try clear hb); (try clear ho0); obtain ⟨hcz24_0, hcz24_1, hfz24_0, hfz24_1⟩ := zq2 BK1158.out) | (go_at_call 133; (with_reducible refine (impl_isSet.calls a0_0 a1 true _ A6.out).mono ?_); rintro e w' ⟨rfl, ⟨nd, rfl⟩⟩) | (go_at_call 86; (with_reducible refine (impl_isElement.calls a0_0 a2 true _ A8.out).mono ?_); rintro e w' ⟨rfl, ⟨nd, rfl⟩⟩))
     go_ret
     exact ⟨by first | rfl | (simp [errW_none, errW_some] <;> rfl) | (simp only [← hji11]; first | rfl | (simp [errW_none, errW_some] <;> rfl)) | (simp [*, errW_none, errW_some] <;> rfl), zG GE1158.out⟩
    rw [if_neg c10] at H
    exact absurd H (by simp)
   replace c9 := Bool.eq_false_iff.mpr c9
   subst c9
   replace H := (if_neg zFf).symm.trans H
   obtain rfl := Option.some.inj H
   go_enter Try.func57, Try.ntmps57
   go_wp2_with (first | ((with_reducible refine gate_dst (N := 3) rfl ?_); refine zBx (N := 3) #[.int .i64 a0_0, .string a0_1] 25 ?_; intro gb1158 hg w25 hbox hb; have BK1158 := Aside0.mk (hbox); have GW1158 := zS hg; have GE1158 := zS hg; replace HB := zX hb; clear hb hbox hg; obtain ⟨hcz26_0, hcz26_1, hfz26_0, hfz26_1⟩ := zq2 BK1158.out) | ((with_reducible refine gate_callee (f := 105) rfl ?_); refine zD (some 11) Try.func105 #[.agg #[.int .i64 a0_0, .string a0_1]] ?_; (with_reducible refine (impl_orderOf.calls k a0_0 a0_1 t1159 true _ A4.out).mono ?_); rintro e w27 ⟨v1160, rfl, ho0, hb⟩; refine ⟨_, rfl, ?_⟩; have HO1161 := Aside0.mk (Kd.R_lower ho0 (below_size (zG GE1158.out))); replace BK1158 := zV BK1158.out hb; replace HB := zX1 GE1158.out hb; (try clear hb); (try clear ho0); obtain ⟨hcz28_0, hcz28_1, hfz28_0, hfz28_1⟩ := zq2 BK1158.out) | (go_at_call 133; (with_reducible refine (impl_isSet.calls a0_0 a1 true _ A6.out).mono ?_); rintro e w' ⟨rfl, ⟨nd, rfl⟩⟩) | (go_at_call 86; (with_reducible refine (impl_isElement.calls a0_0 a2 false _ A8.out).mono ?_); rintro e w' ⟨rfl, ⟨nd, rfl⟩⟩))
   go_ret
   exact ⟨zE, zG GE1158.out⟩
  replace c7 := Bool.eq_false_iff.mpr c7
  subst c7
  replace H := (if_neg zFf).symm.trans H
  obtain rfl := Option.some.inj H
  go_enter Try.func57, Try.ntmps57
  go_wp2_with (first | ((with_reducible refine gate_dst (N := 3) rfl ?_); refine zBx (N := 3) #[.int .i64 a0_0, .string a0_1] 25 ?_; intro gb1158 hg w29 hbox hb; have BK1158 := Aside0.mk (hbox); have GW1158 := zS hg; have GE1158 := zS hg; replace HB := zX hb; clear hb hbox hg; obtain ⟨hcz30_0, hcz30_1, hfz30_0, hfz30_1⟩ := zq2 BK1158.out) | ((with_reducible refine gate_callee (f := 105) rfl ?_); refine zD (some 11) Try.func105 #[.agg #[.int .i64 a0_0, .string a0_1]] ?_; (with_reducible refine (impl_orderOf.calls k a0_0 a0_1 t1159 true _ A4.out).mono ?_); rintro e w31 ⟨v1160, rfl, ho0, hb⟩; refine ⟨_, rfl, ?_⟩; have HO1161 := Aside0.mk (Kd.R_lower ho0 (below_size (zG GE1158.out))); replace BK1158 := zV BK1158.out hb; replace HB := zX1 GE1158.out hb; (try clear hb); (try clear ho0); obtain ⟨hcz32_0, hcz32_1, hfz32_0, hfz32_1⟩ := zq2 BK1158.out) | (go_at_call 133; (with_reducible refine (impl_isSet.calls a0_0 a1 false _ A6.out).mono ?_); rintro e w' ⟨rfl, ⟨nd, rfl⟩⟩))
  go_ret
  exact ⟨zE, zG GE1158.out⟩
 replace c5 := Bool.eq_false_iff.mpr c5
 subst c5
 replace H := (if_neg zFf).symm.trans H
 obtain rfl := Option.some.inj H
 go_enter Try.func57, Try.ntmps57
 go_wp2_with (first | ((with_reducible refine gate_dst (N := 3) rfl ?_); refine zBx (N := 3) #[.int .i64 a0_0, .string a0_1] 25 ?_; intro gb1158 hg w33 hbox hb; have BK1158 := Aside0.mk (hbox); have GW1158 := zS hg; have GE1158 := zS hg; replace HB := zX hb; clear hb hbox hg; obtain ⟨hcz34_0, hcz34_1, hfz34_0, hfz34_1⟩ := zq2 BK1158.out) | ((with_reducible refine gate_callee (f := 105) rfl ?_); refine zD (some 11) Try.func105 #[.agg #[.int .i64 a0_0, .string a0_1]] ?_; (with_reducible refine (impl_orderOf.calls k a0_0 a0_1 t1159 false _ A4.out).mono ?_); rintro e w35 ⟨v1160, rfl, ho0, hb⟩; refine ⟨_, rfl, ?_⟩; have HO1161 := Aside0.mk (Kd.R_lower ho0 (below_size (zG GE1158.out))); replace BK1158 := zV BK1158.out hb; replace HB := zX1 GE1158.out hb; (try clear hb); (try clear ho0)))
 go_ret
 exact ⟨zE, zG GE1158.out⟩
/-! ### spec_InHull: function 58 -/
def spec_InHull.f (k : Nat) (a0_0 : Int) (a0_1 : ByteArray) (a1 : Int) (a2 : Int) : Option (Bool) := (spec_IsAcyclic.f k a0_0 a0_1).bind fun t1167 => (if t1167 = true then ((spec_l1In.f a2 0 (wrap64 (a0_0 - 1))).bind fun t1168 => (if t1168 = true then (if 0 ≤ (IntKind.u64.wrap (a0_0)) then ((spec_l1In.f a1 0 (wrap64 ((shl .i64 1 (IntKind.u64.wrap (a0_0))) - 1))).bind fun t1169 => (if t1169 = true then ((spec_l6Has.f a1 a2).bind fun t1170 => (if t1170 = true then (some false) else ((spec_l6In.f k a0_0 a0_1 a1 a2).bind fun t1171 => (some t1171)))) else (some false))) else (none)) else (some false))) else (some false))
set_option maxHeartbeats 8000000 in
set_option maxRecDepth 100000 in
theorem spec_InHull.calls (k : Nat) (a0_0 : Int) (a0_1 : ByteArray) (a1 : Int) (a2 : Int) (r : Bool) (w : World) (h : spec_InHull.f k a0_0 a0_1 a1 a2 = some r) :
  Calls Try.prog 58 #[.agg #[.int .i64 a0_0, .string a0_1], .int .i64 a1, .int .i64 a2] w fun e w' => e = .returned (.bool r) ∧ Below w.heap.size w w' := by
 have hu25 := Try.underlying25
 have HB := Aside0.mk (Below.refl w.heap.size w)
 have H : ((spec_IsAcyclic.f k a0_0 a0_1).bind fun t1167 => (if t1167 = true then ((spec_l1In.f a2 0 (wrap64 (a0_0 - 1))).bind fun t1168 => (if t1168 = true then (if 0 ≤ (IntKind.u64.wrap (a0_0)) then ((spec_l1In.f a1 0 (wrap64 ((shl .i64 1 (IntKind.u64.wrap (a0_0))) - 1))).bind fun t1169 => (if t1169 = true then ((spec_l6Has.f a1 a2).bind fun t1170 => (if t1170 = true then (some false) else ((spec_l6In.f k a0_0 a0_1 a1 a2).bind fun t1171 => (some t1171)))) else (some false))) else (none)) else (some false))) else (some false))) = some r := h
 clear h
 obtain ⟨t1167, A4, H⟩ := zO H
 by_cases c5 : t1167 = true
 ·subst c5
  replace H := (if_pos rfl).symm.trans H
  obtain ⟨t1168, A6, H⟩ := zO H
  by_cases c7 : t1168 = true
  ·subst c7
   replace H := (if_pos rfl).symm.trans H
   obtain ⟨ji8, hji8⟩ : ∃ j_ : Int, (IntKind.u64.wrap (a0_0)) = j_ := ⟨_, rfl⟩
   replace H : (if 0 ≤ (ji8) then ((spec_l1In.f a1 0 (wrap64 ((shl .i64 1 (ji8)) - 1))).bind fun t1169 => (if t1169 = true then ((spec_l6Has.f a1 a2).bind fun t1170 => (if t1170 = true then (some false) else ((spec_l6In.f k a0_0 a0_1 a1 a2).bind fun t1171 => (some t1171)))) else (some false))) else (none)) = some r := by first | (rw [hji8] at H; exact H) | (simp only [hji8] at H ⊢; exact H)
   (try rw [hji8] at A4)
   (try rw [hji8] at A6)
   by_cases c9 : 0 ≤ (ji8)
   ·rw [if_pos c9] at H
    have c9b0 := eq_true c9
    have c9b1 := decide_eq_true c9
    clear c9
    obtain ⟨ji10, hji10⟩ : ∃ j_ : Int, (shl .i64 1 (ji8)) = j_ := ⟨_, rfl⟩
    replace H : ((spec_l1In.f a1 0 (wrap64 ((ji10) - 1))).bind fun t1169 => (if t1169 = true then ((spec_l6Has.f a1 a2).bind fun t1170 => (if t1170 = true then (some false) else ((spec_l6In.f k a0_0 a0_1 a1 a2).bind fun t1171 => (some t1171)))) else (some false))) = some r := by first | (rw [hji10] at H; exact H) | (simp only [hji10] at H ⊢; exact H)
    (try rw [hji10] at A4)
    (try rw [hji10] at A6)
    have hji10_ : (IntKind.i64.wrap (1 * 2 ^ min (ji8).toNat 64)) = ji10 := hji10
    have hji10z : (ji8) ≤ 64 → (IntKind.i64.wrap (1 * 2 ^ (ji8).toNat)) = ji10 := shl_small hji10
    have hji10u : (IntKind.i64.wrap (2 ^ min (ji8).toNat 64)) = ji10 := by have h_ := hji10_; rw [Int.one_mul] at h_; exact h_
    have hji10v : (ji8) ≤ 64 → (IntKind.i64.wrap (2 ^ (ji8).toNat)) = ji10 := fun hle_ => by have h_ := hji10z hle_; rw [Int.one_mul] at h_; exact h_
    have hji10y : (wrap64 (1 * 2 ^ min (ji8).toNat 64)) = ji10 := (i64_w _).symm.trans hji10_
    have hji10x : (ji8) ≤ 64 → (wrap64 (1 * 2 ^ (ji8).toNat)) = ji10 := fun h_ => (i64_w _).symm.trans (hji10z h_)
    obtain ⟨t1169, A11, H⟩ := zO H
    by_cases c12 : t1169 = true
    ·subst c12
     replace H := (if_pos rfl).symm.trans H
     obtain ⟨t1170, A13, H⟩ := zO H
     by_cases c14 : t1170 = true
     ·subst c14
      replace H := (if_pos rfl).symm.trans H
      obtain rfl := Option.some.inj H
      go_enter Try.func58, Try.ntmps58
      go_wp2_with (first | ((with_reducible refine gate_dst (N := 3) rfl ?_); refine zBx (N := 3) #[.int .i64 a0_0, .string a0_1] 25 ?_; intro gb1166 hg w15 hbox hb; have BK1166 := Aside0.mk (hbox); have GW1166 := zS hg; have GE1166 := zS hg; replace HB := zX hb; clear hb hbox hg; obtain ⟨hcz16_0, hcz16_1, hfz16_0, hfz16_1⟩ := zq2 BK1166.out) | ((with_reducible refine gate_callee (f := 24) rfl ?_); refine zD (some 8) Try.func24 #[.agg #[.int .i64 a0_0, .string a0_1]] ?_; (with_reducible refine (spec_IsAcyclic.calls k a0_0 a0_1 true _ A4.out).mono ?_); rintro e w17 ⟨rfl, hb⟩; refine ⟨_, rfl, ?_⟩; replace BK1166 := zV BK1166.out hb; replace HB := zX1 GE1166.out hb; (try clear hb); obtain ⟨hcz18_0, hcz18_1, hfz18_0, hfz18_1⟩ := zq2 BK1166.out) | (go_at_call 89; (with_reducible refine (spec_l1In.calls a2 0 (wrap64 (a0_0 - 1)) true _ A6.out).mono ?_); rintro e w' ⟨rfl, ⟨nd, rfl⟩⟩) | (go_at_call 89; (with_reducible refine (spec_l1In.calls a1 0 (wrap64 ((ji10) - 1)) true _ A11.out).mono ?_); rintro e w' ⟨rfl, ⟨nd, rfl⟩⟩) | (go_at_call 129; (with_reducible refine (spec_l6Has.calls a1 a2 true _ A13.out).mono ?_); rintro e w' ⟨rfl, ⟨nd, rfl⟩⟩))
      go_ret
      exact ⟨by first | rfl | (simp [errW_none, errW_some] <;> rfl) | (simp only [← hji8, ← hji10]; first | rfl | (simp [errW_none, errW_some] <;> rfl)) | (simp [*, errW_none, errW_some] <;> rfl), zG GE1166.out⟩
     replace c14 := Bool.eq_false_iff.mpr c14
     subst c14
     replace H := (if_neg zFf).symm.trans H
     obtain ⟨t1171, A19, H⟩ := zO H
     obtain rfl := Option.some.inj H
     go_enter Try.func58, Try.ntmps58
     go_wp2_with (first | ((with_reducible refine gate_dst (N := 3) rfl ?_); refine zBx (N := 3) #[.int .i64 a0_0, .string a0_1] 25 ?_; intro gb1166 hg w20 hbox hb; have BK1166 := Aside0.mk (hbox); have GW1166 := zS hg; have GE1166 := zS hg; replace HB := zX hb; clear hb hbox hg; obtain ⟨hcz21_0, hcz21_1, hfz21_0, hfz21_1⟩ := zq2 BK1166.out) | ((with_reducible refine gate_callee (f := 24) rfl ?_); refine zD (some 8) Try.func24 #[.agg #[.int .i64 a0_0, .string a0_1]] ?_; (with_reducible refine (spec_IsAcyclic.calls k a0_0 a0_1 true _ A4.out).mono ?_); rintro e w22 ⟨rfl, hb⟩; refine ⟨_, rfl, ?_⟩; replace BK1166 := zV BK1166.out hb; replace HB := zX1 GE1166.out hb; (try clear hb); obtain ⟨hcz23_0, hcz23_1, hfz23_0, hfz23_1⟩ := zq2 BK1166.out) | (go_at_call 89; (with_reducible refine (spec_l1In.calls a2 0 (wrap64 (a0_0 - 1)) true _ A6.out).mono ?_); rintro e w' ⟨rfl, ⟨nd, rfl⟩⟩) | (go_at_call 89; (with_reducible refine (spec_l1In.calls a1 0 (wrap64 ((ji10) - 1)) true _ A11.out).mono ?_); rintro e w' ⟨rfl, ⟨nd, rfl⟩⟩) | (go_at_call 129; (with_reducible refine (spec_l6Has.calls a1 a2 false _ A13.out).mono ?_); rintro e w' ⟨rfl, ⟨nd, rfl⟩⟩) | (go_at_call 132; (with_reducible refine (spec_l6In.calls k a0_0 a0_1 a1 a2 t1171 _ A19.out).mono ?_); rintro e w24 ⟨rfl, hb⟩; replace BK1166 := zV BK1166.out hb; replace HB := zX1 GE1166.out hb; (try clear hb); (try clear hb2); (try clear hk); (try clear hi)))
     go_ret
     exact ⟨by first | rfl | (simp [errW_none, errW_some] <;> rfl) | (simp only [← hji8, ← hji10]; first | rfl | (simp [errW_none, errW_some] <;> rfl)) | (simp [*, errW_none, errW_some] <;> rfl), zG GE1166.out⟩
    replace c12 := Bool.eq_false_iff.mpr c12
    subst c12
    replace H := (if_neg zFf).symm.trans H
    obtain rfl := Option.some.inj H
    go_enter Try.func58, Try.ntmps58
    go_wp2_with (first | ((with_reducible refine gate_dst (N := 3) rfl ?_); refine zBx (N := 3) #[.int .i64 a0_0, .string a0_1] 25 ?_; intro gb1166 hg w25 hbox hb; have BK1166 := Aside0.mk (hbox); have GW1166 := zS hg; have GE1166 := zS hg; replace HB := zX hb; clear hb hbox hg; obtain ⟨hcz26_0, hcz26_1, hfz26_0, hfz26_1⟩ := zq2 BK1166.out) | ((with_reducible refine gate_callee (f := 24) rfl ?_); refine zD (some 8) Try.func24 #[.agg #[.int .i64 a0_0, .string a0_1]] ?_; (with_reducible refine (spec_IsAcyclic.calls k a0_0 a0_1 true _ A4.out).mono ?_); rintro e w27 ⟨rfl, hb⟩; refine ⟨_, rfl, ?_⟩; replace BK1166 := zV BK1166.out hb; replace HB := zX1 GE1166.out hb; (try clear hb); obtain ⟨hcz28_0, hcz28_1, hfz28_0, hfz28_1⟩ := zq2 BK1166.out) | (go_at_call 89; (with_reducible refine (spec_l1In.calls a2 0 (wrap64 (a0_0 - 1)) true _ A6.out).mono ?_); rintro e w' ⟨rfl, ⟨nd, rfl⟩⟩) | (go_at_call 89; (with_reducible refine (spec_l1In.calls a1 0 (wrap64 ((ji10) - 1)) false _ A11.out).mono ?_); rintro e w' ⟨rfl, ⟨nd, rfl⟩⟩))
    go_ret
    exact ⟨by first | rfl | (simp [errW_none, errW_some] <;> rfl) | (simp only [← hji8, ← hji10]; first | rfl | (simp [errW_none, errW_some] <;> rfl)) | (simp [*, errW_none, errW_some] <;> rfl), zG GE1166.out⟩
   rw [if_neg c9] at H
   exact absurd H (by simp)
  replace c7 := Bool.eq_false_iff.mpr c7
  subst c7
  replace H := (if_neg zFf).symm.trans H
  obtain rfl := Option.some.inj H
  go_enter Try.func58, Try.ntmps58
  go_wp2_with (first | ((with_reducible refine gate_dst (N := 3) rfl ?_); refine zBx (N := 3) #[.int .i64 a0_0, .string a0_1] 25 ?_; intro gb1166 hg w29 hbox hb; have BK1166 := Aside0.mk (hbox); have GW1166 := zS hg; have GE1166 := zS hg; replace HB := zX hb; clear hb hbox hg; obtain ⟨hcz30_0, hcz30_1, hfz30_0, hfz30_1⟩ := zq2 BK1166.out) | ((with_reducible refine gate_callee (f := 24) rfl ?_); refine zD (some 8) Try.func24 #[.agg #[.int .i64 a0_0, .string a0_1]] ?_; (with_reducible refine (spec_IsAcyclic.calls k a0_0 a0_1 true _ A4.out).mono ?_); rintro e w31 ⟨rfl, hb⟩; refine ⟨_, rfl, ?_⟩; replace BK1166 := zV BK1166.out hb; replace HB := zX1 GE1166.out hb; (try clear hb); obtain ⟨hcz32_0, hcz32_1, hfz32_0, hfz32_1⟩ := zq2 BK1166.out) | (go_at_call 89; (with_reducible refine (spec_l1In.calls a2 0 (wrap64 (a0_0 - 1)) false _ A6.out).mono ?_); rintro e w' ⟨rfl, ⟨nd, rfl⟩⟩))
  go_ret
  exact ⟨zE, zG GE1166.out⟩
 replace c5 := Bool.eq_false_iff.mpr c5
 subst c5
 replace H := (if_neg zFf).symm.trans H
 obtain rfl := Option.some.inj H
 go_enter Try.func58, Try.ntmps58
 go_wp2_with (first | ((with_reducible refine gate_dst (N := 3) rfl ?_); refine zBx (N := 3) #[.int .i64 a0_0, .string a0_1] 25 ?_; intro gb1166 hg w33 hbox hb; have BK1166 := Aside0.mk (hbox); have GW1166 := zS hg; have GE1166 := zS hg; replace HB := zX hb; clear hb hbox hg; obtain ⟨hcz34_0, hcz34_1, hfz34_0, hfz34_1⟩ := zq2 BK1166.out) | ((with_reducible refine gate_callee (f := 24) rfl ?_); refine zD (some 8) Try.func24 #[.agg #[.int .i64 a0_0, .string a0_1]] ?_; (with_reducible refine (spec_IsAcyclic.calls k a0_0 a0_1 false _ A4.out).mono ?_); rintro e w35 ⟨rfl, hb⟩; refine ⟨_, rfl, ?_⟩; replace BK1166 := zV BK1166.out hb; replace HB := zX1 GE1166.out hb; (try clear hb)))
 go_ret
 exact ⟨zE, zG GE1166.out⟩
/-! ### bits_OnesCount64: function 153 -/
def bits_OnesCount64.f (a0 : Int) : Option (Int) := some (Go.bits .and .i64 (wrap64 (IntKind.u64.wrap ((IntKind.u64.wrap ((IntKind.u64.wrap ((Go.bits .and .u64 (IntKind.u64.wrap (((IntKind.u64.wrap ((Go.bits .and .u64 ((IntKind.u64.wrap ((Go.bits .and .u64 (a0 / 2) 6148914691236517205) + (Go.bits .and .u64 a0 6148914691236517205))) / 4) 3689348814741910323) + (Go.bits .and .u64 (IntKind.u64.wrap ((Go.bits .and .u64 (a0 / 2) 6148914691236517205) + (Go.bits .and .u64 a0 6148914691236517205))) 3689348814741910323))) / 16) + (IntKind.u64.wrap ((Go.bits .and .u64 ((IntKind.u64.wrap ((Go.bits .and .u64 (a0 / 2) 6148914691236517205) + (Go.bits .and .u64 a0 6148914691236517205))) / 4) 3689348814741910323) + (Go.bits .and .u64 (IntKind.u64.wrap ((Go.bits .and .u64 (a0 / 2) 6148914691236517205) + (Go.bits .and .u64 a0 6148914691236517205))) 3689348814741910323))))) 1085102592571150095) + ((Go.bits .and .u64 (IntKind.u64.wrap (((IntKind.u64.wrap ((Go.bits .and .u64 ((IntKind.u64.wrap ((Go.bits .and .u64 (a0 / 2) 6148914691236517205) + (Go.bits .and .u64 a0 6148914691236517205))) / 4) 3689348814741910323) + (Go.bits .and .u64 (IntKind.u64.wrap ((Go.bits .and .u64 (a0 / 2) 6148914691236517205) + (Go.bits .and .u64 a0 6148914691236517205))) 3689348814741910323))) / 16) + (IntKind.u64.wrap ((Go.bits .and .u64 ((IntKind.u64.wrap ((Go.bits .and .u64 (a0 / 2) 6148914691236517205) + (Go.bits .and .u64 a0 6148914691236517205))) / 4) 3689348814741910323) + (Go.bits .and .u64 (IntKind.u64.wrap ((Go.bits .and .u64 (a0 / 2) 6148914691236517205) + (Go.bits .and .u64 a0 6148914691236517205))) 3689348814741910323))))) 1085102592571150095) / 256))) + ((IntKind.u64.wrap ((Go.bits .and .u64 (IntKind.u64.wrap (((IntKind.u64.wrap ((Go.bits .and .u64 ((IntKind.u64.wrap ((Go.bits .and .u64 (a0 / 2) 6148914691236517205) + (Go.bits .and .u64 a0 6148914691236517205))) / 4) 3689348814741910323) + (Go.bits .and .u64 (IntKind.u64.wrap ((Go.bits .and .u64 (a0 / 2) 6148914691236517205) + (Go.bits .and .u64 a0 6148914691236517205))) 3689348814741910323))) / 16) + (IntKind.u64.wrap ((Go.bits .and .u64 ((IntKind.u64.wrap ((Go.bits .and .u64 (a0 / 2) 6148914691236517205) + (Go.bits .and .u64 a0 6148914691236517205))) / 4) 3689348814741910323) + (Go.bits .and .u64 (IntKind.u64.wrap ((Go.bits .and .u64 (a0 / 2) 6148914691236517205) + (Go.bits .and .u64 a0 6148914691236517205))) 3689348814741910323))))) 1085102592571150095) + ((Go.bits .and .u64 (IntKind.u64.wrap (((IntKind.u64.wrap ((Go.bits .and .u64 ((IntKind.u64.wrap ((Go.bits .and .u64 (a0 / 2) 6148914691236517205) + (Go.bits .and .u64 a0 6148914691236517205))) / 4) 3689348814741910323) + (Go.bits .and .u64 (IntKind.u64.wrap ((Go.bits .and .u64 (a0 / 2) 6148914691236517205) + (Go.bits .and .u64 a0 6148914691236517205))) 3689348814741910323))) / 16) + (IntKind.u64.wrap ((Go.bits .and .u64 ((IntKind.u64.wrap ((Go.bits .and .u64 (a0 / 2) 6148914691236517205) + (Go.bits .and .u64 a0 6148914691236517205))) / 4) 3689348814741910323) + (Go.bits .and .u64 (IntKind.u64.wrap ((Go.bits .and .u64 (a0 / 2) 6148914691236517205) + (Go.bits .and .u64 a0 6148914691236517205))) 3689348814741910323))))) 1085102592571150095) / 256))) / 65536))) + ((IntKind.u64.wrap ((IntKind.u64.wrap ((Go.bits .and .u64 (IntKind.u64.wrap (((IntKind.u64.wrap ((Go.bits .and .u64 ((IntKind.u64.wrap ((Go.bits .and .u64 (a0 / 2) 6148914691236517205) + (Go.bits .and .u64 a0 6148914691236517205))) / 4) 3689348814741910323) + (Go.bits .and .u64 (IntKind.u64.wrap ((Go.bits .and .u64 (a0 / 2) 6148914691236517205) + (Go.bits .and .u64 a0 6148914691236517205))) 3689348814741910323))) / 16) + (IntKind.u64.wrap ((Go.bits .and .u64 ((IntKind.u64.wrap ((Go.bits .and .u64 (a0 / 2) 6148914691236517205) + (Go.bits .and .u64 a0 6148914691236517205))) / 4) 3689348814741910323) + (Go.bits .and .u64 (IntKind.u64.wrap ((Go.bits .and .u64 (a0 / 2) 6148914691236517205) + (Go.bits .and .u64 a0 6148914691236517205))) 3689348814741910323))))) 1085102592571150095) + ((Go.bits .and .u64 (IntKind.u64.wrap (((IntKind.u64.wrap ((Go.bits .and .u64 ((IntKind.u64.wrap ((Go.bits .and .u64 (a0 / 2) 6148914691236517205) + (Go.bits .and .u64 a0 6148914691236517205))) / 4) 3689348814741910323) + (Go.bits .and .u64 (IntKind.u64.wrap ((Go.bits .and .u64 (a0 / 2) 6148914691236517205) + (Go.bits .and .u64 a0 6148914691236517205))) 3689348814741910323))) / 16) + (IntKind.u64.wrap ((Go.bits .and .u64 ((IntKind.u64.wrap ((Go.bits .and .u64 (a0 / 2) 6148914691236517205) + (Go.bits .and .u64 a0 6148914691236517205))) / 4) 3689348814741910323) + (Go.bits .and .u64 (IntKind.u64.wrap ((Go.bits .and .u64 (a0 / 2) 6148914691236517205) + (Go.bits .and .u64 a0 6148914691236517205))) 3689348814741910323))))) 1085102592571150095) / 256))) + ((IntKind.u64.wrap ((Go.bits .and .u64 (IntKind.u64.wrap (((IntKind.u64.wrap ((Go.bits .and .u64 ((IntKind.u64.wrap ((Go.bits .and .u64 (a0 / 2) 6148914691236517205) + (Go.bits .and .u64 a0 6148914691236517205))) / 4) 3689348814741910323) + (Go.bits .and .u64 (IntKind.u64.wrap ((Go.bits .and .u64 (a0 / 2) 6148914691236517205) + (Go.bits .and .u64 a0 6148914691236517205))) 3689348814741910323))) / 16) + (IntKind.u64.wrap ((Go.bits .and .u64 ((IntKind.u64.wrap ((Go.bits .and .u64 (a0 / 2) 6148914691236517205) + (Go.bits .and .u64 a0 6148914691236517205))) / 4) 3689348814741910323) + (Go.bits .and .u64 (IntKind.u64.wrap ((Go.bits .and .u64 (a0 / 2) 6148914691236517205) + (Go.bits .and .u64 a0 6148914691236517205))) 3689348814741910323))))) 1085102592571150095) + ((Go.bits .and .u64 (IntKind.u64.wrap (((IntKind.u64.wrap ((Go.bits .and .u64 ((IntKind.u64.wrap ((Go.bits .and .u64 (a0 / 2) 6148914691236517205) + (Go.bits .and .u64 a0 6148914691236517205))) / 4) 3689348814741910323) + (Go.bits .and .u64 (IntKind.u64.wrap ((Go.bits .and .u64 (a0 / 2) 6148914691236517205) + (Go.bits .and .u64 a0 6148914691236517205))) 3689348814741910323))) / 16) + (IntKind.u64.wrap ((Go.bits .and .u64 ((IntKind.u64.wrap ((Go.bits .and .u64 (a0 / 2) 6148914691236517205) + (Go.bits .and .u64 a0 6148914691236517205))) / 4) 3689348814741910323) + (Go.bits .and .u64 (IntKind.u64.wrap ((Go.bits .and .u64 (a0 / 2) 6148914691236517205) + (Go.bits .and .u64 a0 6148914691236517205))) 3689348814741910323))))) 1085102592571150095) / 256))) / 65536))) / 4294967296)))) 127)
set_option maxHeartbeats 8000000 in
set_option maxRecDepth 100000 in
theorem bits_OnesCount64.calls (a0 : Int) (r : Int) (w : World) (h : bits_OnesCount64.f a0 = some r) :
  Calls Try.prog 153 #[.int .u64 a0] w fun e w' => e = .returned (.int .i64 r) ∧ Drawn0 w w' := by
 have H : (some (Go.bits .and .i64 (wrap64 (IntKind.u64.wrap ((IntKind.u64.wrap ((IntKind.u64.wrap ((Go.bits .and .u64 (IntKind.u64.wrap (((IntKind.u64.wrap ((Go.bits .and .u64 ((IntKind.u64.wrap ((Go.bits .and .u64 (a0 / 2) 6148914691236517205) + (Go.bits .and .u64 a0 6148914691236517205))) / 4) 3689348814741910323) + (Go.bits .and .u64 (IntKind.u64.wrap ((Go.bits .and .u64 (a0 / 2) 6148914691236517205) + (Go.bits .and .u64 a0 6148914691236517205))) 3689348814741910323))) / 16) + (IntKind.u64.wrap ((Go.bits .and .u64 ((IntKind.u64.wrap ((Go.bits .and .u64 (a0 / 2) 6148914691236517205) + (Go.bits .and .u64 a0 6148914691236517205))) / 4) 3689348814741910323) + (Go.bits .and .u64 (IntKind.u64.wrap ((Go.bits .and .u64 (a0 / 2) 6148914691236517205) + (Go.bits .and .u64 a0 6148914691236517205))) 3689348814741910323))))) 1085102592571150095) + ((Go.bits .and .u64 (IntKind.u64.wrap (((IntKind.u64.wrap ((Go.bits .and .u64 ((IntKind.u64.wrap ((Go.bits .and .u64 (a0 / 2) 6148914691236517205) + (Go.bits .and .u64 a0 6148914691236517205))) / 4) 3689348814741910323) + (Go.bits .and .u64 (IntKind.u64.wrap ((Go.bits .and .u64 (a0 / 2) 6148914691236517205) + (Go.bits .and .u64 a0 6148914691236517205))) 3689348814741910323))) / 16) + (IntKind.u64.wrap ((Go.bits .and .u64 ((IntKind.u64.wrap ((Go.bits .and .u64 (a0 / 2) 6148914691236517205) + (Go.bits .and .u64 a0 6148914691236517205))) / 4) 3689348814741910323) + (Go.bits .and .u64 (IntKind.u64.wrap ((Go.bits .and .u64 (a0 / 2) 6148914691236517205) + (Go.bits .and .u64 a0 6148914691236517205))) 3689348814741910323))))) 1085102592571150095) / 256))) + ((IntKind.u64.wrap ((Go.bits .and .u64 (IntKind.u64.wrap (((IntKind.u64.wrap ((Go.bits .and .u64 ((IntKind.u64.wrap ((Go.bits .and .u64 (a0 / 2) 6148914691236517205) + (Go.bits .and .u64 a0 6148914691236517205))) / 4) 3689348814741910323) + (Go.bits .and .u64 (IntKind.u64.wrap ((Go.bits .and .u64 (a0 / 2) 6148914691236517205) + (Go.bits .and .u64 a0 6148914691236517205))) 3689348814741910323))) / 16) + (IntKind.u64.wrap ((Go.bits .and .u64 ((IntKind.u64.wrap ((Go.bits .and .u64 (a0 / 2) 6148914691236517205) + (Go.bits .and .u64 a0 6148914691236517205))) / 4) 3689348814741910323) + (Go.bits .and .u64 (IntKind.u64.wrap ((Go.bits .and .u64 (a0 / 2) 6148914691236517205) + (Go.bits .and .u64 a0 6148914691236517205))) 3689348814741910323))))) 1085102592571150095) + ((Go.bits .and .u64 (IntKind.u64.wrap (((IntKind.u64.wrap ((Go.bits .and .u64 ((IntKind.u64.wrap ((Go.bits .and .u64 (a0 / 2) 6148914691236517205) + (Go.bits .and .u64 a0 6148914691236517205))) / 4) 3689348814741910323) + (Go.bits .and .u64 (IntKind.u64.wrap ((Go.bits .and .u64 (a0 / 2) 6148914691236517205) + (Go.bits .and .u64 a0 6148914691236517205))) 3689348814741910323))) / 16) + (IntKind.u64.wrap ((Go.bits .and .u64 ((IntKind.u64.wrap ((Go.bits .and .u64 (a0 / 2) 6148914691236517205) + (Go.bits .and .u64 a0 6148914691236517205))) / 4) 3689348814741910323) + (Go.bits .and .u64 (IntKind.u64.wrap ((Go.bits .and .u64 (a0 / 2) 6148914691236517205) + (Go.bits .and .u64 a0 6148914691236517205))) 3689348814741910323))))) 1085102592571150095) / 256))) / 65536))) + ((IntKind.u64.wrap ((IntKind.u64.wrap ((Go.bits .and .u64 (IntKind.u64.wrap (((IntKind.u64.wrap ((Go.bits .and .u64 ((IntKind.u64.wrap ((Go.bits .and .u64 (a0 / 2) 6148914691236517205) + (Go.bits .and .u64 a0 6148914691236517205))) / 4) 3689348814741910323) + (Go.bits .and .u64 (IntKind.u64.wrap ((Go.bits .and .u64 (a0 / 2) 6148914691236517205) + (Go.bits .and .u64 a0 6148914691236517205))) 3689348814741910323))) / 16) + (IntKind.u64.wrap ((Go.bits .and .u64 ((IntKind.u64.wrap ((Go.bits .and .u64 (a0 / 2) 6148914691236517205) + (Go.bits .and .u64 a0 6148914691236517205))) / 4) 3689348814741910323) + (Go.bits .and .u64 (IntKind.u64.wrap ((Go.bits .and .u64 (a0 / 2) 6148914691236517205) + (Go.bits .and .u64 a0 6148914691236517205))) 3689348814741910323))))) 1085102592571150095) + ((Go.bits .and .u64 (IntKind.u64.wrap (((IntKind.u64.wrap ((Go.bits .and .u64 ((IntKind.u64.wrap ((Go.bits .and .u64 (a0 / 2) 6148914691236517205) + (Go.bits .and .u64 a0 6148914691236517205))) / 4) 3689348814741910323) + (Go.bits .and .u64 (IntKind.u64.wrap ((Go.bits .and .u64 (a0 / 2) 6148914691236517205) + (Go.bits .and .u64 a0 6148914691236517205))) 3689348814741910323))) / 16) + (IntKind.u64.wrap ((Go.bits .and .u64 ((IntKind.u64.wrap ((Go.bits .and .u64 (a0 / 2) 6148914691236517205) + (Go.bits .and .u64 a0 6148914691236517205))) / 4) 3689348814741910323) + (Go.bits .and .u64 (IntKind.u64.wrap ((Go.bits .and .u64 (a0 / 2) 6148914691236517205) + (Go.bits .and .u64 a0 6148914691236517205))) 3689348814741910323))))) 1085102592571150095) / 256))) + ((IntKind.u64.wrap ((Go.bits .and .u64 (IntKind.u64.wrap (((IntKind.u64.wrap ((Go.bits .and .u64 ((IntKind.u64.wrap ((Go.bits .and .u64 (a0 / 2) 6148914691236517205) + (Go.bits .and .u64 a0 6148914691236517205))) / 4) 3689348814741910323) + (Go.bits .and .u64 (IntKind.u64.wrap ((Go.bits .and .u64 (a0 / 2) 6148914691236517205) + (Go.bits .and .u64 a0 6148914691236517205))) 3689348814741910323))) / 16) + (IntKind.u64.wrap ((Go.bits .and .u64 ((IntKind.u64.wrap ((Go.bits .and .u64 (a0 / 2) 6148914691236517205) + (Go.bits .and .u64 a0 6148914691236517205))) / 4) 3689348814741910323) + (Go.bits .and .u64 (IntKind.u64.wrap ((Go.bits .and .u64 (a0 / 2) 6148914691236517205) + (Go.bits .and .u64 a0 6148914691236517205))) 3689348814741910323))))) 1085102592571150095) + ((Go.bits .and .u64 (IntKind.u64.wrap (((IntKind.u64.wrap ((Go.bits .and .u64 ((IntKind.u64.wrap ((Go.bits .and .u64 (a0 / 2) 6148914691236517205) + (Go.bits .and .u64 a0 6148914691236517205))) / 4) 3689348814741910323) + (Go.bits .and .u64 (IntKind.u64.wrap ((Go.bits .and .u64 (a0 / 2) 6148914691236517205) + (Go.bits .and .u64 a0 6148914691236517205))) 3689348814741910323))) / 16) + (IntKind.u64.wrap ((Go.bits .and .u64 ((IntKind.u64.wrap ((Go.bits .and .u64 (a0 / 2) 6148914691236517205) + (Go.bits .and .u64 a0 6148914691236517205))) / 4) 3689348814741910323) + (Go.bits .and .u64 (IntKind.u64.wrap ((Go.bits .and .u64 (a0 / 2) 6148914691236517205) + (Go.bits .and .u64 a0 6148914691236517205))) 3689348814741910323))))) 1085102592571150095) / 256))) / 65536))) / 4294967296)))) 127)) = some r := h
 clear h
 obtain rfl := Option.some.inj H
 go_enter Try.func153, Try.ntmps153
 go_wp2
 go_ret
 exact ⟨by first | rfl | (simp; done) | (simp [*]; done), by repeat (first | exact Drawn0.refl _ | apply Drawn0.step)⟩
/-! ### bits_OnesCount: function 135 -/
def bits_OnesCount.f (a0 : Int) : Option (Int) := (bits_OnesCount64.f a0).bind fun t1172 => (some t1172)
set_option maxHeartbeats 8000000 in
set_option maxRecDepth 100000 in
theorem bits_OnesCount.calls (a0 : Int) (r : Int) (w : World) (h : bits_OnesCount.f a0 = some r) :
  Calls Try.prog 135 #[.int .u64 a0] w fun e w' => e = .returned (.int .i64 r) ∧ Drawn0 w w' := by
 have H : ((bits_OnesCount64.f a0).bind fun t1172 => (some t1172)) = some r := h
 clear h
 obtain ⟨t1172, A2, H⟩ := zO H
 obtain rfl := Option.some.inj H
 go_enter Try.func135, Try.ntmps135
 go_wp2_with (first | ((with_reducible refine gate_callee (f := 153) rfl ?_); refine zD (some 7) Try.func153 #[.int .u64 a0] ?_; (with_reducible refine (bits_OnesCount64.calls a0 t1172 _ A2.out).mono ?_); rintro e w' ⟨rfl, ⟨nd, rfl⟩⟩; refine ⟨_, rfl, ?_⟩))
 go_ret
 exact ⟨by first | rfl | (simp; done) | (simp [*]; done), by repeat (first | exact Drawn0.refl _ | apply Drawn0.step)⟩
/-! ### impl_HullSize: function 59 -/
def impl_HullSize.f (k : Nat) (a0_0 : Int) (a0_1 : ByteArray) : Option (Int) := (impl_orderOf.f k a0_0 a0_1).bind fun bt1174 => (if bt1174.2 = true then ((impl_fullSet.f a0_0).bind fun t1178 => (if bt1174.1.length = 344 then ((impl_chi_extremeIn.f k bt1174.1 t1178).bind fun t1179 => ((bits_OnesCount.f (IntKind.u64.wrap (t1179))).bind fun t1180 => (some t1180))) else (none))) else (some (-1)))
set_option maxHeartbeats 8000000 in
set_option maxRecDepth 100000 in
theorem impl_HullSize.calls (k : Nat) (a0_0 : Int) (a0_1 : ByteArray) (r : Int) (w : World) (h : impl_HullSize.f k a0_0 a0_1 = some r) :
  Calls Try.prog 59 #[.agg #[.int .i64 a0_0, .string a0_1]] w fun e w' => e = .returned (.int .i64 r) ∧ Below w.heap.size w w' := by
 have hu25 := Try.underlying25
 have HB := Aside0.mk (Below.refl w.heap.size w)
 have H : ((impl_orderOf.f k a0_0 a0_1).bind fun bt1174 => (if bt1174.2 = true then ((impl_fullSet.f a0_0).bind fun t1178 => (if bt1174.1.length = 344 then ((impl_chi_extremeIn.f k bt1174.1 t1178).bind fun t1179 => ((bits_OnesCount.f (IntKind.u64.wrap (t1179))).bind fun t1180 => (some t1180))) else (none))) else (some (-1)))) = some r := h
 clear h
 obtain ⟨⟨t1174, t1177⟩, A2, H⟩ := zO H
 dsimp only at H
 by_cases c3 : t1177 = true
 ·subst c3
  replace H := (if_pos rfl).symm.trans H
  obtain ⟨t1178, A4, H⟩ := zO H
  by_cases c5 : t1174.length = 344
  ·rw [if_pos c5] at H
   have c5b0 := eq_true c5
   have c5b1 := decide_eq_true c5
   clear c5
   obtain ⟨t1179, A6, H⟩ := zO H
   obtain ⟨t1180, A7, H⟩ := zO H
   obtain rfl := Option.some.inj H
   go_enter Try.func59, Try.ntmps59
   go_wp2_with (first | ((with_reducible refine gate_dst (N := 1) rfl ?_); refine zBx (N := 1) #[.int .i64 a0_0, .string a0_1] 25 ?_; intro gb1173 hg w8 hbox hb; have BK1173 := Aside0.mk (hbox); have GW1173 := zS hg; have GE1173 := zS hg; replace HB := zX hb; clear hb hbox hg; obtain ⟨hcz9_0, hcz9_1, hfz9_0, hfz9_1⟩ := zq2 BK1173.out) | ((with_reducible refine gate_callee (f := 105) rfl ?_); refine zD (some 7) Try.func105 #[.agg #[.int .i64 a0_0, .string a0_1]] ?_; (with_reducible refine (impl_orderOf.calls k a0_0 a0_1 t1174 true _ A2.out).mono ?_); rintro e w10 ⟨v1175, rfl, ho0, hb⟩; refine ⟨_, rfl, ?_⟩; have HO1176 := Aside0.mk (Kd.R_lower ho0 (below_size (zG GE1173.out))); replace BK1173 := zV BK1173.out hb; replace HB := zX1 GE1173.out hb; (try clear hb); (try clear ho0); obtain ⟨hcz11_0, hcz11_1, hfz11_0, hfz11_1⟩ := zq2 BK1173.out) | ((with_reducible refine gate_callee (f := 121) rfl ?_); refine zD (some 15) Try.func121 #[.int .i64 a0_0] ?_; (with_reducible refine (impl_fullSet.calls a0_0 t1178 _ A4.out).mono ?_); rintro e w' ⟨rfl, ⟨nd, rfl⟩⟩; refine ⟨_, rfl, ?_⟩; obtain ⟨go12, co12, eo12, gb12, gl12, cl12, HG12⟩ := Kd.R_form HO1176.out (by have hl_ := Nat.le_of_eq (Eq.symm (zA : t1174.length = 344)); omega); (first | cases eo12 | (injection eo12 with ea_ en_ ec_; (first | subst ea_ | (injection ea_ with ea_; subst ea_)); subst ec_; clear en_)); have GB12 := Aside0.mk gb12; have GG12 := Aside0.mk HG12; clear gb12 gl12 HG12) | ((with_reducible refine gate_callee (f := 122) rfl ?_); refine zD (some 16) Try.func122 #[.pointer (some ⟨go12, 0, none⟩), .int .i64 t1178] ?_; (with_reducible refine (impl_chi_extremeIn.calls k _ t1174 t1178 t1179 _ ?side1 ?side2 A6.out).mono ?_); (case side1 => repeat (first | exact (Kd.R_reads' HO1176.out).2.2 | (with_reducible refine Kd.C_alloc ?_ _) | (with_reducible refine Kd.C_drewN ?_ _) | (with_reducible refine Kd.C_drew ?_))); (case side2 => exact (zA : t1174.length = 344)); rintro e w13 ⟨rfl, hb⟩; refine ⟨_, rfl, ?_⟩; replace HO1176 := zW HO1176.out hb; replace BK1173 := zV BK1173.out hb; replace HB := zX1 GE1173.out hb; (try clear hb)) | ((with_reducible refine gate_callee (f := 135) rfl ?_); refine zD (some 18) Try.func135 #[.int .u64 (IntKind.u64.wrap (t1179))] ?_; (with_reducible refine (bits_OnesCount.calls (IntKind.u64.wrap (t1179)) t1180 _ A7.out).mono ?_); rintro e w' ⟨rfl, ⟨nd, rfl⟩⟩; refine ⟨_, rfl, ?_⟩))
   go_ret
   exact ⟨zE, zG GE1173.out⟩
  rw [if_neg c5] at H
  exact absurd H (by simp)
 replace c3 := Bool.eq_false_iff.mpr c3
 subst c3
 replace H := (if_neg zFf).symm.trans H
 obtain rfl := Option.some.inj H
 go_enter Try.func59, Try.ntmps59
 go_wp2_with (first | ((with_reducible refine gate_dst (N := 1) rfl ?_); refine zBx (N := 1) #[.int .i64 a0_0, .string a0_1] 25 ?_; intro gb1173 hg w14 hbox hb; have BK1173 := Aside0.mk (hbox); have GW1173 := zS hg; have GE1173 := zS hg; replace HB := zX hb; clear hb hbox hg; obtain ⟨hcz15_0, hcz15_1, hfz15_0, hfz15_1⟩ := zq2 BK1173.out) | ((with_reducible refine gate_callee (f := 105) rfl ?_); refine zD (some 7) Try.func105 #[.agg #[.int .i64 a0_0, .string a0_1]] ?_; (with_reducible refine (impl_orderOf.calls k a0_0 a0_1 t1174 false _ A2.out).mono ?_); rintro e w16 ⟨v1175, rfl, ho0, hb⟩; refine ⟨_, rfl, ?_⟩; have HO1176 := Aside0.mk (Kd.R_lower ho0 (below_size (zG GE1173.out))); replace BK1173 := zV BK1173.out hb; replace HB := zX1 GE1173.out hb; (try clear hb); (try clear ho0)))
 go_ret
 exact ⟨zE, zG GE1173.out⟩
/-! ### spec_HullSize: function 60 -/
def spec_HullSize.f (k : Nat) (a0_0 : Int) (a0_1 : ByteArray) : Option (Int) := (spec_IsAcyclic.f k a0_0 a0_1).bind fun t1182 => (if t1182 = true then (if 0 ≤ (IntKind.u64.wrap (a0_0)) then ((spec_l6Extreme.f k a0_0 a0_1 (wrap64 ((shl .i64 1 (IntKind.u64.wrap (a0_0))) - 1))).bind fun t1183 => ((spec_l6List.f k t1183).bind fun t1184 => (some (t1184.length : Int)))) else (none)) else (some (-1)))
set_option maxHeartbeats 8000000 in
set_option maxRecDepth 100000 in
theorem spec_HullSize.calls (k : Nat) (a0_0 : Int) (a0_1 : ByteArray) (r : Int) (w : World) (h : spec_HullSize.f k a0_0 a0_1 = some r) :
  Calls Try.prog 60 #[.agg #[.int .i64 a0_0, .string a0_1]] w fun e w' => e = .returned (.int .i64 r) ∧ Below w.heap.size w w' := by
 have hu25 := Try.underlying25
 have HB := Aside0.mk (Below.refl w.heap.size w)
 have H : ((spec_IsAcyclic.f k a0_0 a0_1).bind fun t1182 => (if t1182 = true then (if 0 ≤ (IntKind.u64.wrap (a0_0)) then ((spec_l6Extreme.f k a0_0 a0_1 (wrap64 ((shl .i64 1 (IntKind.u64.wrap (a0_0))) - 1))).bind fun t1183 => ((spec_l6List.f k t1183).bind fun t1184 => (some (t1184.length : Int)))) else (none)) else (some (-1)))) = some r := h
 clear h
 obtain ⟨t1182, A2, H⟩ := zO H
 by_cases c3 : t1182 = true
 ·subst c3
  replace H := (if_pos rfl).symm.trans H
  obtain ⟨ji4, hji4⟩ : ∃ j_ : Int, (IntKind.u64.wrap (a0_0)) = j_ := ⟨_, rfl⟩
  replace H : (if 0 ≤ (ji4) then ((spec_l6Extreme.f k a0_0 a0_1 (wrap64 ((shl .i64 1 (ji4)) - 1))).bind fun t1183 => ((spec_l6List.f k t1183).bind fun t1184 => (some (t1184.length : Int)))) else (none)) = some r := by first | (rw [hji4] at H; exact H) | (simp only [hji4] at H ⊢; exact H)
  (try rw [hji4] at A2)
  by_cases c5 : 0 ≤ (ji4)
  ·rw [if_pos c5] at H
   have c5b0 := eq_true c5
   have c5b1 := decide_eq_true c5
   clear c5
   obtain ⟨ji6, hji6⟩ : ∃ j_ : Int, (shl .i64 1 (ji4)) = j_ := ⟨_, rfl⟩
   replace H : ((spec_l6Extreme.f k a0_0 a0_1 (wrap64 ((ji6) - 1))).bind fun t1183 => ((spec_l6List.f k t1183).bind fun t1184 => (some (t1184.length : Int)))) = some r := by first | (rw [hji6] at H; exact H) | (simp only [hji6] at H ⊢; exact H)
   (try rw [hji6] at A2)
   have hji6_ : (IntKind.i64.wrap (1 * 2 ^ min (ji4).toNat 64)) = ji6 := hji6
   have hji6z : (ji4) ≤ 64 → (IntKind.i64.wrap (1 * 2 ^ (ji4).toNat)) = ji6 := shl_small hji6
   have hji6u : (IntKind.i64.wrap (2 ^ min (ji4).toNat 64)) = ji6 := by have h_ := hji6_; rw [Int.one_mul] at h_; exact h_
   have hji6v : (ji4) ≤ 64 → (IntKind.i64.wrap (2 ^ (ji4).toNat)) = ji6 := fun hle_ => by have h_ := hji6z hle_; rw [Int.one_mul] at h_; exact h_
   have hji6y : (wrap64 (1 * 2 ^ min (ji4).toNat 64)) = ji6 := (i64_w _).symm.trans hji6_
   have hji6x : (ji4) ≤ 64 → (wrap64 (1 * 2 ^ (ji4).toNat)) = ji6 := fun h_ => (i64_w _).symm.trans (hji6z h_)
   obtain ⟨t1183, A7, H⟩ := zO H
   obtain ⟨t1184, A8, H⟩ := zO H
   obtain rfl := Option.some.inj H
   go_enter Try.func60, Try.ntmps60
   go_wp2_with (first | ((with_reducible refine gate_dst (N := 1) rfl ?_); refine zBx (N := 1) #[.int .i64 a0_0, .string a0_1] 25 ?_; intro gb1181 hg w9 hbox hb; have BK1181 := Aside0.mk (hbox); have GW1181 := zS hg; have GE1181 := zS hg; replace HB := zX hb; clear hb hbox hg; obtain ⟨hcz10_0, hcz10_1, hfz10_0, hfz10_1⟩ := zq2 BK1181.out) | ((with_reducible refine gate_callee (f := 24) rfl ?_); refine zD (some 4) Try.func24 #[.agg #[.int .i64 a0_0, .string a0_1]] ?_; (with_reducible refine (spec_IsAcyclic.calls k a0_0 a0_1 true _ A2.out).mono ?_); rintro e w11 ⟨rfl, hb⟩; refine ⟨_, rfl, ?_⟩; replace BK1181 := zV BK1181.out hb; replace HB := zX1 GE1181.out hb; (try clear hb); obtain ⟨hcz12_0, hcz12_1, hfz12_0, hfz12_1⟩ := zq2 BK1181.out) | ((with_reducible refine gate_callee (f := 128) rfl ?_); refine goesL_ (some 12) rfl rfl Try.func128 (by kernel_rfl) rfl #[.agg #[.int .i64 a0_0, .string a0_1], .int .i64 (wrap64 ((ji6) - 1))] rfl (by (try simp only [List.map_toArray, List.map_cons, List.map_nil]); first | done | (simp only [hji6]; rfl) | rfl | (simp only [List.length_drop, List.length_take]; rfl)) ?_; (with_reducible refine (spec_l6Extreme.calls k a0_0 a0_1 (wrap64 ((ji6) - 1)) t1183 _ A7.out).mono ?_); rintro e w13 ⟨rfl, hb⟩; refine ⟨_, rfl, ?_⟩; replace BK1181 := zV BK1181.out hb; replace HB := zX1 GE1181.out hb; (try clear hb)) | ((with_reducible refine gate_callee (f := 131) rfl ?_); refine zD (some 13) Try.func131 #[.int .i64 t1183] ?_; (with_reducible refine (spec_l6List.calls k t1183 t1184 _ A8.out).mono ?_); rintro e w14 ⟨v1185, rfl, ho0, hb⟩; refine ⟨_, rfl, ?_⟩; have HO1186 := Aside0.mk (Kd.R_lower ho0 (below_size (zG GE1181.out))); replace BK1181 := zV BK1181.out hb; replace HB := zX1 GE1181.out hb; (try clear hb); (try clear ho0); obtain ⟨Ao15, co15, eo15⟩ := Kd.R_slice HO1186.out; subst eo15))
   go_ret
   exact ⟨by first | rfl | (simp [errW_none, errW_some] <;> rfl) | (simp only [← hji4, ← hji6]; first | rfl | (simp [errW_none, errW_some] <;> rfl)) | (simp [*, errW_none, errW_some] <;> rfl), zG GE1181.out⟩
  rw [if_neg c5] at H
  exact absurd H (by simp)
 replace c3 := Bool.eq_false_iff.mpr c3
 subst c3
 replace H := (if_neg zFf).symm.trans H
 obtain rfl := Option.some.inj H
 go_enter Try.func60, Try.ntmps60
 go_wp2_with (first | ((with_reducible refine gate_dst (N := 1) rfl ?_); refine zBx (N := 1) #[.int .i64 a0_0, .string a0_1] 25 ?_; intro gb1181 hg w16 hbox hb; have BK1181 := Aside0.mk (hbox); have GW1181 := zS hg; have GE1181 := zS hg; replace HB := zX hb; clear hb hbox hg; obtain ⟨hcz17_0, hcz17_1, hfz17_0, hfz17_1⟩ := zq2 BK1181.out) | ((with_reducible refine gate_callee (f := 24) rfl ?_); refine zD (some 4) Try.func24 #[.agg #[.int .i64 a0_0, .string a0_1]] ?_; (with_reducible refine (spec_IsAcyclic.calls k a0_0 a0_1 false _ A2.out).mono ?_); rintro e w18 ⟨rfl, hb⟩; refine ⟨_, rfl, ?_⟩; replace BK1181 := zV BK1181.out hb; replace HB := zX1 GE1181.out hb; (try clear hb)))
 go_ret
 exact ⟨zE, zG GE1181.out⟩
/-! ### impl_IsConvex: function 61 -/
def impl_IsConvex.f (k : Nat) (a0_0 : Int) (a0_1 : ByteArray) : Option (Bool) := (impl_HullSize.f k a0_0 a0_1).bind fun t1188 => (if t1188 = a0_0 then (some (decide (a0_0 > 0))) else (some false))
def impl_IsConvex.T1 : Bool × List (List Nat × List Nat) := (true, [([], []), ([0], [0]), ([], []), ([2], [2]), ([1, 3], [1, 3]), ([4, 1], [4]), ([5], [5]), ([6, 5], [5, 6]), ([7, 5], [5, 7]), ([5, 8], [5, 8]), ([9, 5, 0, 1, 2, 3, 4, 5, 6, 7, 8, 9], [9])])
def impl_IsConvex.B1 : List Nat := [0, 1, 0, 4, 15, 31, 63, 127, 255, 511, 1023]
theorem impl_IsConvex.tab1 : rtab .any (opsOf Try.f61 1) = impl_IsConvex.T1 := by kernel_rfl
theorem impl_IsConvex.bits1 : waitsOk impl_IsConvex.T1.2 impl_IsConvex.B1 = true := by kernel_rfl
set_option maxHeartbeats 8000000 in
set_option maxRecDepth 100000 in
theorem impl_IsConvex.calls (k : Nat) (a0_0 : Int) (a0_1 : ByteArray) (r : Bool) (w : World) (h : impl_IsConvex.f k a0_0 a0_1 = some r) :
  Calls Try.prog 61 #[.agg #[.int .i64 a0_0, .string a0_1]] w fun e w' => e = .returned (.bool r) ∧ Below w.heap.size w w' := by
 have hu25 := Try.underlying25
 have HB := Aside0.mk (Below.refl w.heap.size w)
 have H : ((impl_HullSize.f k a0_0 a0_1).bind fun t1188 => (if t1188 = a0_0 then (some (decide (a0_0 > 0))) else (some false))) = some r := h
 clear h
 obtain ⟨t1188, A2, H⟩ := zO H
 by_cases c3 : t1188 = a0_0
 ·rw [if_pos c3] at H
  have c3b0 := beq_iff_eq.mpr c3
  have c3b1 := bne_eq_false_iff_eq.mpr c3
  clear c3
  obtain rfl := Option.some.inj H
  go_enter Try.func61, Try.ntmps61
  try go_wp2_with (first | ((with_reducible refine gate_dst (N := 1) rfl ?_); refine zBx (N := 1) #[.int .i64 a0_0, .string a0_1] 25 ?_; intro gb1187 hg w4 hbox hb; have BK1187 := Aside0.mk (hbox); have GW1187 := zS hg; have GE1187 := zS hg; replace HB := zX hb; clear hb hbox hg))
  replace BK1187 := Aside0.mk (blk_drew BK1187.out)
  replace HB := Aside0.mk (below_drew1 HB.out)
  refine start_ (n := 11) (S := fun w' => w'.cell? ⟨gb1187, 0, none⟩ = some (.int .i64 a0_0) ∧ w'.cell? ⟨gb1187, 1, none⟩ = some (.string a0_1)) (ds := []) #[false, false, false, false, false, false, false, false, false, false, false] (by kernel_rfl) rfl rfl ⟨(blk_cell BK1187.out 0).trans rfl, (blk_cell BK1187.out 1).trans rfl⟩ (fun hHeld => ?_); refine with_tabW impl_IsConvex.tab1 impl_IsConvex.bits1 (fun HT_ HW_ => ?_)
  generalize w4.drew = w5 at BK1187 HB hHeld ⊢
  refine zP 2 (some 5) rfl rfl ?_
  refine zY2 0 (some 3) rfl rfl hHeld ?_
  refine zY2 3 (some 6) rfl rfl hHeld ?_
  refine zU 1 (some 4) rfl rfl (fun K hK => ?_)
  refine goes_ Try.func59 (by kernel_rfl) rfl #[.agg #[.int .i64 a0_0, .string a0_1]] (by rfl) rfl rfl zM ?_
  with_reducible refine (impl_HullSize.calls k a0_0 a0_1 t1188 _ A2.out).mono ?_
  rintro e w6 ⟨rfl, hb⟩
  refine ⟨_, rfl, ?_⟩
  replace BK1187 := zV BK1187.out hb
  replace HB := zX1 GE1187.out hb
  (try clear hb)
  refine hK.out _ _ (zh2 BK1187.out) (fun hHeld => ?_)
  clear hK K
  refine zN ?_
  refine zP 4 (some 7) rfl rfl ?_
  refine zP 5 (some 8) rfl rfl ?_
  refine zP 6 (some 9) rfl rfl ?_
  refine zY2 7 (some 10) rfl rfl hHeld ?_
  refine zP 8 (some 11) rfl rfl ?_
  refine zP 9 (some 12) rfl rfl ?_
  refine zP 10 (some 2) rfl rfl ?_
  refine done_ (done_of HT_.out (by kernel_rfl)) ?_
  try go_wp2
  go_ret
  exact ⟨zE, zG GE1187.out⟩
 rw [if_neg c3] at H
 have c3b0 := beq_eq_false_iff_ne.mpr c3
 have c3b1 := bne_iff_ne.mpr c3
 obtain rfl := Option.some.inj H
 go_enter Try.func61, Try.ntmps61
 try go_wp2_with (first | ((with_reducible refine gate_dst (N := 1) rfl ?_); refine zBx (N := 1) #[.int .i64 a0_0, .string a0_1] 25 ?_; intro gb1187 hg w7 hbox hb; have BK1187 := Aside0.mk (hbox); have GW1187 := zS hg; have GE1187 := zS hg; replace HB := zX hb; clear hb hbox hg))
 replace BK1187 := Aside0.mk (blk_drew BK1187.out)
 replace HB := Aside0.mk (below_drew1 HB.out)
 refine start_ (n := 11) (S := fun w' => w'.cell? ⟨gb1187, 0, none⟩ = some (.int .i64 a0_0) ∧ w'.cell? ⟨gb1187, 1, none⟩ = some (.string a0_1)) (ds := []) #[false, false, false, false, false, false, false, false, false, false, false] (by kernel_rfl) rfl rfl ⟨(blk_cell BK1187.out 0).trans rfl, (blk_cell BK1187.out 1).trans rfl⟩ (fun hHeld => ?_); refine with_tabW impl_IsConvex.tab1 impl_IsConvex.bits1 (fun HT_ HW_ => ?_)
 generalize w7.drew = w8 at BK1187 HB hHeld ⊢
 refine zP 2 (some 5) rfl rfl ?_
 refine zY2 0 (some 3) rfl rfl hHeld ?_
 refine zY2 3 (some 6) rfl rfl hHeld ?_
 refine zU 1 (some 4) rfl rfl (fun K hK => ?_)
 refine goes_ Try.func59 (by kernel_rfl) rfl #[.agg #[.int .i64 a0_0, .string a0_1]] (by rfl) rfl rfl zM ?_
 with_reducible refine (impl_HullSize.calls k a0_0 a0_1 t1188 _ A2.out).mono ?_
 rintro e w9 ⟨rfl, hb⟩
 refine ⟨_, rfl, ?_⟩
 replace BK1187 := zV BK1187.out hb
 replace HB := zX1 GE1187.out hb
 (try clear hb)
 refine hK.out _ _ (zh2 BK1187.out) (fun hHeld => ?_)
 clear hK K
 refine zN ?_
 refine zP 4 (some 7) rfl rfl ?_
 refine zP 5 (some 8) rfl rfl ?_
 refine pure_ (i := 6) (N := some 9) (v := undef) (a' := ?_) #[true, true, true, true, true, true, true, false, false, false, false] rfl rfl (any_of HT_.out (by kernel_rfl)) (fun _ _ _ h => h) (Or.inr ⟨by rfl, rfl⟩) ?_ ?_
 rotate_left
 ·simp only [Act.put, List.setIfInBounds_toArray, List.set_cons_zero, List.set_cons_succ, i64_w, i32_w]
  rfl
 refine pure_ (i := 7) (N := some 10) (v := undef) (a' := ?_) #[true, true, true, true, true, true, true, true, false, false, false] rfl rfl (any_of HT_.out (by kernel_rfl)) (fun _ _ _ h => h) (Or.inr ⟨by rfl, rfl⟩) ?_ ?_
 rotate_left
 ·simp only [Act.put, List.setIfInBounds_toArray, List.set_cons_zero, List.set_cons_succ, i64_w, i32_w]
  rfl
 refine pure_ (i := 8) (N := some 11) (v := undef) (a' := ?_) #[true, true, true, true, true, true, true, true, true, false, false] rfl rfl (any_of HT_.out (by kernel_rfl)) (fun _ _ _ h => h) (Or.inr ⟨by rfl, rfl⟩) ?_ ?_
 rotate_left
 ·simp only [Act.put, List.setIfInBounds_toArray, List.set_cons_zero, List.set_cons_succ, i64_w, i32_w]
  rfl
 refine zP 9 (some 12) rfl rfl ?_
 refine zP 10 (some 2) rfl rfl ?_
 refine done_ (done_of HT_.out (by kernel_rfl)) ?_
 try go_wp2
 go_ret
 exact ⟨zE, zG GE1187.out⟩
/-! ### spec_IsConvex: function 62 -/
def spec_IsConvex.f (k : Nat) (a0_0 : Int) (a0_1 : ByteArray) : Option (Bool) := (spec_IsAcyclic.f k a0_0 a0_1).bind fun t1190 => (if t1190 = true then ((spec_HullSize.f k a0_0 a0_1).bind fun t1191 => (some (t1191 == a0_0))) else (some false))
def spec_IsConvex.T1 : Bool × List (List Nat × List Nat) := (true, [([], []), ([0], [0]), ([1, 1], [1]), ([2], [2]), ([3, 2, 2], [2, 3]), ([2], [2]), ([5, 2], [2, 5]), ([4, 6, 2], [2, 4, 6]), ([2, 7], [2, 7]), ([8, 4, 0, 1, 2, 3, 4, 5, 6, 7, 8], [8])])
def spec_IsConvex.B1 : List Nat := [0, 1, 3, 7, 15, 7, 39, 127, 255, 511]
theorem spec_IsConvex.tab1 : rtab .any (opsOf Try.f62 1) = spec_IsConvex.T1 := by kernel_rfl
theorem spec_IsConvex.bits1 : waitsOk spec_IsConvex.T1.2 spec_IsConvex.B1 = true := by kernel_rfl
set_option maxHeartbeats 8000000 in
set_option maxRecDepth 100000 in
theorem spec_IsConvex.calls (k : Nat) (a0_0 : Int) (a0_1 : ByteArray) (r : Bool) (w : World) (h : spec_IsConvex.f k a0_0 a0_1 = some r) :
  Calls Try.prog 62 #[.agg #[.int .i64 a0_0, .string a0_1]] w fun e w' => e = .returned (.bool r) ∧ Below w.heap.size w w' := by
 have hu25 := Try.underlying25
 have HB := Aside0.mk (Below.refl w.heap.size w)
 have H : ((spec_IsAcyclic.f k a0_0 a0_1).bind fun t1190 => (if t1190 = true then ((spec_HullSize.f k a0_0 a0_1).bind fun t1191 => (some (t1191 == a0_0))) else (some false))) = some r := h
 clear h
 obtain ⟨t1190, A2, H⟩ := zO H
 by_cases c3 : t1190 = true
 ·subst c3
  replace H := (if_pos rfl).symm.trans H
  obtain ⟨t1191, A4, H⟩ := zO H
  obtain rfl := Option.some.inj H
  go_enter Try.func62, Try.ntmps62
  try go_wp2_with (first | ((with_reducible refine gate_dst (N := 1) rfl ?_); refine zBx (N := 1) #[.int .i64 a0_0, .string a0_1] 25 ?_; intro gb1189 hg w5 hbox hb; have BK1189 := Aside0.mk (hbox); have GW1189 := zS hg; have GE1189 := zS hg; replace HB := zX hb; clear hb hbox hg))
  replace BK1189 := Aside0.mk (blk_drew BK1189.out)
  replace HB := Aside0.mk (below_drew1 HB.out)
  refine start_ (n := 10) (S := fun w' => w'.cell? ⟨gb1189, 0, none⟩ = some (.int .i64 a0_0) ∧ w'.cell? ⟨gb1189, 1, none⟩ = some (.string a0_1)) (ds := []) #[false, false, false, false, false, false, false, false, false, false] (by kernel_rfl) rfl rfl ⟨(blk_cell BK1189.out 0).trans rfl, (blk_cell BK1189.out 1).trans rfl⟩ (fun hHeld => ?_); refine with_tabW spec_IsConvex.tab1 spec_IsConvex.bits1 (fun HT_ HW_ => ?_)
  generalize w5.drew = w6 at BK1189 HB hHeld ⊢
  refine zY2 0 (some 3) rfl rfl hHeld ?_
  refine zU 1 (some 4) rfl rfl (fun K hK => ?_)
  refine goes_ Try.func24 (by kernel_rfl) rfl #[.agg #[.int .i64 a0_0, .string a0_1]] (by rfl) rfl rfl zM ?_
  with_reducible refine (spec_IsAcyclic.calls k a0_0 a0_1 true _ A2.out).mono ?_
  rintro e w7 ⟨rfl, hb⟩
  refine ⟨_, rfl, ?_⟩
  replace BK1189 := zV BK1189.out hb
  replace HB := zX1 GE1189.out hb
  (try clear hb)
  refine hK.out _ _ (zh2 BK1189.out) (fun hHeld => ?_)
  clear hK K
  refine zN ?_
  refine zP 2 (some 5) rfl rfl ?_
  refine zP 5 (some 8) rfl rfl ?_
  refine zY2 3 (some 6) rfl rfl hHeld ?_
  refine zY2 6 (some 9) rfl rfl hHeld ?_
  refine zU 4 (some 7) rfl rfl (fun K hK => ?_)
  refine goes_ Try.func60 (by kernel_rfl) rfl #[.agg #[.int .i64 a0_0, .string a0_1]] (by rfl) rfl rfl zM ?_
  with_reducible refine (spec_HullSize.calls k a0_0 a0_1 t1191 _ A4.out).mono ?_
  rintro e w8 ⟨rfl, hb⟩
  refine ⟨_, rfl, ?_⟩
  replace BK1189 := zV BK1189.out hb
  replace HB := zX1 GE1189.out hb
  (try clear hb)
  refine hK.out _ _ (zh2 BK1189.out) (fun hHeld => ?_)
  clear hK K
  refine zN ?_
  refine zP 7 (some 10) rfl rfl ?_
  refine zP 8 (some 11) rfl rfl ?_
  refine zP 9 (some 2) rfl rfl ?_
  refine done_ (done_of HT_.out (by kernel_rfl)) ?_
  try go_wp2
  go_ret
  exact ⟨zE, zG GE1189.out⟩
 replace c3 := Bool.eq_false_iff.mpr c3
 subst c3
 replace H := (if_neg zFf).symm.trans H
 obtain rfl := Option.some.inj H
 go_enter Try.func62, Try.ntmps62
 try go_wp2_with (first | ((with_reducible refine gate_dst (N := 1) rfl ?_); refine zBx (N := 1) #[.int .i64 a0_0, .string a0_1] 25 ?_; intro gb1189 hg w9 hbox hb; have BK1189 := Aside0.mk (hbox); have GW1189 := zS hg; have GE1189 := zS hg; replace HB := zX hb; clear hb hbox hg))
 replace BK1189 := Aside0.mk (blk_drew BK1189.out)
 replace HB := Aside0.mk (below_drew1 HB.out)
 refine start_ (n := 10) (S := fun w' => w'.cell? ⟨gb1189, 0, none⟩ = some (.int .i64 a0_0) ∧ w'.cell? ⟨gb1189, 1, none⟩ = some (.string a0_1)) (ds := []) #[false, false, false, false, false, false, false, false, false, false] (by kernel_rfl) rfl rfl ⟨(blk_cell BK1189.out 0).trans rfl, (blk_cell BK1189.out 1).trans rfl⟩ (fun hHeld => ?_); refine with_tabW spec_IsConvex.tab1 spec_IsConvex.bits1 (fun HT_ HW_ => ?_)
 generalize w9.drew = w10 at BK1189 HB hHeld ⊢
 refine zY2 0 (some 3) rfl rfl hHeld ?_
 refine zU 1 (some 4) rfl rfl (fun K hK => ?_)
 refine goes_ Try.func24 (by kernel_rfl) rfl #[.agg #[.int .i64 a0_0, .string a0_1]] (by rfl) rfl rfl zM ?_
 with_reducible refine (spec_IsAcyclic.calls k a0_0 a0_1 false _ A2.out).mono ?_
 rintro e w11 ⟨rfl, hb⟩
 refine ⟨_, rfl, ?_⟩
 replace BK1189 := zV BK1189.out hb
 replace HB := zX1 GE1189.out hb
 (try clear hb)
 refine hK.out _ _ (zh2 BK1189.out) (fun hHeld => ?_)
 clear hK K
 refine zN ?_
 refine zP 2 (some 5) rfl rfl ?_
 refine pure_ (i := 3) (N := some 6) (v := undef) (a' := ?_) #[true, true, true, true, false, false, false, false, false, false] rfl rfl (any_of HT_.out (by kernel_rfl)) (fun _ _ _ h => h) (Or.inr ⟨by rfl, rfl⟩) ?_ ?_
 rotate_left
 ·simp only [Act.put, List.setIfInBounds_toArray, List.set_cons_zero, List.set_cons_succ, i64_w, i32_w]
  rfl
 refine pure_ (i := 4) (N := some 7) (v := undef) (a' := ?_) #[true, true, true, true, true, false, false, false, false, false] rfl rfl (any_of HT_.out (by kernel_rfl)) (fun _ _ _ h => h) (Or.inr ⟨by rfl, rfl⟩) ?_ ?_
 rotate_left
 ·simp only [Act.put, List.setIfInBounds_toArray, List.set_cons_zero, List.set_cons_succ, i64_w, i32_w]
  rfl
 refine pure_ (i := 5) (N := some 8) (v := undef) (a' := ?_) #[true, true, true, true, true, true, false, false, false, false] rfl rfl (any_of HT_.out (by kernel_rfl)) (fun _ _ _ h => h) (Or.inr ⟨by rfl, rfl⟩) ?_ ?_
 rotate_left
 ·simp only [Act.put, List.setIfInBounds_toArray, List.set_cons_zero, List.set_cons_succ, i64_w, i32_w]
  rfl
 refine pure_ (i := 6) (N := some 9) (v := undef) (a' := ?_) #[true, true, true, true, true, true, true, false, false, false] rfl rfl (any_of HT_.out (by kernel_rfl)) (fun _ _ _ h => h) (Or.inr ⟨by rfl, rfl⟩) ?_ ?_
 rotate_left
 ·simp only [Act.put, List.setIfInBounds_toArray, List.set_cons_zero, List.set_cons_succ, i64_w, i32_w]
  rfl
 refine pure_ (i := 7) (N := some 10) (v := undef) (a' := ?_) #[true, true, true, true, true, true, true, true, false, false] rfl rfl (any_of HT_.out (by kernel_rfl)) (fun _ _ _ h => h) (Or.inr ⟨by rfl, rfl⟩) ?_ ?_
 rotate_left
 ·simp only [Act.put, List.setIfInBounds_toArray, List.set_cons_zero, List.set_cons_succ, i64_w, i32_w]
  rfl
 refine zP 8 (some 11) rfl rfl ?_
 refine zP 9 (some 2) rfl rfl ?_
 refine done_ (done_of HT_.out (by kernel_rfl)) ?_
 try go_wp2
 go_ret
 exact ⟨zE, zG GE1189.out⟩
/-! ### spec_l7Left: function 136 -/
def spec_l7Left.l0 : Nat → Int → Int → Int → Int → Int → ByteArray → Option (Int)
 | 0, _, _, _, _, _, _ => none
 | k + 1, x1, x2, x7, x8, x1193000, x1193001 => if x8 < x1193000 then (if x8 = x1 then ((spec_l1Bit.f false).bind fun t1193 => (spec_l7Left.l0 k x1 x2 (wrap64 (x7 + t1193)) (wrap64 (x8 + 1)) x1193000 x1193001)) else (if x8 = x2 then ((spec_l1Bit.f false).bind fun t1194 => (spec_l7Left.l0 k x1 x2 (wrap64 (x7 + t1194)) (wrap64 (x8 + 1)) x1193000 x1193001)) else ((spec_l3At.f k x1193000 x1193001 x1 x2 x8).bind fun t1195 => ((spec_l1Bit.f (decide (t1195 > 0))).bind fun t1196 => (spec_l7Left.l0 k x1 x2 (wrap64 (x7 + t1196)) (wrap64 (x8 + 1)) x1193000 x1193001))))) else (some x7)
def spec_l7Left.f (k : Nat) (a0_0 : Int) (a0_1 : ByteArray) (a1 : Int) (a2 : Int) : Option (Int) := spec_l7Left.l0 k a1 a2 0 0 a0_0 a0_1
set_option maxHeartbeats 8000000 in
set_option maxRecDepth 100000 in
theorem spec_l7Left.calls (k : Nat) (a0_0 : Int) (a0_1 : ByteArray) (a1 : Int) (a2 : Int) (r : Int) (w : World) (h : spec_l7Left.f k a0_0 a0_1 a1 a2 = some r) :
  Calls Try.prog 136 #[.agg #[.int .i64 a0_0, .string a0_1], .int .i64 a1, .int .i64 a2] w fun e w' => e = .returned (.int .i64 r) ∧ Below w.heap.size w w' := by
 have hu25 := Try.underlying25
 have HB := Aside0.mk (Below.refl w.heap.size w)
 have H : (spec_l7Left.l0 k a1 a2 0 0 a0_0 a0_1) = some r := h
 clear h
 have H' := Aside0.mk H; clear H
 go_enter Try.func136, Try.ntmps136
 go_wp2_with (first | ((with_reducible refine gate_dst (N := 3) rfl ?_); refine zBx (N := 3) #[.int .i64 a0_0, .string a0_1] 25 ?_; intro gb1192 hg w4 hbox hb; have BK1192 := Aside0.mk (hbox); have GW1192 := zS hg; have GE1192 := zS hg; replace HB := zX hb; clear hb hbox hg))
 go_loopg [7, 8] k (fun kq v7 v8 w' => ∃ (x7_1 : Int) (x8_1 : Int), v7 = .int .i64 x7_1 ∧ v8 = .int .i64 x8_1 ∧ Aside0 (spec_l7Left.l0 kq a1 a2 x7_1 x8_1 a0_0 a0_1 = some r) ∧ Aside0 (kq ≤ k) ∧ Aside0 (w'.heap[gb1192]? = some (.cells #[.int .i64 a0_0, .string a0_1] 25 (0, 0))) ∧ Aside0 (Below w.heap.size w w'))
 case atStart => exact ⟨(0), (0), zF, zF, H', ⟨Nat.le_refl _⟩, ⟨zK BK1192.out⟩, ⟨zG GE1192.out⟩⟩
 case round =>
 clear H'
 obtain ⟨x7_1, x8_1, rfl, rfl, HA, HK1, BK1192, HB⟩ := hrel
 cases gk with
 | zero => exact absurd HA.out (by simp [spec_l7Left.l0])
 | succ k1 =>
 have H := HA.out
 clear HA
 simp only [spec_l7Left.l0] at H
 by_cases c5 : x8_1 < a0_0
 ·rw [if_pos c5] at H
  have c5b0 := decide_eq_true c5
  clear c5
  by_cases c6 : x8_1 = a1
  ·rw [if_pos c6] at H
   have c6b0 := beq_iff_eq.mpr c6
   have c6b1 := bne_eq_false_iff_eq.mpr c6
   clear c6
   obtain ⟨t1193, A7, H⟩ := zO H
   have H' := Aside0.mk H; clear H
   obtain ⟨hcz8_0, hcz8_1, hfz8_0, hfz8_1⟩ := zq2 BK1192.out
   go_wp2_with (first | ((with_reducible refine gate_callee (f := 119) rfl ?_); refine zD (some 32) Try.func119 #[.bool false] ?_; (with_reducible refine (spec_l1Bit.calls false t1193 _ A7.out).mono ?_); rintro e w' ⟨rfl, ⟨nd, rfl⟩⟩; refine ⟨_, rfl, ?_⟩))
   go_roundg k1
   case measure => have := HK1.out; omega
   case rel => exact ⟨(wrap64 (x7_1 + t1193)), (wrap64 (x8_1 + 1)), zF, zF, H', ⟨by have := HK1.out; omega⟩, ⟨zK BK1192.out⟩, ⟨zG GE1192.out⟩⟩
  rw [if_neg c6] at H
  have c6b0 := beq_eq_false_iff_ne.mpr c6
  have c6b1 := bne_iff_ne.mpr c6
  by_cases c9 : x8_1 = a2
  ·rw [if_pos c9] at H
   have c9b0 := beq_iff_eq.mpr c9
   have c9b1 := bne_eq_false_iff_eq.mpr c9
   clear c9
   obtain ⟨t1194, A10, H⟩ := zO H
   have H' := Aside0.mk H; clear H
   obtain ⟨hcz11_0, hcz11_1, hfz11_0, hfz11_1⟩ := zq2 BK1192.out
   go_wp2_with (first | ((with_reducible refine gate_callee (f := 119) rfl ?_); refine zD (some 32) Try.func119 #[.bool false] ?_; (with_reducible refine (spec_l1Bit.calls false t1194 _ A10.out).mono ?_); rintro e w' ⟨rfl, ⟨nd, rfl⟩⟩; refine ⟨_, rfl, ?_⟩))
   go_roundg k1
   case measure => have := HK1.out; omega
   case rel => exact ⟨(wrap64 (x7_1 + t1194)), (wrap64 (x8_1 + 1)), zF, zF, H', ⟨by have := HK1.out; omega⟩, ⟨zK BK1192.out⟩, ⟨zG GE1192.out⟩⟩
  rw [if_neg c9] at H
  have c9b0 := beq_eq_false_iff_ne.mpr c9
  have c9b1 := bne_iff_ne.mpr c9
  obtain ⟨t1195, A12, H⟩ := zO H
  obtain ⟨t1196, A13, H⟩ := zO H
  have H' := Aside0.mk H; clear H
  obtain ⟨hcz14_0, hcz14_1, hfz14_0, hfz14_1⟩ := zq2 BK1192.out
  go_wp2_with (first | (go_at_call 144; (with_reducible refine (spec_l3At.calls k1 a0_0 a0_1 a1 a2 x8_1 t1195 _ A12.out).mono ?_); rintro e w15 ⟨rfl, hb⟩; replace BK1192 := zV BK1192.out hb; replace HB := zX1 GE1192.out hb; (try clear hb); (try clear hb2); (try clear hk); (try clear hi)) | ((with_reducible refine gate_callee (f := 119) rfl ?_); refine zD (some 32) Try.func119 #[.bool (decide (t1195 > 0))] ?_; (with_reducible refine (spec_l1Bit.calls (decide (t1195 > 0)) t1196 _ A13.out).mono ?_); rintro e w' ⟨rfl, ⟨nd, rfl⟩⟩; refine ⟨_, rfl, ?_⟩))
  go_roundg k1
  case measure => have := HK1.out; omega
  case rel => exact ⟨(wrap64 (x7_1 + t1196)), (wrap64 (x8_1 + 1)), zF, zF, H', ⟨by have := HK1.out; omega⟩, ⟨zK BK1192.out⟩, ⟨zG GE1192.out⟩⟩
 rw [if_neg c5] at H
 have c5b0 := decide_eq_false c5
 clear c5
 obtain rfl := Option.some.inj H
 obtain ⟨hcz16_0, hcz16_1, hfz16_0, hfz16_1⟩ := zq2 BK1192.out
 go_wp2
 go_ret
 exact ⟨zE, zG GE1192.out⟩
/-! ### spec_l5Different: function 107 -/
mutual
def spec_l5Different.l0 : Nat → Int → List Int → Int → Option (Bool)
 | 0, _, _, _ => none
 | k + 1, x0, x1, x5 => if x5 < (x1.length : Int) then (if 0 ≤ x5 then ((spec_l1In.f (rd x1 x5) 0 (wrap64 (x0 - 1))).bind fun t750 => (if t750 = true then (spec_l5Different.l1 k x0 x1 x5 0) else (some false))) else (none)) else (some true)
def spec_l5Different.l1 : Nat → Int → List Int → Int → Int → Option (Bool)
 | 0, _, _, _, _ => none
 | k + 1, x0, x1, x5, x6 => if x6 < x5 then (if 0 ≤ x5 then (if x5 < (x1.length : Int) then (if 0 ≤ x6 then (if x6 < (x1.length : Int) then (if (rd x1 x5) = (rd x1 x6) then (some false) else (spec_l5Different.l1 k x0 x1 x5 (wrap64 (x6 + 1)))) else (none)) else (none)) else (none)) else (none)) else (spec_l5Different.l0 k x0 x1 (wrap64 (x5 + 1)))
end
def spec_l5Different.f (k : Nat) (a0 : Int) (l1 : List Int) : Option (Bool) := spec_l5Different.l0 k a0 l1 0
set_option maxHeartbeats 8000000 in
set_option maxRecDepth 100000 in
theorem spec_l5Different.calls (k : Nat) (a0 : Int) (A1 : Option Addr) (c1 : Nat) (l1 : List Int) (r : Bool) (w : World) (hr1 : Kd.C (Kd.int .i64) w A1 l1.length l1) (hc1 : l1.length ≤ c1) (h : spec_l5Different.f k a0 l1 = some r) :
  Calls Try.prog 107 #[.int .i64 a0, .slice A1 l1.length c1] w fun e w' => e = .returned (.bool r) ∧ Drawn0 w w' := by
 have HR1 := Aside0.mk hr1
 have HC1 := Aside0.mk hc1
 clear hr1 hc1
 have H : (spec_l5Different.l0 k a0 l1 0) = some r := h
 clear h
 have H' := Aside0.mk H; clear H
 go_enter Try.func107, Try.ntmps107
 go_wp2
 repeat (go_quiet (fail); try go_wp2)
 go_loopg [5] k (fun kq v5 w' => ∃ (x5_1 : Int), v5 = .int .i64 x5_1 ∧ Aside0 (spec_l5Different.l0 kq a0 l1 x5_1 = some r) ∧ Aside0 (kq ≤ k) ∧ Drawn0 w w')
 case atStart => exact ⟨(0), zF, H', ⟨Nat.le_refl _⟩, by repeat (first | exact Drawn0.refl _ | apply Drawn0.step)⟩
 case round =>
 clear H'
 obtain ⟨x5_1, rfl, HA, HK1, ⟨m1, rfl⟩⟩ := hrel
 cases gk with
 | zero => exact absurd HA.out (by simp [spec_l5Different.l0])
 | succ k1 =>
 have H := HA.out
 clear HA
 simp only [spec_l5Different.l0] at H
 by_cases c3 : x5_1 < (l1.length : Int)
 ·rw [if_pos c3] at H
  have c3b0 := decide_eq_true c3
  clear c3
  by_cases c4 : 0 ≤ x5_1
  ·rw [if_pos c4] at H
   have c4b0 := decide_eq_true c4
   clear c4
   obtain ⟨t750, A5, H⟩ := zO H
   by_cases c6 : t750 = true
   ·subst c6
    replace H := (if_pos rfl).symm.trans H
    have H' := Aside0.mk H; clear H
    have p749 : 0 ≤ (x5_1 : Int) := zA
    have q749 : x5_1 < (l1.length : Int) := zA
    obtain ⟨ad749, e749, hx749_0⟩ := Kd.at_int HR1.out x5_1 p749 q749
    cases e749
    replace p749 := eq_true p749
    replace q749 := eq_true q749
    go_wp2_with (first | (go_at_call 89; (with_reducible refine (spec_l1In.calls (rd l1 x5_1) 0 (wrap64 (a0 - 1)) true _ A5.out).mono ?_); rintro e w' ⟨rfl, ⟨nd, rfl⟩⟩; (try first | exact ⟨rfl, _, World.drewN_drewN _ _ _⟩ | exact ⟨rfl, _, Eq.trans (World.drewN_drewN _ _ _) (congrArg (World.drewN _) (Nat.add_assoc _ _ _))⟩)))
    repeat (go_quiet (first | (go_at_call 89; (with_reducible refine (spec_l1In.calls (rd l1 x5_1) 0 (wrap64 (a0 - 1)) true _ A5.out).mono ?_); rintro e w' ⟨rfl, ⟨nd, rfl⟩⟩; (try first | exact ⟨rfl, _, World.drewN_drewN _ _ _⟩ | exact ⟨rfl, _, Eq.trans (World.drewN_drewN _ _ _) (congrArg (World.drewN _) (Nat.add_assoc _ _ _))⟩))); try go_wp2_with (first | (go_at_call 89; (with_reducible refine (spec_l1In.calls (rd l1 x5_1) 0 (wrap64 (a0 - 1)) true _ A5.out).mono ?_); rintro e w' ⟨rfl, ⟨nd, rfl⟩⟩; (try first | exact ⟨rfl, _, World.drewN_drewN _ _ _⟩ | exact ⟨rfl, _, Eq.trans (World.drewN_drewN _ _ _) (congrArg (World.drewN _) (Nat.add_assoc _ _ _))⟩))))
    go_loopg [6] k1 (fun kq v6 w' => ∃ (x6_2 : Int), v6 = .int .i64 x6_2 ∧ Aside0 (spec_l5Different.l1 kq a0 l1 x5_1 x6_2 = some r) ∧ Aside0 (kq ≤ k1) ∧ Drawn0 w w')
    case atStart => exact ⟨(0), zF, H', ⟨Nat.le_refl _⟩, by repeat (first | exact Drawn0.refl _ | apply Drawn0.step)⟩
    case round =>
    clear H'
    try clear c3
    try clear c3b0
    try clear c4
    try clear c4b0
    try clear c6
    try clear hx749_0
    try clear p749
    try clear q749
    obtain ⟨x6_2, rfl, HA, HK2, ⟨m2, rfl⟩⟩ := hrel
    cases gk with
    | zero => exact absurd HA.out (by simp [spec_l5Different.l1])
    | succ k2 =>
    have H := HA.out
    clear HA
    simp only [spec_l5Different.l1] at H
    by_cases c7 : x6_2 < x5_1
    ·rw [if_pos c7] at H
     have c7b0 := decide_eq_true c7
     clear c7
     by_cases c8 : 0 ≤ x5_1
     ·rw [if_pos c8] at H
      have c8b0 := decide_eq_true c8
      clear c8
      by_cases c9 : x5_1 < (l1.length : Int)
      ·rw [if_pos c9] at H
       have c9b0 := decide_eq_true c9
       clear c9
       by_cases c10 : 0 ≤ x6_2
       ·rw [if_pos c10] at H
        have c10b0 := decide_eq_true c10
        clear c10
        by_cases c11 : x6_2 < (l1.length : Int)
        ·rw [if_pos c11] at H
         have c11b0 := decide_eq_true c11
         clear c11
         by_cases c12 : (rd l1 x5_1) = (rd l1 x6_2)
         ·rw [if_pos c12] at H
          have c12b0 := beq_iff_eq.mpr c12
          have c12b1 := bne_eq_false_iff_eq.mpr c12
          clear c12
          obtain rfl := Option.some.inj H
          have p751 : 0 ≤ (x5_1 : Int) := zA
          have q751 : x5_1 < (l1.length : Int) := zA
          obtain ⟨ad751, e751, hx751_0⟩ := Kd.at_int HR1.out x5_1 p751 q751
          obtain rfl : ad749 = ad751 := (by injection e751)
          replace p751 := eq_true p751
          replace q751 := eq_true q751
          have p752 : 0 ≤ (x6_2 : Int) := zA
          have q752 : x6_2 < (l1.length : Int) := zA
          obtain ⟨ad752, e752, hx752_0⟩ := Kd.at_int HR1.out x6_2 p752 q752
          obtain rfl : ad749 = ad752 := (by injection e752)
          replace p752 := eq_true p752
          replace q752 := eq_true q752
          go_wp2
          repeat (go_quiet (fail); try go_wp2)
          go_ret
          exact ⟨by first | rfl | (simp; done) | (simp [*]; done), by repeat (first | exact Drawn0.refl _ | apply Drawn0.step)⟩
         rw [if_neg c12] at H
         have c12b0 := beq_eq_false_iff_ne.mpr c12
         have c12b1 := bne_iff_ne.mpr c12
         have H' := Aside0.mk H; clear H
         have p751 : 0 ≤ (x5_1 : Int) := zA
         have q751 : x5_1 < (l1.length : Int) := zA
         obtain ⟨ad751, e751, hx751_0⟩ := Kd.at_int HR1.out x5_1 p751 q751
         obtain rfl : ad749 = ad751 := (by injection e751)
         replace p751 := eq_true p751
         replace q751 := eq_true q751
         have p752 : 0 ≤ (x6_2 : Int) := zA
         have q752 : x6_2 < (l1.length : Int) := zA
         obtain ⟨ad752, e752, hx752_0⟩ := Kd.at_int HR1.out x6_2 p752 q752
         obtain rfl : ad749 = ad752 := (by injection e752)
         replace p752 := eq_true p752
         replace q752 := eq_true q752
         go_wp2
         repeat (go_quiet (fail); try go_wp2)
         go_roundg k2
         case measure => have := HK1.out; have := HK2.out; omega
         case rel => exact ⟨(wrap64 (x6_2 + 1)), zF, H', ⟨by have := HK1.out; have := HK2.out; omega⟩, by repeat (first | exact Drawn0.refl _ | apply Drawn0.step)⟩
        rw [if_neg c11] at H
        exact absurd H (by simp)
       rw [if_neg c10] at H
       exact absurd H (by simp)
      rw [if_neg c9] at H
      exact absurd H (by simp)
     rw [if_neg c8] at H
     exact absurd H (by simp)
    rw [if_neg c7] at H
    have c7b0 := decide_eq_false c7
    clear c7
    have H' := Aside0.mk H; clear H
    go_wp2
    repeat (go_quiet (fail); try go_wp2)
    go_roundg k2
    case measure => have := HK1.out; have := HK2.out; omega
    case rel => exact ⟨(wrap64 (x5_1 + 1)), zF, H', ⟨by have := HK1.out; have := HK2.out; omega⟩, by repeat (first | exact Drawn0.refl _ | apply Drawn0.step)⟩
   replace c6 := Bool.eq_false_iff.mpr c6
   subst c6
   replace H := (if_neg zFf).symm.trans H
   obtain rfl := Option.some.inj H
   have p749 : 0 ≤ (x5_1 : Int) := zA
   have q749 : x5_1 < (l1.length : Int) := zA
   obtain ⟨ad749, e749, hx749_0⟩ := Kd.at_int HR1.out x5_1 p749 q749
   cases e749
   replace p749 := eq_true p749
   replace q749 := eq_true q749
   go_wp2_with (first | (go_at_call 89; (with_reducible refine (spec_l1In.calls (rd l1 x5_1) 0 (wrap64 (a0 - 1)) false _ A5.out).mono ?_); rintro e w' ⟨rfl, ⟨nd, rfl⟩⟩; (try first | exact ⟨rfl, _, World.drewN_drewN _ _ _⟩ | exact ⟨rfl, _, Eq.trans (World.drewN_drewN _ _ _) (congrArg (World.drewN _) (Nat.add_assoc _ _ _))⟩)))
   repeat (go_quiet (first | (go_at_call 89; (with_reducible refine (spec_l1In.calls (rd l1 x5_1) 0 (wrap64 (a0 - 1)) false _ A5.out).mono ?_); rintro e w' ⟨rfl, ⟨nd, rfl⟩⟩; (try first | exact ⟨rfl, _, World.drewN_drewN _ _ _⟩ | exact ⟨rfl, _, Eq.trans (World.drewN_drewN _ _ _) (congrArg (World.drewN _) (Nat.add_assoc _ _ _))⟩))); try go_wp2_with (first | (go_at_call 89; (with_reducible refine (spec_l1In.calls (rd l1 x5_1) 0 (wrap64 (a0 - 1)) false _ A5.out).mono ?_); rintro e w' ⟨rfl, ⟨nd, rfl⟩⟩; (try first | exact ⟨rfl, _, World.drewN_drewN _ _ _⟩ | exact ⟨rfl, _, Eq.trans (World.drewN_drewN _ _ _) (congrArg (World.drewN _) (Nat.add_assoc _ _ _))⟩))))
   go_ret
   exact ⟨by first | rfl | (simp; done) | (simp [*]; done), by repeat (first | exact Drawn0.refl _ | apply Drawn0.step)⟩
  rw [if_neg c4] at H
  exact absurd H (by simp)
 rw [if_neg c3] at H
 have c3b0 := decide_eq_false c3
 clear c3
 obtain rfl := Option.some.inj H
 go_wp2
 repeat (go_quiet (fail); try go_wp2)
 go_ret
 exact ⟨by first | rfl | (simp; done) | (simp [*]; done), by repeat (first | exact Drawn0.refl _ | apply Drawn0.step)⟩
/-! ### spec_LeftCount: function 63 -/
def spec_LeftCount.f (k : Nat) (a0_0 : Int) (a0_1 : ByteArray) (a1 : Int) (a2 : Int) : Option (Int) := (spec_IsAcyclic.f k a0_0 a0_1).bind fun t1198 => (if t1198 = true then ((spec_l5Different.f k a0_0 (([a1, a2] : List Int))).bind fun t1202 => (if t1202 = true then ((spec_l7Left.f k a0_0 a0_1 a1 a2).bind fun t1203 => (some t1203)) else (some (-1)))) else (some (-1)))
set_option maxHeartbeats 8000000 in
set_option maxRecDepth 100000 in
theorem spec_LeftCount.calls (k : Nat) (a0_0 : Int) (a0_1 : ByteArray) (a1 : Int) (a2 : Int) (r : Int) (w : World) (h : spec_LeftCount.f k a0_0 a0_1 a1 a2 = some r) :
  Calls Try.prog 63 #[.agg #[.int .i64 a0_0, .string a0_1], .int .i64 a1, .int .i64 a2] w fun e w' => e = .returned (.int .i64 r) ∧ Below w.heap.size w w' := by
 have hu25 := Try.underlying25
 have HB := Aside0.mk (Below.refl w.heap.size w)
 have H : ((spec_IsAcyclic.f k a0_0 a0_1).bind fun t1198 => (if t1198 = true then ((spec_l5Different.f k a0_0 (([a1, a2] : List Int))).bind fun t1202 => (if t1202 = true then ((spec_l7Left.f k a0_0 a0_1 a1 a2).bind fun t1203 => (some t1203)) else (some (-1)))) else (some (-1)))) = some r := h
 clear h
 obtain ⟨t1198, A4, H⟩ := zO H
 by_cases c5 : t1198 = true
 ·subst c5
  replace H := (if_pos rfl).symm.trans H
  obtain ⟨y1199, hy1199⟩ : ∃ y_ : List Int, y_ = (([a1, a2] : List Int)) := ⟨_, rfl⟩
  replace H : ((spec_l5Different.f k a0_0 y1199).bind fun t1202 => (if t1202 = true then ((spec_l7Left.f k a0_0 a0_1 a1 a2).bind fun t1203 => (some t1203)) else (some (-1)))) = some r := by first | (rw [hy1199]; with_reducible exact H) | (have H2_ := (Option.bind_some _ _).symm.trans H; rw [hy1199]; with_reducible exact H2_) | (have H2_ := (Option.bind_some _ _).symm.trans H; with_reducible exact H2_) | with_reducible exact H | (rw [hy1199]; exact H) | exact H
  have Ny1199 := Aside0.mk hy1199
  clear hy1199
  obtain ⟨t1202, A6, H⟩ := zO H
  by_cases c7 : t1202 = true
  ·subst c7
   replace H := (if_pos rfl).symm.trans H
   obtain ⟨t1203, A8, H⟩ := zO H
   obtain rfl := Option.some.inj H
   go_enter Try.func63, Try.ntmps63
   go_wp2_with (first | ((with_reducible refine gate_dst (N := 3) rfl ?_); (try (refine gate_guard (by rfl) ?_; dsimp only)); refine zBx (N := 3) #[.int .i64 a0_0, .string a0_1] 25 ?_; intro gb1197 hg w9 hbox hb; have BK1197 := Aside0.mk (hbox); have GW1197 := zS hg; have GE1197 := zS hg; replace HB := zX hb; clear hb hbox hg; obtain ⟨hcz10_0, hcz10_1, hfz10_0, hfz10_1⟩ := zq2 BK1197.out) | ((with_reducible refine gate_callee (f := 24) rfl ?_); refine zD (some 8) Try.func24 #[.agg #[.int .i64 a0_0, .string a0_1]] ?_; (with_reducible refine (spec_IsAcyclic.calls k a0_0 a0_1 true _ A4.out).mono ?_); rintro e w11 ⟨rfl, hb⟩; refine ⟨_, rfl, ?_⟩; replace BK1197 := zV BK1197.out hb; replace HB := zX1 GE1197.out hb; (try clear hb); obtain ⟨hcz12_0, hcz12_1, hfz12_0, hfz12_1⟩ := zq2 BK1197.out) | ((with_reducible refine gate_dst (N := 15) rfl ?_); (try (refine gate_guard (by rfl) ?_; dsimp only)); refine Kd.R_lit (Kd.int .i64) _ 3 ?hg (N := 15) ?hd (xs := ([a1, a2] : List Int)) (inner := [.int .i64 a1, .int .i64 a2]) (ok := fun _ => True) (okp := fun _ => True) ?hr ?hp (fun _ hk => hk) trivial (Below.refl _ _) (Nat.le_refl _) (by simp) ?_; (case hd => rfl); (case hg => rfl); (case hr => first | (go_simp; done) | (go_simp; rfl)); (case hp => exact (Reps.one (show Kd.M (Kd.int .i64) _ _ _ a1 [.int .i64 a1] from rfl) (Reps.one (show Kd.M (Kd.int .i64) _ _ _ a2 [.int .i64 a2] from rfl) (Reps.none _ _)))); intro v1200 w13 ho14 hb hg_ hnew_; clear hg_ hnew_; (first | rw [← Ny1199.out] at ho14 | (simp only [Int.reduceToNat] at ho14; rw [← Ny1199.out] at ho14)); have HO1201 := Aside0.mk (Kd.R_lower ho14 (below_size (zG GE1197.out))); replace BK1197 := zV BK1197.out hb; replace HB := zX1 GE1197.out hb; clear hb ho14; obtain ⟨Ao15, co15, eo15⟩ := Kd.R_slice HO1201.out; subst eo15) | (go_at_call 107; (with_reducible refine (spec_l5Different.calls k a0_0 _ _ y1199 true _ ?side1 ?side2 A6.out).mono ?_); (case side1 => repeat (first | exact (Kd.R_reads' HO1201.out).2.2 | (with_reducible refine Kd.C_alloc ?_ _) | (with_reducible refine Kd.C_drewN ?_ _) | (with_reducible refine Kd.C_drew ?_))); (case side2 => exact (Kd.R_reads' HO1201.out).2.1); rintro e w' ⟨rfl, ⟨nd, rfl⟩⟩; obtain ⟨hcz16_0, hcz16_1, hfz16_0, hfz16_1⟩ := zq2 BK1197.out) | ((with_reducible refine gate_callee (f := 136) rfl ?_); refine zD (some 22) Try.func136 #[.agg #[.int .i64 a0_0, .string a0_1], .int .i64 a1, .int .i64 a2] ?_; (with_reducible refine (spec_l7Left.calls k a0_0 a0_1 a1 a2 t1203 _ A8.out).mono ?_); rintro e w17 ⟨rfl, hb⟩; refine ⟨_, rfl, ?_⟩; replace HO1201 := zW HO1201.out hb; replace BK1197 := zV BK1197.out hb; replace HB := zX1 GE1197.out hb; (try clear hb)))
   go_ret
   exact ⟨zE, zG GE1197.out⟩
  replace c7 := Bool.eq_false_iff.mpr c7
  subst c7
  replace H := (if_neg zFf).symm.trans H
  obtain rfl := Option.some.inj H
  go_enter Try.func63, Try.ntmps63
  go_wp2_with (first | ((with_reducible refine gate_dst (N := 3) rfl ?_); (try (refine gate_guard (by rfl) ?_; dsimp only)); refine zBx (N := 3) #[.int .i64 a0_0, .string a0_1] 25 ?_; intro gb1197 hg w18 hbox hb; have BK1197 := Aside0.mk (hbox); have GW1197 := zS hg; have GE1197 := zS hg; replace HB := zX hb; clear hb hbox hg; obtain ⟨hcz19_0, hcz19_1, hfz19_0, hfz19_1⟩ := zq2 BK1197.out) | ((with_reducible refine gate_callee (f := 24) rfl ?_); refine zD (some 8) Try.func24 #[.agg #[.int .i64 a0_0, .string a0_1]] ?_; (with_reducible refine (spec_IsAcyclic.calls k a0_0 a0_1 true _ A4.out).mono ?_); rintro e w20 ⟨rfl, hb⟩; refine ⟨_, rfl, ?_⟩; replace BK1197 := zV BK1197.out hb; replace HB := zX1 GE1197.out hb; (try clear hb); obtain ⟨hcz21_0, hcz21_1, hfz21_0, hfz21_1⟩ := zq2 BK1197.out) | ((with_reducible refine gate_dst (N := 15) rfl ?_); (try (refine gate_guard (by rfl) ?_; dsimp only)); refine Kd.R_lit (Kd.int .i64) _ 3 ?hg (N := 15) ?hd (xs := ([a1, a2] : List Int)) (inner := [.int .i64 a1, .int .i64 a2]) (ok := fun _ => True) (okp := fun _ => True) ?hr ?hp (fun _ hk => hk) trivial (Below.refl _ _) (Nat.le_refl _) (by simp) ?_; (case hd => rfl); (case hg => rfl); (case hr => first | (go_simp; done) | (go_simp; rfl)); (case hp => exact (Reps.one (show Kd.M (Kd.int .i64) _ _ _ a1 [.int .i64 a1] from rfl) (Reps.one (show Kd.M (Kd.int .i64) _ _ _ a2 [.int .i64 a2] from rfl) (Reps.none _ _)))); intro v1200 w22 ho23 hb hg_ hnew_; clear hg_ hnew_; (first | rw [← Ny1199.out] at ho23 | (simp only [Int.reduceToNat] at ho23; rw [← Ny1199.out] at ho23)); have HO1201 := Aside0.mk (Kd.R_lower ho23 (below_size (zG GE1197.out))); replace BK1197 := zV BK1197.out hb; replace HB := zX1 GE1197.out hb; clear hb ho23; obtain ⟨Ao24, co24, eo24⟩ := Kd.R_slice HO1201.out; subst eo24) | (go_at_call 107; (with_reducible refine (spec_l5Different.calls k a0_0 _ _ y1199 false _ ?side1 ?side2 A6.out).mono ?_); (case side1 => repeat (first | exact (Kd.R_reads' HO1201.out).2.2 | (with_reducible refine Kd.C_alloc ?_ _) | (with_reducible refine Kd.C_drewN ?_ _) | (with_reducible refine Kd.C_drew ?_))); (case side2 => exact (Kd.R_reads' HO1201.out).2.1); rintro e w' ⟨rfl, ⟨nd, rfl⟩⟩))
  go_ret
  exact ⟨zE, zG GE1197.out⟩
 replace c5 := Bool.eq_false_iff.mpr c5
 subst c5
 replace H := (if_neg zFf).symm.trans H
 obtain rfl := Option.some.inj H
 go_enter Try.func63, Try.ntmps63
 go_wp2_with (first | ((with_reducible refine gate_dst (N := 3) rfl ?_); (try (refine gate_guard (by rfl) ?_; dsimp only)); refine zBx (N := 3) #[.int .i64 a0_0, .string a0_1] 25 ?_; intro gb1197 hg w25 hbox hb; have BK1197 := Aside0.mk (hbox); have GW1197 := zS hg; have GE1197 := zS hg; replace HB := zX hb; clear hb hbox hg; obtain ⟨hcz26_0, hcz26_1, hfz26_0, hfz26_1⟩ := zq2 BK1197.out) | ((with_reducible refine gate_callee (f := 24) rfl ?_); refine zD (some 8) Try.func24 #[.agg #[.int .i64 a0_0, .string a0_1]] ?_; (with_reducible refine (spec_IsAcyclic.calls k a0_0 a0_1 false _ A4.out).mono ?_); rintro e w27 ⟨rfl, hb⟩; refine ⟨_, rfl, ?_⟩; replace BK1197 := zV BK1197.out hb; replace HB := zX1 GE1197.out hb; (try clear hb)))
 go_ret
 exact ⟨zE, zG GE1197.out⟩
/-! ### laws_big: function 7 -/
def laws_big.f (l0 : List Int) : Option (Bool) := some (decide ((l0.length : Int) > 1048576))
set_option maxHeartbeats 8000000 in
set_option maxRecDepth 100000 in
theorem laws_big.calls (A0 : Option Addr) (c0 : Nat) (l0 : List Int) (r : Bool) (w : World) (hr0 : Kd.C (Kd.int .u8) w A0 l0.length l0) (hc0 : l0.length ≤ c0) (h : laws_big.f l0 = some r) :
  Calls Try.prog 7 #[.slice A0 l0.length c0] w fun e w' => e = .returned (.bool r) ∧ Drawn0 w w' := by
 have HR0 := Aside0.mk hr0
 have HC0 := Aside0.mk hc0
 clear hr0 hc0
 have H : (some (decide ((l0.length : Int) > 1048576))) = some r := h
 clear h
 obtain rfl := Option.some.inj H
 go_enter Try.func7, Try.ntmps7
 go_wp2
 go_ret
 exact ⟨by first | rfl | (simp; done) | (simp [*]; done), by repeat (first | exact Drawn0.refl _ | apply Drawn0.step)⟩
/-! ### laws_sameInts: function 16 -/
def laws_sameInts.l0 : Nat → List Int → List Int → Int → Option (Bool)
 | 0, _, _, _ => none
 | k + 1, x0, x1, x5 => if x5 < (x0.length : Int) then (if 0 ≤ x5 then (if x5 < (x1.length : Int) then (if (rd x0 x5) = (rd x1 x5) then (laws_sameInts.l0 k x0 x1 (wrap64 (x5 + 1))) else (some false)) else (none)) else (none)) else (some true)
def laws_sameInts.f (k : Nat) (l0 : List Int) (l1 : List Int) : Option (Bool) := if (l0.length : Int) = (l1.length : Int) then (laws_sameInts.l0 k l0 l1 0) else (some false)
set_option maxHeartbeats 8000000 in
set_option maxRecDepth 100000 in
theorem laws_sameInts.calls (k : Nat) (A0 : Option Addr) (c0 : Nat) (l0 : List Int) (A1 : Option Addr) (c1 : Nat) (l1 : List Int) (r : Bool) (w : World) (hr0 : Kd.C (Kd.int .i64) w A0 l0.length l0) (hc0 : l0.length ≤ c0) (hr1 : Kd.C (Kd.int .i64) w A1 l1.length l1) (hc1 : l1.length ≤ c1) (h : laws_sameInts.f k l0 l1 = some r) :
  Calls Try.prog 16 #[.slice A0 l0.length c0, .slice A1 l1.length c1] w fun e w' => e = .returned (.bool r) ∧ Drawn0 w w' := by
 have HR0 := Aside0.mk hr0
 have HC0 := Aside0.mk hc0
 clear hr0 hc0
 have HR1 := Aside0.mk hr1
 have HC1 := Aside0.mk hc1
 clear hr1 hc1
 have H : (if (l0.length : Int) = (l1.length : Int) then (laws_sameInts.l0 k l0 l1 0) else (some false)) = some r := h
 clear h
 by_cases c3 : (l0.length : Int) = (l1.length : Int)
 ·rw [if_pos c3] at H
  have c3b0 := beq_iff_eq.mpr c3
  have c3b1 := bne_eq_false_iff_eq.mpr c3
  have c3b2 : (l0.length == l1.length) = true := by first | simpa using c3 | (simp at c3 ⊢; omega)
  clear c3
  have H' := Aside0.mk H; clear H
  go_enter Try.func16, Try.ntmps16
  go_wp2
  repeat (go_quiet (fail); try go_wp2)
  go_loopg [5] k (fun kq v5 w' => ∃ (x5_1 : Int), v5 = .int .i64 x5_1 ∧ Aside0 (laws_sameInts.l0 kq l0 l1 x5_1 = some r) ∧ Aside0 (kq ≤ k) ∧ Drawn0 w w')
  case atStart => exact ⟨(0), zF, H', ⟨Nat.le_refl _⟩, by repeat (first | exact Drawn0.refl _ | apply Drawn0.step)⟩
  case round =>
  clear H'
  try clear c3
  try clear c3b0
  try clear c3b1
  try clear c3b2
  obtain ⟨x5_1, rfl, HA, HK1, ⟨m1, rfl⟩⟩ := hrel
  cases gk with
  | zero => exact absurd HA.out (by simp [laws_sameInts.l0])
  | succ k1 =>
  have H := HA.out
  clear HA
  simp only [laws_sameInts.l0] at H
  by_cases c4 : x5_1 < (l0.length : Int)
  ·rw [if_pos c4] at H
   have c4b0 := decide_eq_true c4
   clear c4
   by_cases c5 : 0 ≤ x5_1
   ·rw [if_pos c5] at H
    have c5b0 := decide_eq_true c5
    clear c5
    by_cases c6 : x5_1 < (l1.length : Int)
    ·rw [if_pos c6] at H
     have c6b0 := decide_eq_true c6
     clear c6
     by_cases c7 : (rd l0 x5_1) = (rd l1 x5_1)
     ·rw [if_pos c7] at H
      have c7b0 := beq_iff_eq.mpr c7
      have c7b1 := bne_eq_false_iff_eq.mpr c7
      clear c7
      have H' := Aside0.mk H; clear H
      have p475 : 0 ≤ (x5_1 : Int) := zA
      have q475 : x5_1 < (l0.length : Int) := zA
      obtain ⟨ad475, e475, hx475_0⟩ := Kd.at_int HR0.out x5_1 p475 q475
      cases e475
      replace p475 := eq_true p475
      replace q475 := eq_true q475
      have p476 : 0 ≤ (x5_1 : Int) := zA
      have q476 : x5_1 < (l1.length : Int) := zA
      obtain ⟨ad476, e476, hx476_0⟩ := Kd.at_int HR1.out x5_1 p476 q476
      cases e476
      replace p476 := eq_true p476
      replace q476 := eq_true q476
      go_wp2
      repeat (go_quiet (fail); try go_wp2)
      go_roundg k1
      case measure => have := HK1.out; omega
      case rel => exact ⟨(wrap64 (x5_1 + 1)), zF, H', ⟨by have := HK1.out; omega⟩, by repeat (first | exact Drawn0.refl _ | apply Drawn0.step)⟩
     rw [if_neg c7] at H
     have c7b0 := beq_eq_false_iff_ne.mpr c7
     have c7b1 := bne_iff_ne.mpr c7
     obtain rfl := Option.some.inj H
     have p475 : 0 ≤ (x5_1 : Int) := zA
     have q475 : x5_1 < (l0.length : Int) := zA
     obtain ⟨ad475, e475, hx475_0⟩ := Kd.at_int HR0.out x5_1 p475 q475
     cases e475
     replace p475 := eq_true p475
     replace q475 := eq_true q475
     have p476 : 0 ≤ (x5_1 : Int) := zA
     have q476 : x5_1 < (l1.length : Int) := zA
     obtain ⟨ad476, e476, hx476_0⟩ := Kd.at_int HR1.out x5_1 p476 q476
     cases e476
     replace p476 := eq_true p476
     replace q476 := eq_true q476
     go_wp2
     repeat (go_quiet (fail); try go_wp2)
     go_ret
     exact ⟨by first | rfl | (simp; done) | (simp [*]; done), by repeat (first | exact Drawn0.refl _ | apply Drawn0.step)⟩
    rw [if_neg c6] at H
    exact absurd H (by simp)
   rw [if_neg c5] at H
   exact absurd H (by simp)
  rw [if_neg c4] at H
  have c4b0 := decide_eq_false c4
  clear c4
  obtain rfl := Option.some.inj H
  go_wp2
  repeat (go_quiet (fail); try go_wp2)
  go_ret
  exact ⟨by first | rfl | (simp; done) | (simp [*]; done), by repeat (first | exact Drawn0.refl _ | apply Drawn0.step)⟩
 rw [if_neg c3] at H
 have c3b0 := beq_eq_false_iff_ne.mpr c3
 have c3b1 := bne_iff_ne.mpr c3
 have c3b2 : (l0.length == l1.length) = false := by first | simpa using c3 | (simp at c3 ⊢; omega)
 obtain rfl := Option.some.inj H
 go_enter Try.func16, Try.ntmps16
 go_wp2
 repeat (go_quiet (fail); try go_wp2)
 go_ret
 exact ⟨by first | rfl | (simp; done) | (simp [*]; done), by repeat (first | exact Drawn0.refl _ | apply Drawn0.step)⟩
/-! ### laws_sameLists: function 37 -/
def laws_sameLists.l0 : Nat → List (List Int) → List (List Int) → Int → Option (Bool)
 | 0, _, _, _ => none
 | k + 1, x0, x1, x5 => if x5 < (x0.length : Int) then (if 0 ≤ x5 then (if x5 < (x1.length : Int) then ((laws_sameInts.f k (rd_L6 x0 x5) (rd_L6 x1 x5)).bind fun t828 => (if t828 = true then (laws_sameLists.l0 k x0 x1 (wrap64 (x5 + 1))) else (some false))) else (none)) else (none)) else (some true)
def laws_sameLists.f (k : Nat) (l0 : List (List Int)) (l1 : List (List Int)) : Option (Bool) := if (l0.length : Int) = (l1.length : Int) then (laws_sameLists.l0 k l0 l1 0) else (some false)
set_option maxHeartbeats 8000000 in
set_option maxRecDepth 100000 in
theorem laws_sameLists.calls (k : Nat) (A0 : Option Addr) (c0 : Nat) (l0 : List (List Int)) (A1 : Option Addr) (c1 : Nat) (l1 : List (List Int)) (r : Bool) (w : World) (hr0 : Kd.C (Kd.slice 3 (Kd.int .i64)) w A0 l0.length l0) (hc0 : l0.length ≤ c0) (hr1 : Kd.C (Kd.slice 3 (Kd.int .i64)) w A1 l1.length l1) (hc1 : l1.length ≤ c1) (h : laws_sameLists.f k l0 l1 = some r) :
  Calls Try.prog 37 #[.slice A0 l0.length c0, .slice A1 l1.length c1] w fun e w' => e = .returned (.bool r) ∧ Drawn0 w w' := by
 have HR0 := Aside0.mk hr0
 have HC0 := Aside0.mk hc0
 clear hr0 hc0
 have HR1 := Aside0.mk hr1
 have HC1 := Aside0.mk hc1
 clear hr1 hc1
 have H : (if (l0.length : Int) = (l1.length : Int) then (laws_sameLists.l0 k l0 l1 0) else (some false)) = some r := h
 clear h
 by_cases c3 : (l0.length : Int) = (l1.length : Int)
 ·rw [if_pos c3] at H
  have c3b0 := beq_iff_eq.mpr c3
  have c3b1 := bne_eq_false_iff_eq.mpr c3
  have c3b2 : (l0.length == l1.length) = true := by first | simpa using c3 | (simp at c3 ⊢; omega)
  clear c3
  have H' := Aside0.mk H; clear H
  go_enter Try.func37, Try.ntmps37
  go_wp2
  repeat (go_quiet (fail); try go_wp2)
  go_loopg [5] k (fun kq v5 w' => ∃ (x5_1 : Int), v5 = .int .i64 x5_1 ∧ Aside0 (laws_sameLists.l0 kq l0 l1 x5_1 = some r) ∧ Aside0 (kq ≤ k) ∧ Drawn0 w w')
  case atStart => exact ⟨(0), zF, H', ⟨Nat.le_refl _⟩, by repeat (first | exact Drawn0.refl _ | apply Drawn0.step)⟩
  case round =>
  clear H'
  try clear c3
  try clear c3b0
  try clear c3b1
  try clear c3b2
  obtain ⟨x5_1, rfl, HA, HK1, ⟨m1, rfl⟩⟩ := hrel
  cases gk with
  | zero => exact absurd HA.out (by simp [laws_sameLists.l0])
  | succ k1 =>
  have H := HA.out
  clear HA
  simp only [laws_sameLists.l0] at H
  by_cases c4 : x5_1 < (l0.length : Int)
  ·rw [if_pos c4] at H
   have c4b0 := decide_eq_true c4
   clear c4
   by_cases c5 : 0 ≤ x5_1
   ·rw [if_pos c5] at H
    have c5b0 := decide_eq_true c5
    clear c5
    by_cases c6 : x5_1 < (l1.length : Int)
    ·rw [if_pos c6] at H
     have c6b0 := decide_eq_true c6
     clear c6
     obtain ⟨t828, A7, H⟩ := zO H
     by_cases c8 : t828 = true
     ·subst c8
      replace H := (if_pos rfl).symm.trans H
      have H' := Aside0.mk H; clear H
      have p826 : 0 ≤ (x5_1 : Int) := zA
      have q826 : x5_1 < (l0.length : Int) := zA
      obtain ⟨ad826, A826_0, c826_0, e826, hx826_0, hl826_0, hi826_0⟩ := at_L6 HR0.out x5_1 p826 q826
      cases e826
      have HR826_0 := Aside0.mk hi826_0
      have HC826_0 := Aside0.mk hl826_0
      clear hi826_0 hl826_0
      replace p826 := eq_true p826
      replace q826 := eq_true q826
      have p827 : 0 ≤ (x5_1 : Int) := zA
      have q827 : x5_1 < (l1.length : Int) := zA
      obtain ⟨ad827, A827_0, c827_0, e827, hx827_0, hl827_0, hi827_0⟩ := at_L6 HR1.out x5_1 p827 q827
      cases e827
      have HR827_0 := Aside0.mk hi827_0
      have HC827_0 := Aside0.mk hl827_0
      clear hi827_0 hl827_0
      replace p827 := eq_true p827
      replace q827 := eq_true q827
      go_wp2_with (first | (go_at_call 16; (with_reducible refine (laws_sameInts.calls k1 _ _ (rd_L6 l0 x5_1) _ _ (rd_L6 l1 x5_1) true _ ?side1 ?side2 ?side3 ?side4 A7.out).mono ?_); (case side1 => repeat (first | exact HR826_0.out | (with_reducible refine Kd.C_alloc ?_ _) | (with_reducible refine Kd.C_drewN ?_ _) | (with_reducible refine Kd.C_drew ?_))); (case side2 => exact HC826_0.out); (case side3 => repeat (first | exact HR827_0.out | (with_reducible refine Kd.C_alloc ?_ _) | (with_reducible refine Kd.C_drewN ?_ _) | (with_reducible refine Kd.C_drew ?_))); (case side4 => exact HC827_0.out); rintro e w' ⟨rfl, ⟨nd, rfl⟩⟩; (try first | exact ⟨rfl, _, World.drewN_drewN _ _ _⟩ | exact ⟨rfl, _, Eq.trans (World.drewN_drewN _ _ _) (congrArg (World.drewN _) (Nat.add_assoc _ _ _))⟩)))
      repeat (go_quiet (first | (go_at_call 16; (with_reducible refine (laws_sameInts.calls k1 _ _ (rd_L6 l0 x5_1) _ _ (rd_L6 l1 x5_1) true _ ?side1 ?side2 ?side3 ?side4 A7.out).mono ?_); (case side1 => repeat (first | exact HR826_0.out | (with_reducible refine Kd.C_alloc ?_ _) | (with_reducible refine Kd.C_drewN ?_ _) | (with_reducible refine Kd.C_drew ?_))); (case side2 => exact HC826_0.out); (case side3 => repeat (first | exact HR827_0.out | (with_reducible refine Kd.C_alloc ?_ _) | (with_reducible refine Kd.C_drewN ?_ _) | (with_reducible refine Kd.C_drew ?_))); (case side4 => exact HC827_0.out); rintro e w' ⟨rfl, ⟨nd, rfl⟩⟩; (try first | exact ⟨rfl, _, World.drewN_drewN _ _ _⟩ | exact ⟨rfl, _, Eq.trans (World.drewN_drewN _ _ _) (congrArg (World.drewN _) (Nat.add_assoc _ _ _))⟩))); try go_wp2_with (first | (go_at_call 16; (with_reducible refine (laws_sameInts.calls k1 _ _ (rd_L6 l0 x5_1) _ _ (rd_L6 l1 x5_1) true _ ?side1 ?side2 ?side3 ?side4 A7.out).mono ?_); (case side1 => repeat (first | exact HR826_0.out | (with_reducible refine Kd.C_alloc ?_ _) | (with_reducible refine Kd.C_drewN ?_ _) | (with_reducible refine Kd.C_drew ?_))); (case side2 => exact HC826_0.out); (case side3 => repeat (first | exact HR827_0.out | (with_reducible refine Kd.C_alloc ?_ _) | (with_reducible refine Kd.C_drewN ?_ _) | (with_reducible refine Kd.C_drew ?_))); (case side4 => exact HC827_0.out); rintro e w' ⟨rfl, ⟨nd, rfl⟩⟩; (try first | exact ⟨rfl, _, World.drewN_drewN _ _ _⟩ | exact ⟨rfl, _, Eq.trans (World.drewN_drewN _ _ _) (congrArg (World.drewN _) (Nat.add_assoc _ _ _))⟩))))
      go_roundg k1
      case measure => have := HK1.out; omega
      case rel => exact ⟨(wrap64 (x5_1 + 1)), zF, H', ⟨by have := HK1.out; omega⟩, by repeat (first | exact Drawn0.refl _ | apply Drawn0.step)⟩
     replace c8 := Bool.eq_false_iff.mpr c8
     subst c8
     replace H := (if_neg zFf).symm.trans H
     obtain rfl := Option.some.inj H
     have p826 : 0 ≤ (x5_1 : Int) := zA
     have q826 : x5_1 < (l0.length : Int) := zA
     obtain ⟨ad826, A826_0, c826_0, e826, hx826_0, hl826_0, hi826_0⟩ := at_L6 HR0.out x5_1 p826 q826
     cases e826
     have HR826_0 := Aside0.mk hi826_0
     have HC826_0 := Aside0.mk hl826_0
     clear hi826_0 hl826_0
     replace p826 := eq_true p826
     replace q826 := eq_true q826
     have p827 : 0 ≤ (x5_1 : Int) := zA
     have q827 : x5_1 < (l1.length : Int) := zA
     obtain ⟨ad827, A827_0, c827_0, e827, hx827_0, hl827_0, hi827_0⟩ := at_L6 HR1.out x5_1 p827 q827
     cases e827
     have HR827_0 := Aside0.mk hi827_0
     have HC827_0 := Aside0.mk hl827_0
     clear hi827_0 hl827_0
     replace p827 := eq_true p827
     replace q827 := eq_true q827
     go_wp2_with (first | (go_at_call 16; (with_reducible refine (laws_sameInts.calls k1 _ _ (rd_L6 l0 x5_1) _ _ (rd_L6 l1 x5_1) false _ ?side1 ?side2 ?side3 ?side4 A7.out).mono ?_); (case side1 => repeat (first | exact HR826_0.out | (with_reducible refine Kd.C_alloc ?_ _) | (with_reducible refine Kd.C_drewN ?_ _) | (with_reducible refine Kd.C_drew ?_))); (case side2 => exact HC826_0.out); (case side3 => repeat (first | exact HR827_0.out | (with_reducible refine Kd.C_alloc ?_ _) | (with_reducible refine Kd.C_drewN ?_ _) | (with_reducible refine Kd.C_drew ?_))); (case side4 => exact HC827_0.out); rintro e w' ⟨rfl, ⟨nd, rfl⟩⟩; (try first | exact ⟨rfl, _, World.drewN_drewN _ _ _⟩ | exact ⟨rfl, _, Eq.trans (World.drewN_drewN _ _ _) (congrArg (World.drewN _) (Nat.add_assoc _ _ _))⟩)))
     repeat (go_quiet (first | (go_at_call 16; (with_reducible refine (laws_sameInts.calls k1 _ _ (rd_L6 l0 x5_1) _ _ (rd_L6 l1 x5_1) false _ ?side1 ?side2 ?side3 ?side4 A7.out).mono ?_); (case side1 => repeat (first | exact HR826_0.out | (with_reducible refine Kd.C_alloc ?_ _) | (with_reducible refine Kd.C_drewN ?_ _) | (with_reducible refine Kd.C_drew ?_))); (case side2 => exact HC826_0.out); (case side3 => repeat (first | exact HR827_0.out | (with_reducible refine Kd.C_alloc ?_ _) | (with_reducible refine Kd.C_drewN ?_ _) | (with_reducible refine Kd.C_drew ?_))); (case side4 => exact HC827_0.out); rintro e w' ⟨rfl, ⟨nd, rfl⟩⟩; (try first | exact ⟨rfl, _, World.drewN_drewN _ _ _⟩ | exact ⟨rfl, _, Eq.trans (World.drewN_drewN _ _ _) (congrArg (World.drewN _) (Nat.add_assoc _ _ _))⟩))); try go_wp2_with (first | (go_at_call 16; (with_reducible refine (laws_sameInts.calls k1 _ _ (rd_L6 l0 x5_1) _ _ (rd_L6 l1 x5_1) false _ ?side1 ?side2 ?side3 ?side4 A7.out).mono ?_); (case side1 => repeat (first | exact HR826_0.out | (with_reducible refine Kd.C_alloc ?_ _) | (with_reducible refine Kd.C_drewN ?_ _) | (with_reducible refine Kd.C_drew ?_))); (case side2 => exact HC826_0.out); (case side3 => repeat (first | exact HR827_0.out | (with_reducible refine Kd.C_alloc ?_ _) | (with_reducible refine Kd.C_drewN ?_ _) | (with_reducible refine Kd.C_drew ?_))); (case side4 => exact HC827_0.out); rintro e w' ⟨rfl, ⟨nd, rfl⟩⟩; (try first | exact ⟨rfl, _, World.drewN_drewN _ _ _⟩ | exact ⟨rfl, _, Eq.trans (World.drewN_drewN _ _ _) (congrArg (World.drewN _) (Nat.add_assoc _ _ _))⟩))))
     go_ret
     exact ⟨by first | rfl | (simp; done) | (simp [*]; done), by repeat (first | exact Drawn0.refl _ | apply Drawn0.step)⟩
    rw [if_neg c6] at H
    exact absurd H (by simp)
   rw [if_neg c5] at H
   exact absurd H (by simp)
  rw [if_neg c4] at H
  have c4b0 := decide_eq_false c4
  clear c4
  obtain rfl := Option.some.inj H
  go_wp2
  repeat (go_quiet (fail); try go_wp2)
  go_ret
  exact ⟨by first | rfl | (simp; done) | (simp [*]; done), by repeat (first | exact Drawn0.refl _ | apply Drawn0.step)⟩
 rw [if_neg c3] at H
 have c3b0 := beq_eq_false_iff_ne.mpr c3
 have c3b1 := bne_iff_ne.mpr c3
 have c3b2 : (l0.length == l1.length) = false := by first | simpa using c3 | (simp at c3 ⊢; omega)
 obtain rfl := Option.some.inj H
 go_enter Try.func37, Try.ntmps37
 go_wp2
 repeat (go_quiet (fail); try go_wp2)
 go_ret
 exact ⟨by first | rfl | (simp; done) | (simp [*]; done), by repeat (first | exact Drawn0.refl _ | apply Drawn0.step)⟩
end Go.Proofs.Ytckkfjdkaimmhaa.PX
