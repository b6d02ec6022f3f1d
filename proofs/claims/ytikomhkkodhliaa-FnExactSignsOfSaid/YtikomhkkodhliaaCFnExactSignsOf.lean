/- FnExactSignsOf returns true for all arguments and leaves them as they were. No condition. -/
import Derived.Test.YtikomhkkodhliaaProg
import Derived.Test.YtikomhkkodhliaaRows
import Derived.WalkKit
import Derived.ProofKit
import Derived.OpenShut
import Derived.ShutString
import Derived.ChangeOld
import Derived.Below
import Derived.SizedLaws
import Derived.Lib.SmallJoins
import Derived.ChangeSame
import Derived.Deep.SlicePairs
import Derived.Test.YtikomhkkodhliaaV1
import Derived.Test.YtikomhkkodhliaaBjtekjl1
import Derived.Test.YtikomhkkodhliaaBjtekjl2
set_option linter.unusedVariables false
set_option linter.unusedSimpArgs false
namespace Go.Proofs.Ytikomhkkodhliaa.PX
open Go.RowKit Go.Proofs.Ytikomhkkodhliaa.G Go.Proofs.YtikomhkkodhliaaW.PrintWords Go.Proofs.YtikomhkkodhliaaW.PrintLast Go.Proofs.YtikomhkkodhliaaW.PrintMore
attribute [local go_sem] max2_int min2_int max_two min_two max_three min_three max_four min_four   -- for this text's walks alone
set_option linter.unusedVariables false
set_option linter.unusedSimpArgs false
/-! ### spec_SignsOf: function 40 -/
mutual
def spec_SignsOf.l0 : Nat → List (S36) → Int → Int → ByteArray → Option (Int × ByteArray × Bool)
 | 0, _, _, _, _ => none
 | k + 1, x0, x5, x454000, x454001 => if x5 < (x0.length : Int) then (spec_SignsOf.l1 k x0 x5 (wrap64 (x5 + 1)) x454000 x454001) else (some (x454000, x454001, true))
def spec_SignsOf.l1 : Nat → List (S36) → Int → Int → Int → ByteArray → Option (Int × ByteArray × Bool)
 | 0, _, _, _, _, _ => none
 | k + 1, x0, x5, x6, x454000, x454001 => if x6 < (x0.length : Int) then (spec_SignsOf.l2 k x0 x5 x6 (wrap64 (x6 + 1)) x454000 x454001) else (spec_SignsOf.l0 k x0 (wrap64 (x5 + 1)) x454000 x454001)
def spec_SignsOf.l2 : Nat → List (S36) → Int → Int → Int → Int → ByteArray → Option (Int × ByteArray × Bool)
 | 0, _, _, _, _, _, _ => none
 | k + 1, x0, x5, x6, x7, x454000, x454001 => if x7 < (x0.length : Int) then (if 0 ≤ x5 then (if x5 < (x0.length : Int) then (if 0 ≤ x6 then (if x6 < (x0.length : Int) then (if 0 ≤ x7 then ((spec_l2Area.f ((rd_T36 x0 x5).f0) ((rd_T36 x0 x5).f1) ((rd_T36 x0 x6).f0) ((rd_T36 x0 x6).f1) ((rd_T36 x0 x7).f0) ((rd_T36 x0 x7).f1)).bind fun t457 => ((spec_l3Byte.f t457).bind fun t458 => (if x454001.size + t458.size ≤ 9223372036854775807 then (spec_SignsOf.l2 k x0 x5 x6 (wrap64 (x7 + 1)) x454000 (x454001 ++ t458)) else (none)))) else (none)) else (none)) else (none)) else (none)) else (none)) else (spec_SignsOf.l1 k x0 x5 (wrap64 (x6 + 1)) x454000 x454001)
end
def spec_SignsOf.f (k : Nat) (l0 : List (S36)) : Option (Int × ByteArray × Bool) := (spec_ArePoints.f k l0).bind fun t452 => (if t452 = true then (spec_SignsOf.l0 k l0 0 (l0.length : Int) (⟨#[]⟩ : ByteArray)) else (some (0, (⟨#[]⟩ : ByteArray), false)))
theorem spec_SignsOf.mono_l : ∀ k, (∀ y0 y1 y2 y3, LeO (spec_SignsOf.l0 k y0 y1 y2 y3) (spec_SignsOf.l0 (k + 1) y0 y1 y2 y3)) ∧ (∀ y0 y1 y2 y3 y4, LeO (spec_SignsOf.l1 k y0 y1 y2 y3 y4) (spec_SignsOf.l1 (k + 1) y0 y1 y2 y3 y4)) ∧ (∀ y0 y1 y2 y3 y4 y5, LeO (spec_SignsOf.l2 k y0 y1 y2 y3 y4 y5) (spec_SignsOf.l2 (k + 1) y0 y1 y2 y3 y4 y5))
 | 0 => ⟨fun _ _ _ _ r h => by simp [spec_SignsOf.l0] at h, fun _ _ _ _ _ r h => by simp [spec_SignsOf.l1] at h, fun _ _ _ _ _ _ r h => by simp [spec_SignsOf.l2] at h⟩
 | k + 1 => by
  obtain ⟨ih0, ih1, ih2⟩ := spec_SignsOf.mono_l k
  refine ⟨?_, ?_, ?_⟩ <;> intros <;> (first | unfold spec_SignsOf.l0 | unfold spec_SignsOf.l1 | unfold spec_SignsOf.l2) <;> repeat' first
  | (with_reducible exact ih0 _ _ _ _)
  | (with_reducible exact ih1 _ _ _ _ _)
  | (with_reducible exact ih2 _ _ _ _ _ _)
  | (with_reducible exact spec_ArePoints.mono _ _)
  | (with_reducible exact LeO.refl _)
  | (with_reducible exact LeO.none _)
  | (with_reducible refine LeO.ite ?_ ?_)
  | (with_reducible refine LeO.bind ?_ (fun _ => ?_))
  | exact ih0 _ _ _ _
  | exact ih1 _ _ _ _ _
  | exact ih2 _ _ _ _ _ _
  | exact spec_ArePoints.mono _ _
  | exact LeO.none _
  | refine LeO.ite ?_ ?_
  | refine LeO.bind ?_ (fun _ => ?_)
theorem spec_SignsOf.mono : ∀ a0 k, LeO (spec_SignsOf.f k a0) (spec_SignsOf.f (k + 1) a0) := by
 intro a0 k
 obtain ⟨ih0, ih1, ih2⟩ := spec_SignsOf.mono_l k
 unfold spec_SignsOf.f
 repeat' first
   | (with_reducible exact ih0 _ _ _ _)
   | (with_reducible exact ih1 _ _ _ _ _)
   | (with_reducible exact ih2 _ _ _ _ _ _)
   | (with_reducible exact spec_ArePoints.mono _ _)
   | (with_reducible exact LeO.refl _)
   | (with_reducible exact LeO.none _)
   | (with_reducible refine LeO.ite ?_ ?_)
   | (with_reducible refine LeO.bind ?_ (fun _ => ?_))
   | exact ih0 _ _ _ _
   | exact ih1 _ _ _ _ _
   | exact ih2 _ _ _ _ _ _
   | exact spec_ArePoints.mono _ _
   | exact LeO.none _
   | refine LeO.ite ?_ ?_
   | refine LeO.bind ?_ (fun _ => ?_)
def spec_SignsOf.T13 : Bool × List (List Nat × List Nat) := (true, [([], []), ([0], [0]), ([], []), ([], []), ([2, 3], [2, 3]), ([4], [4]), ([], []), ([], []), ([6, 7], [6, 7]), ([8], [8]), ([], []), ([], []), ([10, 11], [10, 11]), ([12], [12]), ([5, 9, 13], [5, 9, 13]), ([14, 14], [14]), ([1, 15], [1, 15]), ([0, 1, 2, 3, 4, 5, 6, 7, 8, 9, 10, 11, 12, 13, 14, 15, 16], []), ([17, 16, 15, 0, 1, 2, 3, 4, 5, 6, 7, 8, 9, 10, 11, 12, 13, 14, 15, 16], [16, 17])])
def spec_SignsOf.B13 : List Nat := [0, 1, 0, 0, 12, 28, 0, 0, 192, 448, 0, 0, 3072, 7168, 16380, 32764, 65535, 131071, 262143]
theorem spec_SignsOf.tab13 : rtab .any (opsOf Try.f40 13) = spec_SignsOf.T13 := by kernel_rfl
theorem spec_SignsOf.bits13 : waitsOk spec_SignsOf.T13.2 spec_SignsOf.B13 = true := by kernel_rfl
set_option maxHeartbeats 8000000 in
set_option maxRecDepth 100000 in
theorem spec_SignsOf.calls (k : Nat) (A0 : Option Addr) (c0 : Nat) (l0 : List (S36)) (r1 : Int) (r2 : ByteArray) (r3 : Bool) (w : World) (hr0 : Kd.C k36 w A0 l0.length l0) (hc0 : l0.length ≤ c0) (h : spec_SignsOf.f k l0 = some (r1, r2, r3)) :
  Calls Try.prog 40 #[.slice A0 l0.length c0] w fun e w' => e = .returned (.tuple #[.agg #[.int .i64 r1, .string r2], .bool r3]) ∧ Below w.heap.size w w' := by
 have hu53 := Try.underlying53
 have hu36 := Try.underlying36
 have HR0 := Aside0.mk hr0
 have HC0 := Aside0.mk hc0
 clear hr0 hc0
 have HB := Aside0.mk (Below.refl w.heap.size w)
 have H : ((spec_ArePoints.f k l0).bind fun t452 => (if t452 = true then (spec_SignsOf.l0 k l0 0 (l0.length : Int) (⟨#[]⟩ : ByteArray)) else (some (0, (⟨#[]⟩ : ByteArray), false)))) = some (r1, r2, r3) := h
 clear h
 replace H := Option.bind_eq_some_iff.mp H
 obtain ⟨t452, A20, H⟩ := H
 replace H : (if t452 = true then (spec_SignsOf.l0 k l0 0 (l0.length : Int) (⟨#[]⟩ : ByteArray)) else (some (0, (⟨#[]⟩ : ByteArray), false))) = some (r1, r2, r3) := H
 have A2 := Aside0.mk A20
 clear A20
 by_cases c3 : t452 = true
 ·subst c3
  have H1 : (spec_SignsOf.l0 k l0 0 (l0.length : Int) (⟨#[]⟩ : ByteArray)) = some (r1, r2, r3) := by rw [if_pos rfl] at H; exact H
  clear H
  have H := H1
  clear H1
  have H' := Aside0.mk H
  clear H
  go_enter Try.func40, Try.ntmps40
  go_wp2_with (first | ((with_reducible refine gate_dst (N := 2) rfl ?_); refine box_event ?hg (N := 2) ?hd (cs := #[.int .i64 0, .string (⟨#[]⟩ : ByteArray)]) (t := 53) ?hr ?_; (case hd => rfl); (case hg => rfl); (case hr => first | (go_simp; done) | (go_simp; rfl)); intro gb451 hg w4 hbox hb; have BK451 := Aside0.mk (hbox); have GW451 := Aside0.mk ((by rw [hg]; exact (below_size zB) : w.heap.size ≤ gb451)); have GE451 := Aside0.mk ((by rw [hg]; exact (below_size zB) : w.heap.size ≤ gb451)); replace HB := Aside0.mk (below_step zB hb); clear hb hbox hg) | ((with_reducible refine gate_callee (f := 34) rfl ?_); refine goesL_ (some 9) rfl rfl Try.func34 (by kernel_rfl) rfl #[.slice A0 l0.length c0] rfl zM ?_; (with_reducible refine (spec_ArePoints.calls k _ _ l0 true _ ?side1 ?side2 A2.out).mono ?_); (case side1 => repeat (first | exact (Kd.C_below HR0.out HB.out) | (with_reducible refine Kd.C_alloc ?_ _) | (with_reducible refine Kd.C_drewN ?_ _) | (with_reducible refine Kd.C_drew ?_))); (case side2 => exact HC0.out); rintro e w5 ⟨rfl, hb⟩; refine ⟨_, rfl, ?_⟩; replace BK451 := Aside0.mk (blk_below (g := gb451) (o := .cells #[.int .i64 0, .string (⟨#[]⟩ : ByteArray)] 53 (0, 0)) (zK BK451.out) hb); replace HB := Aside0.mk (below_step (zG GE451.out) hb); (try clear hb)) | ((with_reducible refine gate_dst (N := 4) rfl ?_); refine box_event ?hg (N := 4) ?hd (cs := #[.int .i64 0, .string (⟨#[]⟩ : ByteArray)]) (t := 53) ?hr ?_; (case hd => rfl); (case hg => rfl); (case hr => first | (go_simp; done) | (go_simp; rfl)); intro gb453 hg w6 hbox hb; have n0_ := Aside0.mk (blk_below (g := gb451) (o := .cells #[.int .i64 0, .string (⟨#[]⟩ : ByteArray)] 53 (0, 0)) (zK BK451.out) hb); have n1_ := Aside0.mk (below_step (zG GE451.out) hb); have n2_ := Aside0.mk (hbox); have n3_ := Aside0.mk ((by rw [hg]; exact (below_size (zG GE451.out)) : w.heap.size ≤ gb453)); have n4_ := Aside0.mk ((by rw [hg]; exact (below_size (zG GE451.out)) : w.heap.size ≤ gb453)); have n5_ := Aside0.mk ((by rw [hg]; exact Nat.ne_of_lt (blk_lt (g := gb451) (o := .cells #[.int .i64 0, .string (⟨#[]⟩ : ByteArray)] 53 (0, 0)) (zK BK451.out)) : gb451 ≠ gb453)); have n6_ := Aside0.mk ((by rw [hg]; exact Nat.ne_of_gt (blk_lt (g := gb451) (o := .cells #[.int .i64 0, .string (⟨#[]⟩ : ByteArray)] 53 (0, 0)) (zK BK451.out)) : gb453 ≠ gb451)); clear BK451; clear HB; have BK451 := n0_; have HB := n1_; have BK453 := n2_; have GW453 := n3_; have GE453 := n4_; have NB451_453 := n5_; have NB453_451 := n6_; clear n0_ n1_ n2_ n3_ n4_ n5_ n6_; clear hb hbox hg; have hnb7 := NB453_451.out; have hnc7 := NB451_453.out; have hcz8_0 : w6.cell? ⟨gb453, 0, none⟩ = some (.int .i64 0) := (blk_cell BK453.out 0).trans rfl; have hcz8_1 : w6.cell? ⟨gb453, 1, none⟩ = some (.string (⟨#[]⟩ : ByteArray)) := (blk_cell BK453.out 1).trans rfl; have hfz8_0 := blk_frozen BK453.out 0; have hfz8_1 := blk_frozen BK453.out 1))
  go_loopg [5] k (fun kq v5 w' => ∃ (x5_1 : Int) (x454001_1 : ByteArray), v5 = .int .i64 x5_1 ∧ Aside0 (spec_SignsOf.l0 kq l0 x5_1 (l0.length : Int) x454001_1 = some (r1, r2, r3)) ∧ Aside0 (kq ≤ k) ∧ Aside0 (w'.heap[gb451]? = some (.cells #[.int .i64 0, .string (⟨#[]⟩ : ByteArray)] 53 (0, 0))) ∧ Aside0 (w'.heap[gb453]? = some (.cells #[.int .i64 (l0.length : Int), .string x454001_1] 53 (0, 0))) ∧ Aside0 (Below w.heap.size w w'))
  case atStart => exact ⟨(0), ((⟨#[]⟩ : ByteArray)), zF, H', ⟨Nat.le_refl _⟩, ⟨by (with_reducible repeat (first | refine blk_drewN ?_ _ | refine blk_drew ?_ | refine blk_alloc ?_ _)); refine blk_far ?_ NB451_453.out _; (with_reducible repeat (first | refine blk_drewN ?_ _ | refine blk_drew ?_ | refine blk_alloc ?_ _)); refine blk_far ?_ NB451_453.out _; (with_reducible repeat (first | refine blk_drewN ?_ _ | refine blk_drew ?_ | refine blk_alloc ?_ _)); exact BK451.out⟩, ⟨by (with_reducible repeat (first | refine blk_drewN ?_ _ | refine blk_drew ?_ | refine blk_alloc ?_ _)); refine blk_put (cs := #[.int .i64 (l0.length : Int), .string (⟨#[]⟩ : ByteArray)]) ?_ 1 _ rfl; (with_reducible repeat (first | refine blk_drewN ?_ _ | refine blk_drew ?_ | refine blk_alloc ?_ _)); refine blk_put (cs := #[.int .i64 0, .string (⟨#[]⟩ : ByteArray)]) ?_ 0 _ rfl; (with_reducible repeat (first | refine blk_drewN ?_ _ | refine blk_drew ?_ | refine blk_alloc ?_ _)); exact BK453.out⟩, ⟨by repeat (first | (with_reducible first | exact HB.out | apply below_alloc | apply pw_below_drewN | apply below_drew1 | refine below_set ?_ GE451.out | refine below_set ?_ GE453.out) | exact HB.out)⟩⟩
  case round =>
   clear H'
   try clear p2
   try clear c3
   try clear c4
   try clear c7
   try clear hcz8_0
   try clear hcz8_1
   try clear hfz8_0
   try clear hfz8_1
   obtain ⟨x5_1, x454001_1, rfl, HA, HK1, BK451, BK453, HB⟩ := hrel
   cases gk with
   | zero => exact absurd HA.out (by simp [spec_SignsOf.l0])
   | succ k1 =>
    have H := HA.out
    clear HA
    simp only [spec_SignsOf.l0] at H
    by_cases c9 : x5_1 < (l0.length : Int)
    ·rw [if_pos c9] at H
     have c9b0 : decide (x5_1 < (l0.length : Int)) = true := decide_eq_true c9
     clear c9
     have H' := Aside0.mk H
     clear H
     go_wp2
     go_loopg [6] k1 (fun kq v6 w' => ∃ (x6_2 : Int) (x454001_2 : ByteArray), v6 = .int .i64 x6_2 ∧ Aside0 (spec_SignsOf.l1 kq l0 x5_1 x6_2 (l0.length : Int) x454001_2 = some (r1, r2, r3)) ∧ Aside0 (kq ≤ k1) ∧ Aside0 (w'.heap[gb451]? = some (.cells #[.int .i64 0, .string (⟨#[]⟩ : ByteArray)] 53 (0, 0))) ∧ Aside0 (w'.heap[gb453]? = some (.cells #[.int .i64 (l0.length : Int), .string x454001_2] 53 (0, 0))) ∧ Aside0 (Below w.heap.size w w'))
     case atStart => exact ⟨(wrap64 (x5_1 + 1)), (x454001_1), zF, H', ⟨Nat.le_refl _⟩, ⟨zK BK451.out⟩, ⟨zK BK453.out⟩, ⟨by repeat (first | (with_reducible first | exact HB.out | apply below_alloc | apply pw_below_drewN | apply below_drew1 | refine below_set ?_ GE451.out | refine below_set ?_ GE453.out) | exact HB.out)⟩⟩
     case round =>
      clear H'
      try clear p2
      try clear c3
      try clear c4
      try clear p6
      try clear c7
      try clear c9
      try clear c9b0
      try clear hcz8_0
      try clear hcz8_1
      try clear hfz8_0
      try clear hfz8_1
      try clear p2
      obtain ⟨x6_2, x454001_2, rfl, HA, HK2, BK451, BK453, HB⟩ := hrel
      cases gk with
      | zero => exact absurd HA.out (by simp [spec_SignsOf.l1])
      | succ k2 =>
       have H := HA.out
       clear HA
       simp only [spec_SignsOf.l1] at H
       by_cases c10 : x6_2 < (l0.length : Int)
       ·rw [if_pos c10] at H
        have c10b0 : decide (x6_2 < (l0.length : Int)) = true := decide_eq_true c10
        clear c10
        have H' := Aside0.mk H
        clear H
        go_wp2
        go_loopg [7] k2 (fun kq v7 w' => ∃ (x7_3 : Int) (x454001_3 : ByteArray), v7 = .int .i64 x7_3 ∧ Aside0 (spec_SignsOf.l2 kq l0 x5_1 x6_2 x7_3 (l0.length : Int) x454001_3 = some (r1, r2, r3)) ∧ Aside0 (kq ≤ k2) ∧ Aside0 (w'.heap[gb451]? = some (.cells #[.int .i64 0, .string (⟨#[]⟩ : ByteArray)] 53 (0, 0))) ∧ Aside0 (w'.heap[gb453]? = some (.cells #[.int .i64 (l0.length : Int), .string x454001_3] 53 (0, 0))) ∧ Aside0 (Below w.heap.size w w'))
        case atStart => exact ⟨(wrap64 (x6_2 + 1)), (x454001_2), zF, H', ⟨Nat.le_refl _⟩, ⟨zK BK451.out⟩, ⟨zK BK453.out⟩, ⟨by repeat (first | (with_reducible first | exact HB.out | apply below_alloc | apply pw_below_drewN | apply below_drew1 | refine below_set ?_ GE451.out | refine below_set ?_ GE453.out) | exact HB.out)⟩⟩
        case round =>
         clear H'
         try clear c1
         try clear p2
         try clear c3
         try clear c4
         try clear p6
         try clear c7
         try clear c9
         try clear c9b0
         try clear c10
         try clear c10b0
         try clear hcz8_0
         try clear hcz8_1
         try clear hfz8_0
         try clear hfz8_1
         try clear p2
         try clear p6
         obtain ⟨x7_3, x454001_3, rfl, HA, HK3, BK451, BK453, HB⟩ := hrel
         cases gk with
         | zero => exact absurd HA.out (by simp [spec_SignsOf.l2])
         | succ k3 =>
          have H := HA.out
          clear HA
          simp only [spec_SignsOf.l2] at H
          by_cases c11 : x7_3 < (l0.length : Int)
          ·rw [if_pos c11] at H
           have c11b0 : decide (x7_3 < (l0.length : Int)) = true := decide_eq_true c11
           clear c11
           by_cases c12 : 0 ≤ x5_1
           ·rw [if_pos c12] at H
            have c12b0 : decide (0 ≤ x5_1) = true := decide_eq_true c12
            clear c12
            by_cases c13 : x5_1 < (l0.length : Int)
            ·rw [if_pos c13] at H
             have c13b0 : decide (x5_1 < (l0.length : Int)) = true := decide_eq_true c13
             clear c13
             by_cases c14 : 0 ≤ x6_2
             ·rw [if_pos c14] at H
              have c14b0 : decide (0 ≤ x6_2) = true := decide_eq_true c14
              clear c14
              by_cases c15 : x6_2 < (l0.length : Int)
              ·rw [if_pos c15] at H
               have c15b0 : decide (x6_2 < (l0.length : Int)) = true := decide_eq_true c15
               clear c15
               by_cases c16 : 0 ≤ x7_3
               ·rw [if_pos c16] at H
                have c16b0 : decide (0 ≤ x7_3) = true := decide_eq_true c16
                clear c16
                replace H := Option.bind_eq_some_iff.mp H
                obtain ⟨t457, A170, H⟩ := H
                replace H : ((spec_l3Byte.f t457).bind fun t458 => (if x454001_3.size + t458.size ≤ 9223372036854775807 then (spec_SignsOf.l2 k3 l0 x5_1 x6_2 (wrap64 (x7_3 + 1)) (l0.length : Int) (x454001_3 ++ t458)) else (none))) = some (r1, r2, r3) := H
                have A17 := Aside0.mk A170
                clear A170
                replace H := Option.bind_eq_some_iff.mp H
                obtain ⟨t458, A180, H⟩ := H
                replace H : (if x454001_3.size + t458.size ≤ 9223372036854775807 then (spec_SignsOf.l2 k3 l0 x5_1 x6_2 (wrap64 (x7_3 + 1)) (l0.length : Int) (x454001_3 ++ t458)) else (none)) = some (r1, r2, r3) := H
                have A18 := Aside0.mk A180
                clear A180
                by_cases c19 : x454001_3.size + t458.size ≤ 9223372036854775807
                ·rw [if_pos c19] at H
                 have c19b0 := eq_true c19
                 have c19b1 : decide (x454001_3.size + t458.size ≤ 9223372036854775807) = true := decide_eq_true c19
                 try have c19b2 : (9223372036854775807 < x454001_3.size + t458.size) = False := eq_false (Nat.not_lt.2 c19)
                 have H' := Aside0.mk H
                 clear H
                 try go_wp2
                 have n0_ := Aside0.mk (blk_drew BK451.out)
                 have n1_ := Aside0.mk (blk_drew BK453.out)
                 have n2_ := Aside0.mk (below_drew1 HB.out)
                 clear BK451
                 clear BK453
                 clear HB
                 have BK451 := n0_
                 have BK453 := n1_
                 have HB := n2_
                 clear n0_ n1_ n2_
                 have p454 : 0 ≤ (x5_1 : Int) := zA
                 have q454 : x5_1 < (l0.length : Int) := zA
                 obtain ⟨ad454, e454, hx454_0, hx454_1⟩ := at_T36 HR0.out x5_1 p454 q454
                 have hw454_1 := hx454_1
                 have hw454_0 := hx454_0
                 cases e454
                 replace hx454_0 := (HB.out.cell (World.block_lt_of_cell? w _ hx454_0)).trans hx454_0
                 replace hx454_1 := (HB.out.cell (World.block_lt_of_cell? w _ hx454_1)).trans hx454_1
                 replace p454 := eq_true p454
                 replace q454 := eq_true q454
                 have p455 : 0 ≤ (x6_2 : Int) := zA
                 have q455 : x6_2 < (l0.length : Int) := zA
                 obtain ⟨ad455, e455, hx455_0, hx455_1⟩ := at_T36 HR0.out x6_2 p455 q455
                 have hw455_1 := hx455_1
                 have hw455_0 := hx455_0
                 obtain rfl : ad454 = ad455 := (by injection e455)
                 replace hx455_0 := (HB.out.cell (World.block_lt_of_cell? w _ hx455_0)).trans hx455_0
                 replace hx455_1 := (HB.out.cell (World.block_lt_of_cell? w _ hx455_1)).trans hx455_1
                 replace p455 := eq_true p455
                 replace q455 := eq_true q455
                 have p456 : 0 ≤ (x7_3 : Int) := zA
                 have q456 : x7_3 < (l0.length : Int) := zA
                 obtain ⟨ad456, e456, hx456_0, hx456_1⟩ := at_T36 HR0.out x7_3 p456 q456
                 have hw456_1 := hx456_1
                 have hw456_0 := hx456_0
                 obtain rfl : ad454 = ad456 := (by injection e456)
                 replace hx456_0 := (HB.out.cell (World.block_lt_of_cell? w _ hx456_0)).trans hx456_0
                 replace hx456_1 := (HB.out.cell (World.block_lt_of_cell? w _ hx456_1)).trans hx456_1
                 replace p456 := eq_true p456
                 replace q456 := eq_true q456
                 refine start_ (n := 19) (S := fun w' => w'.cell? ⟨gb453, 0, none⟩ = some (.int .i64 (l0.length : Int)) ∧ w'.cell? ⟨gb453, 1, none⟩ = some (.string x454001_3) ∧ w'.cell? (ad454.add ((x5_1).toNat * 2)) = some (.int .i64 ((rd_T36 l0 x5_1).f0)) ∧ w'.cell? ⟨(ad454.add ((x5_1).toNat * 2)).block, (ad454.add ((x5_1).toNat * 2)).off + 1, none⟩ = some (.int .i64 ((rd_T36 l0 x5_1).f1)) ∧ w'.cell? (ad454.add ((x6_2).toNat * 2)) = some (.int .i64 ((rd_T36 l0 x6_2).f0)) ∧ w'.cell? ⟨(ad454.add ((x6_2).toNat * 2)).block, (ad454.add ((x6_2).toNat * 2)).off + 1, none⟩ = some (.int .i64 ((rd_T36 l0 x6_2).f1)) ∧ w'.cell? (ad454.add ((x7_3).toNat * 2)) = some (.int .i64 ((rd_T36 l0 x7_3).f0)) ∧ w'.cell? ⟨(ad454.add ((x7_3).toNat * 2)).block, (ad454.add ((x7_3).toNat * 2)).off + 1, none⟩ = some (.int .i64 ((rd_T36 l0 x7_3).f1))) (ds := [18]) #[false, false, false, false, false, false, false, false, false, false, false, false, false, false, false, false, false, false, false] (by kernel_rfl) rfl rfl ⟨(blk_cell BK453.out 0).trans rfl, (blk_cell BK453.out 1).trans rfl, ((HB.out.cell (World.block_lt_of_cell? w _ hw454_0)).trans hw454_0), ((HB.out.cell (World.block_lt_of_cell? w _ hw454_1)).trans hw454_1), ((HB.out.cell (World.block_lt_of_cell? w _ hw455_0)).trans hw455_0), ((HB.out.cell (World.block_lt_of_cell? w _ hw455_1)).trans hw455_1), ((HB.out.cell (World.block_lt_of_cell? w _ hw456_0)).trans hw456_0), ((HB.out.cell (World.block_lt_of_cell? w _ hw456_1)).trans hw456_1)⟩ (fun hHeld => ?_); refine with_tabW spec_SignsOf.tab13 spec_SignsOf.bits13 (fun HT_ HW_ => ?_)
                 generalize wr.drew = w20 at BK451 BK453 HB hx454_0 hx454_1 hx455_0 hx455_1 hx456_0 hx456_1 hHeld ⊢
                 refine zP 0 (some 37) rfl rfl ?_
                 refine zP 2 (some 39) rfl rfl ?_
                 refine zP 3 (some 40) rfl rfl ?_
                 refine zP 4 (some 41) rfl rfl ?_
                 refine zP 6 (some 43) rfl rfl ?_
                 refine zP 7 (some 44) rfl rfl ?_
                 refine zP 8 (some 45) rfl rfl ?_
                 refine zP 10 (some 47) rfl rfl ?_
                 refine zP 11 (some 48) rfl rfl ?_
                 refine zP 12 (some 49) rfl rfl ?_
                 refine take_ (i := 1) (N := some 38) (v := ?_) (a' := ?_) #[true, true, true, true, true, false, true, true, true, false, true, true, true, false, false, false, false, false, false] rfl rfl (take_ofW HT_.out HW_.out (by kernel_rfl)) (fun _ _ _ h => h) (Or.inl ⟨by rfl, ?_⟩) hHeld ?_ ?_
                 rotate_left
                 ·rintro w' ⟨s0, s1, s2, s3, s4, s5, s6, s7⟩
                  go_simp
                  with_reducible rfl
                 rotate_left
                 ·simp only [Act.put, List.setIfInBounds_toArray, List.set_cons_zero, List.set_cons_succ, i64_w, i32_w]
                  rfl
                 refine take_ (i := 5) (N := some 42) (v := ?_) (a' := ?_) #[true, true, true, true, true, true, true, true, true, false, true, true, true, false, false, false, false, false, false] rfl rfl (take_ofW HT_.out HW_.out (by kernel_rfl)) (fun _ _ _ h => h) (Or.inl ⟨by rfl, ?_⟩) hHeld ?_ ?_
                 rotate_left
                 ·rintro w' ⟨s0, s1, s2, s3, s4, s5, s6, s7⟩
                  go_simp
                  with_reducible rfl
                 rotate_left
                 ·simp only [Act.put, List.setIfInBounds_toArray, List.set_cons_zero, List.set_cons_succ, i64_w, i32_w]
                  rfl
                 refine take_ (i := 9) (N := some 46) (v := ?_) (a' := ?_) #[true, true, true, true, true, true, true, true, true, true, true, true, true, false, false, false, false, false, false] rfl rfl (take_ofW HT_.out HW_.out (by kernel_rfl)) (fun _ _ _ h => h) (Or.inl ⟨by rfl, ?_⟩) hHeld ?_ ?_
                 rotate_left
                 ·rintro w' ⟨s0, s1, s2, s3, s4, s5, s6, s7⟩
                  go_simp
                  with_reducible rfl
                 rotate_left
                 ·simp only [Act.put, List.setIfInBounds_toArray, List.set_cons_zero, List.set_cons_succ, i64_w, i32_w]
                  rfl
                 refine take_ (i := 13) (N := some 50) (v := ?_) (a' := ?_) #[true, true, true, true, true, true, true, true, true, true, true, true, true, true, false, false, false, false, false] rfl rfl (take_ofW HT_.out HW_.out (by kernel_rfl)) (fun _ _ _ h => h) (Or.inl ⟨by rfl, ?_⟩) hHeld ?_ ?_
                 rotate_left
                 ·rintro w' ⟨s0, s1, s2, s3, s4, s5, s6, s7⟩
                  go_simp
                  with_reducible rfl
                 rotate_left
                 ·simp only [Act.put, List.setIfInBounds_toArray, List.set_cons_zero, List.set_cons_succ, i64_w, i32_w]
                  rfl
                 refine one_ (i := 14) (N := some 51) #[true, true, true, true, true, true, true, true, true, true, true, true, true, true, true, false, false, false, false] rfl rfl (one_of HT_.out (by kernel_rfl)) (by decide) (fun K hK => ?_)
                 refine goes_ Try.func49 (by kernel_rfl) rfl #[.agg #[.int .i64 ((rd_T36 l0 x5_1).f0), .int .i64 ((rd_T36 l0 x5_1).f1)], .agg #[.int .i64 ((rd_T36 l0 x6_2).f0), .int .i64 ((rd_T36 l0 x6_2).f1)], .agg #[.int .i64 ((rd_T36 l0 x7_3).f0), .int .i64 ((rd_T36 l0 x7_3).f1)]] (by rfl) rfl rfl zM ?_
                 with_reducible refine (spec_l2Area.calls ((rd_T36 l0 x5_1).f0) ((rd_T36 l0 x5_1).f1) ((rd_T36 l0 x6_2).f0) ((rd_T36 l0 x6_2).f1) ((rd_T36 l0 x7_3).f0) ((rd_T36 l0 x7_3).f1) t457 _ A17.out).mono ?_
                 rintro e w21 ⟨rfl, hb⟩
                 refine ⟨_, rfl, ?_⟩
                 have n0_ := Aside0.mk (blk_below (g := gb451) (o := .cells #[.int .i64 0, .string (⟨#[]⟩ : ByteArray)] 53 (0, 0)) (zK BK451.out) hb)
                 have n1_ := Aside0.mk (blk_below (g := gb453) (o := .cells #[.int .i64 (l0.length : Int), .string x454001_3] 53 (0, 0)) (zK BK453.out) hb)
                 have n2_ := Aside0.mk (below_step (by repeat (first | (with_reducible first | exact HB.out | apply below_alloc | apply pw_below_drewN | apply below_drew1 | refine below_set ?_ GE451.out | refine below_set ?_ GE453.out) | exact HB.out)) hb)
                 clear BK451
                 clear BK453
                 clear HB
                 have BK451 := n0_
                 have BK453 := n1_
                 have HB := n2_
                 clear n0_ n1_ n2_
                 (try clear hb)
                 (try clear hb2)
                 (try clear hk)
                 (try clear hi)
                 refine hK.out _ _ ⟨(blk_cell BK453.out 0).trans rfl, (blk_cell BK453.out 1).trans rfl, ((HB.out.cell (World.block_lt_of_cell? w _ hw454_0)).trans hw454_0), ((HB.out.cell (World.block_lt_of_cell? w _ hw454_1)).trans hw454_1), ((HB.out.cell (World.block_lt_of_cell? w _ hw455_0)).trans hw455_0), ((HB.out.cell (World.block_lt_of_cell? w _ hw455_1)).trans hw455_1), ((HB.out.cell (World.block_lt_of_cell? w _ hw456_0)).trans hw456_0), ((HB.out.cell (World.block_lt_of_cell? w _ hw456_1)).trans hw456_1)⟩ (fun hHeld => ?_)
                 clear hK K
                 refine norm_ (a' := ?_) ?_ ?_
                 rotate_left
                 ·show Act.put _ (some 51) _ = _
                  simp only [Act.put, List.setIfInBounds_toArray, List.set_cons_zero, List.set_cons_succ, i64_w, i32_w]
                  rfl
                 refine one_ (i := 15) (N := some 52) #[true, true, true, true, true, true, true, true, true, true, true, true, true, true, true, true, false, false, false] rfl rfl (one_of HT_.out (by kernel_rfl)) (by decide) (fun K hK => ?_)
                 refine goes_ Try.func61 (by kernel_rfl) rfl #[.int .i64 t457] (by rfl) rfl rfl zM ?_
                 with_reducible refine (spec_l3Byte.calls t457 t458 _ A18.out).mono ?_
                 rintro e w' ⟨rfl, ⟨nd, rfl⟩⟩
                 refine ⟨_, rfl, ?_⟩
                 refine hK.out _ _ ⟨(blk_cell BK453.out 0).trans rfl, (blk_cell BK453.out 1).trans rfl, ((HB.out.cell (World.block_lt_of_cell? w _ hw454_0)).trans hw454_0), ((HB.out.cell (World.block_lt_of_cell? w _ hw454_1)).trans hw454_1), ((HB.out.cell (World.block_lt_of_cell? w _ hw455_0)).trans hw455_0), ((HB.out.cell (World.block_lt_of_cell? w _ hw455_1)).trans hw455_1), ((HB.out.cell (World.block_lt_of_cell? w _ hw456_0)).trans hw456_0), ((HB.out.cell (World.block_lt_of_cell? w _ hw456_1)).trans hw456_1)⟩ (fun hHeld => ?_)
                 clear hK K
                 refine norm_ (a' := ?_) ?_ ?_
                 rotate_left
                 ·show Act.put _ (some 52) _ = _
                  simp only [Act.put, List.setIfInBounds_toArray, List.set_cons_zero, List.set_cons_succ, i64_w, i32_w]
                  rfl
                 refine zP 16 (some 53) rfl rfl ?_
                 refine zP 17 (some 54) rfl rfl ?_
                 refine last_ (i := 18) (N := none) #[true, true, true, true, true, true, true, true, true, true, true, true, true, true, true, true, true, true, true] rfl rfl (one_of HT_.out (by kernel_rfl)) (by decide) (fun K hK => ?_)
                 have hs22 : w21.cell? ⟨gb453, 1, none⟩ = some (.string x454001_3) := (blk_cell BK453.out 1).trans rfl
                 have hfs22 := blk_frozen BK453.out 1
                 have hns22_0 := NB451_453.out
                 have hms22_0 := NB453_451.out
                 refine skip_ (w1 := ?_) (by rfl) rfl ?_ ?_
                 rotate_left
                 ·go_simp
                  rfl
                 refine hK.out _ _ ?_
                 clear hK K
                 refine done_ (done_of HT_.out (by kernel_rfl)) ?_
                 try go_wp2
                 go_roundg k3
                 case measure => have := HK1.out; have := HK2.out; have := HK3.out; omega
                 case rel => exact ⟨(wrap64 (x7_3 + 1)), (x454001_3 ++ t458), zF, H', ⟨by have := HK1.out; have := HK2.out; have := HK3.out; omega⟩, ⟨by (with_reducible repeat (first | refine blk_drewN ?_ _ | refine blk_drew ?_ | refine blk_alloc ?_ _)); refine blk_far ?_ NB451_453.out _; (with_reducible repeat (first | refine blk_drewN ?_ _ | refine blk_drew ?_ | refine blk_alloc ?_ _)); exact BK451.out⟩, ⟨by (with_reducible repeat (first | refine blk_drewN ?_ _ | refine blk_drew ?_ | refine blk_alloc ?_ _)); refine blk_put (cs := #[.int .i64 (l0.length : Int), .string x454001_3]) ?_ 1 _ rfl; (with_reducible repeat (first | refine blk_drewN ?_ _ | refine blk_drew ?_ | refine blk_alloc ?_ _)); exact BK453.out⟩, ⟨by repeat (first | (with_reducible first | exact HB.out | apply below_alloc | apply pw_below_drewN | apply below_drew1 | refine below_set ?_ GE451.out | refine below_set ?_ GE453.out) | exact HB.out)⟩⟩
                ·rw [if_neg c19] at H
                 exact absurd H (by simp)
               ·rw [if_neg c16] at H
                exact absurd H (by simp)
              ·rw [if_neg c15] at H
               exact absurd H (by simp)
             ·rw [if_neg c14] at H
              exact absurd H (by simp)
            ·rw [if_neg c13] at H
             exact absurd H (by simp)
           ·rw [if_neg c12] at H
            exact absurd H (by simp)
          ·rw [if_neg c11] at H
           have c11b0 : decide (x7_3 < (l0.length : Int)) = false := decide_eq_false c11
           clear c11
           have H' := Aside0.mk H
           clear H
           go_wp2
           go_roundg k3
           case measure => have := HK1.out; have := HK2.out; have := HK3.out; omega
           case rel => exact ⟨(wrap64 (x6_2 + 1)), (x454001_3), zF, H', ⟨by have := HK1.out; have := HK2.out; have := HK3.out; omega⟩, ⟨zK BK451.out⟩, ⟨zK BK453.out⟩, ⟨by repeat (first | (with_reducible first | exact HB.out | apply below_alloc | apply pw_below_drewN | apply below_drew1 | refine below_set ?_ GE451.out | refine below_set ?_ GE453.out) | exact HB.out)⟩⟩
       ·rw [if_neg c10] at H
        have c10b0 : decide (x6_2 < (l0.length : Int)) = false := decide_eq_false c10
        clear c10
        have H' := Aside0.mk H
        clear H
        go_wp2
        go_roundg k2
        case measure => have := HK1.out; have := HK2.out; omega
        case rel => exact ⟨(wrap64 (x5_1 + 1)), (x454001_2), zF, H', ⟨by have := HK1.out; have := HK2.out; omega⟩, ⟨zK BK451.out⟩, ⟨zK BK453.out⟩, ⟨by repeat (first | (with_reducible first | exact HB.out | apply below_alloc | apply pw_below_drewN | apply below_drew1 | refine below_set ?_ GE451.out | refine below_set ?_ GE453.out) | exact HB.out)⟩⟩
    ·rw [if_neg c9] at H
     have c9b0 : decide (x5_1 < (l0.length : Int)) = false := decide_eq_false c9
     clear c9
     simp only [Option.some.injEq, Prod.mk.injEq] at H
     obtain ⟨rfl, rfl, rfl⟩ := H
     have hnb23 := NB453_451.out
     have hnc23 := NB451_453.out
     have hcz24_0 : wr.cell? ⟨gb453, 0, none⟩ = some (.int .i64 (l0.length : Int)) := (blk_cell BK453.out 0).trans rfl
     have hcz24_1 : wr.cell? ⟨gb453, 1, none⟩ = some (.string x454001_1) := (blk_cell BK453.out 1).trans rfl
     have hfz24_0 := blk_frozen BK453.out 0
     have hfz24_1 := blk_frozen BK453.out 1
     have hcz25_0 : wr.cell? ⟨gb451, 0, none⟩ = some (.int .i64 0) := (blk_cell BK451.out 0).trans rfl
     have hcz25_1 : wr.cell? ⟨gb451, 1, none⟩ = some (.string (⟨#[]⟩ : ByteArray)) := (blk_cell BK451.out 1).trans rfl
     have hfz25_0 := blk_frozen BK451.out 0
     have hfz25_1 := blk_frozen BK451.out 1
     go_wp2
     refine bodyPost_ret (results_ct rfl _ _ gb451 53 #[.int .i64 (l0.length : Int), .string x454001_1] (0, 0) _ rfl (by (with_reducible repeat (first | refine blk_drewN ?_ _ | refine blk_drew ?_ | refine blk_alloc ?_ _)); refine blk_put (cs := #[.int .i64 (l0.length : Int), .string (⟨#[]⟩ : ByteArray)]) ?_ 1 _ rfl; (with_reducible repeat (first | refine blk_drewN ?_ _ | refine blk_drew ?_ | refine blk_alloc ?_ _)); refine blk_put (cs := #[.int .i64 0, .string (⟨#[]⟩ : ByteArray)]) ?_ 0 _ rfl; (with_reducible repeat (first | refine blk_drewN ?_ _ | refine blk_drew ?_ | refine blk_alloc ?_ _)); exact BK451.out) Try.underlying53 rfl (by kernel_rfl)) rfl ?_
     exact ⟨zE, by repeat (first | (with_reducible first | exact HB.out | apply below_alloc | apply pw_below_drewN | apply below_drew1 | refine below_set ?_ GE451.out | refine below_set ?_ GE453.out) | exact HB.out)⟩
 ·replace c3 := Bool.eq_false_iff.mpr c3
  subst c3
  have H1 : (some (0, (⟨#[]⟩ : ByteArray), false)) = some (r1, r2, r3) := by rw [if_neg (show ¬ (false = true) by decide)] at H; exact H
  clear H
  have H := H1
  clear H1
  simp only [Option.some.injEq, Prod.mk.injEq] at H
  obtain ⟨rfl, rfl, rfl⟩ := H
  go_enter Try.func40, Try.ntmps40
  go_wp2_with (first | ((with_reducible refine gate_dst (N := 2) rfl ?_); refine box_event ?hg (N := 2) ?hd (cs := #[.int .i64 0, .string (⟨#[]⟩ : ByteArray)]) (t := 53) ?hr ?_; (case hd => rfl); (case hg => rfl); (case hr => first | (go_simp; done) | (go_simp; rfl)); intro gb451 hg w26 hbox hb; have BK451 := Aside0.mk (hbox); have GW451 := Aside0.mk ((by rw [hg]; exact (below_size zB) : w.heap.size ≤ gb451)); have GE451 := Aside0.mk ((by rw [hg]; exact (below_size zB) : w.heap.size ≤ gb451)); replace HB := Aside0.mk (below_step zB hb); clear hb hbox hg) | ((with_reducible refine gate_callee (f := 34) rfl ?_); refine goesL_ (some 9) rfl rfl Try.func34 (by kernel_rfl) rfl #[.slice A0 l0.length c0] rfl zM ?_; (with_reducible refine (spec_ArePoints.calls k _ _ l0 false _ ?side1 ?side2 A2.out).mono ?_); (case side1 => repeat (first | exact (Kd.C_below HR0.out HB.out) | (with_reducible refine Kd.C_alloc ?_ _) | (with_reducible refine Kd.C_drewN ?_ _) | (with_reducible refine Kd.C_drew ?_))); (case side2 => exact HC0.out); rintro e w27 ⟨rfl, hb⟩; refine ⟨_, rfl, ?_⟩; replace BK451 := Aside0.mk (blk_below (g := gb451) (o := .cells #[.int .i64 0, .string (⟨#[]⟩ : ByteArray)] 53 (0, 0)) (zK BK451.out) hb); replace HB := Aside0.mk (below_step (zG GE451.out) hb); (try clear hb); have hcz28_0 : w27.cell? ⟨gb451, 0, none⟩ = some (.int .i64 0) := (blk_cell BK451.out 0).trans rfl; have hcz28_1 : w27.cell? ⟨gb451, 1, none⟩ = some (.string (⟨#[]⟩ : ByteArray)) := (blk_cell BK451.out 1).trans rfl; have hfz28_0 := blk_frozen BK451.out 0; have hfz28_1 := blk_frozen BK451.out 1))
  refine bodyPost_ret (results_ct rfl _ _ gb451 53 #[.int .i64 0, .string (⟨#[]⟩ : ByteArray)] (0, 0) _ rfl (by (with_reducible repeat (first | refine blk_drewN ?_ _ | refine blk_drew ?_ | refine blk_alloc ?_ _)); refine blk_put (cs := #[.int .i64 0, .string (⟨#[]⟩ : ByteArray)]) ?_ 1 _ rfl; (with_reducible repeat (first | refine blk_drewN ?_ _ | refine blk_drew ?_ | refine blk_alloc ?_ _)); refine blk_put (cs := #[.int .i64 0, .string (⟨#[]⟩ : ByteArray)]) ?_ 0 _ rfl; (with_reducible repeat (first | refine blk_drewN ?_ _ | refine blk_drew ?_ | refine blk_alloc ?_ _)); exact BK451.out) Try.underlying53 rfl (by kernel_rfl)) rfl ?_
  exact ⟨zE, zG GE451.out⟩
/-! ### impl_chi_signs: function 63 -/
def impl_chi_signs.l0 : Nat → List Int → List Int → List (S71) → Int → Int → Option (Int × ByteArray)
 | 0, _, _, _, _, _ => none
 | k + 1, x0, x3, x10, x11, x12 => if x12 < x11 then (if 0 ≤ x12 then (if x12 < (x10.length : Int) then (if 0 ≤ ((rd_T71 x10 x12).f0) then (if ((rd_T71 x10 x12).f0) < 7 then (if 0 ≤ ((rd_T71 x10 x12).f1) then (if ((rd_T71 x10 x12).f1) < 7 then (if 0 ≤ ((rd_T71 x10 x12).f2) then (if ((rd_T71 x10 x12).f2) < 7 then (if (rd3 x0 ((rd_T71 x10 x12).f0) ((rd_T71 x10 x12).f1) ((rd_T71 x10 x12).f2)) > 0 then (if x3.length < 140737488355328 then (impl_chi_signs.l0 k x0 (x3 ++ [43]) x10 x11 (wrap64 (x12 + 1))) else (none)) else (if x3.length < 140737488355328 then (impl_chi_signs.l0 k x0 (x3 ++ [45]) x10 x11 (wrap64 (x12 + 1))) else (none))) else (none)) else (none)) else (none)) else (none)) else (none)) else (none)) else (none)) else (none)) else (some (rd x0 0, strOfNums x3))
def impl_chi_signs.f (k : Nat) (l0 : List Int) : Option (Int × ByteArray) := (impl_triplesOf.f k (rd l0 0)).bind fun t461 => (impl_chi_signs.l0 k l0 ([] : List Int) t461 (t461.length : Int) 0)
theorem impl_chi_signs.mono_l : ∀ k, (∀ y0 y1 y2 y3 y4, LeO (impl_chi_signs.l0 k y0 y1 y2 y3 y4) (impl_chi_signs.l0 (k + 1) y0 y1 y2 y3 y4))
 | 0 => fun _ _ _ _ _ r h => by simp [impl_chi_signs.l0] at h
 | k + 1 => by
  have ih0 := impl_chi_signs.mono_l k
  ·intro y0 y1 y2 y3 y4
   unfold impl_chi_signs.l0
   repeat' first
   | (with_reducible exact ih0 _ _ _ _ _)
   | (with_reducible exact impl_triplesOf.mono _ _)
   | (with_reducible exact LeO.refl _)
   | (with_reducible exact LeO.none _)
   | (with_reducible refine LeO.ite ?_ ?_)
   | (with_reducible refine LeO.bind ?_ (fun _ => ?_))
   | exact ih0 _ _ _ _ _
   | exact impl_triplesOf.mono _ _
   | exact LeO.none _
   | refine LeO.ite ?_ ?_
   | refine LeO.bind ?_ (fun _ => ?_)
theorem impl_chi_signs.mono : ∀ a0 k, LeO (impl_chi_signs.f k a0) (impl_chi_signs.f (k + 1) a0) := by
 intro a0 k
 have ih0 := impl_chi_signs.mono_l k
 unfold impl_chi_signs.f
 repeat' first
   | (with_reducible exact ih0 _ _ _ _ _)
   | (with_reducible exact impl_triplesOf.mono _ _)
   | (with_reducible exact LeO.refl _)
   | (with_reducible exact LeO.none _)
   | (with_reducible refine LeO.ite ?_ ?_)
   | (with_reducible refine LeO.bind ?_ (fun _ => ?_))
   | exact ih0 _ _ _ _ _
   | exact impl_triplesOf.mono _ _
   | exact LeO.none _
   | refine LeO.ite ?_ ?_
   | refine LeO.bind ?_ (fun _ => ?_)
def impl_chi_signs.T5 : Bool × List (List Nat × List Nat) := (true, [([], []), ([], []), ([1], [1]), ([], []), ([3], [3]), ([], []), ([5], [5]), ([0], [0]), ([7], [7]), ([8, 2], [2, 8]), ([9, 4], [4, 9]), ([10, 6], [6, 10]), ([11], [11]), ([12], [12])])
def impl_chi_signs.B5 : List Nat := [0, 0, 2, 0, 8, 0, 32, 1, 129, 391, 927, 2047, 4095, 8191]
theorem impl_chi_signs.tab5 : rtab .any (opsOf Try.f63 5) = impl_chi_signs.T5 := by kernel_rfl
theorem impl_chi_signs.bits5 : waitsOk impl_chi_signs.T5.2 impl_chi_signs.B5 = true := by kernel_rfl
def impl_chi_signs.T9 : Bool × List (List Nat × List Nat) := (true, [([], []), ([0], [0]), ([1], [1]), ([2], [2]), ([], []), ([4], [4]), ([3, 5], [3, 5]), ([6, 0, 1, 2, 3, 4, 5, 6], [6])])
def impl_chi_signs.B9 : List Nat := [0, 1, 3, 7, 0, 16, 63, 127]
theorem impl_chi_signs.tab9 : rtab .any (opsOf Try.f63 9) = impl_chi_signs.T9 := by kernel_rfl
theorem impl_chi_signs.bits9 : waitsOk impl_chi_signs.T9.2 impl_chi_signs.B9 = true := by kernel_rfl
set_option maxHeartbeats 8000000 in
set_option maxRecDepth 100000 in
theorem impl_chi_signs.calls (k : Nat) (g0 : Nat) (l0 : List Int) (r1 : Int) (r2 : ByteArray) (w : World) (hr0 : Kd.C (Kd.int .i64) w (some ⟨g0, 0, none⟩) l0.length l0) (hc0 : l0.length = 344) (h : impl_chi_signs.f k l0 = some (r1, r2)) :
  Calls Try.prog 63 #[.pointer (some ⟨g0, 0, none⟩)] w fun e w' => e = .returned (.agg #[.int .i64 r1, .string r2]) ∧ Below w.heap.size w w' := by
 have hu53 := Try.underlying53
 have hu71 := Try.underlying71
 have hu78 := Try.underlying78
 have hu76 := Try.underlying76
 have hu75 := Try.underlying75
 have hu74 := Try.underlying74
 have HR0 := Aside0.mk hr0
 have HC0 := Aside0.mk hc0
 clear hr0 hc0
 have HB := Aside0.mk (Below.refl w.heap.size w)
 have H : ((impl_triplesOf.f k (rd l0 0)).bind fun t461 => (impl_chi_signs.l0 k l0 ([] : List Int) t461 (t461.length : Int) 0)) = some (r1, r2) := h
 clear h
 replace H := Option.bind_eq_some_iff.mp H
 obtain ⟨t461, A20, H⟩ := H
 replace H : (impl_chi_signs.l0 k l0 ([] : List Int) t461 (t461.length : Int) 0) = some (r1, r2) := H
 have A2 := Aside0.mk A20
 clear A20
 have H' := Aside0.mk H
 clear H
 go_enter Try.func63, Try.ntmps63
 go_wp2_with (first | ((with_reducible refine gate_dst (N := 2) rfl ?_); refine box_event ?hg (N := 2) ?hd (cs := #[.int .i64 0, .string (⟨#[]⟩ : ByteArray)]) (t := 53) ?hr ?_; (case hd => rfl); (case hg => rfl); (case hr => first | (go_simp; done) | (go_simp; rfl)); intro gb459 hg w3 hbox hb; have BK459 := Aside0.mk (hbox); have GW459 := Aside0.mk ((by rw [hg]; exact (below_size zB) : w.heap.size ≤ gb459)); have GE459 := Aside0.mk ((by rw [hg]; exact (below_size zB) : w.heap.size ≤ gb459)); replace HB := Aside0.mk (below_step zB hb); clear hb hbox hg; have hL460 := HC0.out; have dq460 : decide (0 < (l0.length : Int)) = true := decide_eq_true (by omega); clear hL460; have p460 : 0 ≤ (0 : Int) := (by omega); have q460 : 0 < (l0.length : Int) := zA; obtain ⟨ad460, e460, hx460_0⟩ := Kd.at_int HR0.out 0 p460 q460; obtain rfl : (⟨g0, 0, none⟩ : Addr) = ad460 := (by injection e460); (first | simp only [add_plain] at hx460_0 | simp only [add_at] at hx460_0 | simp only [Addr.add, Nat.zero_add] at hx460_0 | skip); have qi460 : (0 < l0.length) = True := eq_true (by omega); (try rw [show ((0 : Int)).toNat = 0 from rfl] at hx460_0); (try rw [Addr.add_zero'] at hx460_0); replace hx460_0 := (HB.out.cell (World.block_lt_of_cell? w _ hx460_0)).trans hx460_0; replace p460 := eq_true p460; replace q460 := eq_true q460; clear dq460) | ((with_reducible refine gate_callee (f := 59) rfl ?_); refine goesL_ (some 10) rfl rfl Try.func59 (by kernel_rfl) rfl #[.int .i64 (rd l0 0)] rfl zM ?_; (with_reducible refine (impl_triplesOf.calls k (rd l0 0) t461 _ A2.out).mono ?_); rintro e w4 ⟨v462, rfl, ho0, hb⟩; refine ⟨_, rfl, ?_⟩; have HO463 := Aside0.mk (Kd.R_lower ho0 (below_size (zG GE459.out))); replace BK459 := Aside0.mk (blk_below (g := gb459) (o := .cells #[.int .i64 0, .string (⟨#[]⟩ : ByteArray)] 53 (0, 0)) (zK BK459.out) hb); replace HB := Aside0.mk (below_step (zG GE459.out) hb); (try clear hb); (try clear ho0); obtain ⟨Ao5, co5, eo5⟩ := Kd.R_slice HO463.out; subst eo5))
 go_loopg [3, 12] k (fun kq v3 v12 w' => ∃ (x3_1 : List Int) (x12_1 : Int), v12 = .int .i64 x12_1 ∧ Aside0 (impl_chi_signs.l0 kq l0 x3_1 t461 (t461.length : Int) x12_1 = some (r1, r2)) ∧ Aside0 (kq ≤ k) ∧ Aside0 (Kd.R (Kd.int .u8) 5 w' w.heap.size (fun _ => True) v3 x3_1) ∧ Aside0 (Kd.R k71 71 w' w.heap.size (fun _ => True) (.slice Ao5 t461.length co5) t461) ∧ Aside0 (w'.heap[gb459]? = some (.cells #[.int .i64 0, .string (⟨#[]⟩ : ByteArray)] 53 (0, 0))) ∧ Aside0 (Below w.heap.size w w'))
 case atStart => exact ⟨(([] : List Int)), (0), zF, H', ⟨Nat.le_refl _⟩, ⟨by first | exact Kd.R_nil _ _ _ _ _ | exact Kd.N_nil _ _ _ _ _ | exact Kd.V_nil _ _ _ _ _ | exact Kd.Q_nil _ _ _ _ _ | exact Kd.S_nil _ _ _ _ _⟩, ⟨zR HO463.out⟩, ⟨zK BK459.out⟩, ⟨zG GE459.out⟩⟩
 case round =>
  clear H'
  try clear p2
  try clear p4
  try clear q4
  try clear hx4
  try clear qi4
  try clear c5
  try clear hx460_0
  try clear p460
  try clear q460
  obtain ⟨x3_1, x12_1, rfl, HA, HK1, HO_3, HO_10, BK459, HB⟩ := hrel
  cases gk with
  | zero => exact absurd HA.out (by simp [impl_chi_signs.l0])
  | succ k1 =>
   have H := HA.out
   clear HA
   simp only [impl_chi_signs.l0] at H
   by_cases c6 : x12_1 < (t461.length : Int)
   ·rw [if_pos c6] at H
    have c6b0 : decide (x12_1 < (t461.length : Int)) = true := decide_eq_true c6
    clear c6
    by_cases c7 : 0 ≤ x12_1
    ·rw [if_pos c7] at H
     have c7b0 : decide (0 ≤ x12_1) = true := decide_eq_true c7
     clear c7
     by_cases c8 : x12_1 < (t461.length : Int)
     ·rw [if_pos c8] at H
      have c8b0 : decide (x12_1 < (t461.length : Int)) = true := decide_eq_true c8
      clear c8
      by_cases c9 : 0 ≤ ((rd_T71 t461 x12_1).f0)
      ·rw [if_pos c9] at H
       have c9b0 : decide (0 ≤ ((rd_T71 t461 x12_1).f0)) = true := decide_eq_true c9
       clear c9
       by_cases c10 : ((rd_T71 t461 x12_1).f0) < 7
       ·rw [if_pos c10] at H
        have c10b0 : decide (((rd_T71 t461 x12_1).f0) < 7) = true := decide_eq_true c10
        clear c10
        by_cases c11 : 0 ≤ ((rd_T71 t461 x12_1).f1)
        ·rw [if_pos c11] at H
         have c11b0 : decide (0 ≤ ((rd_T71 t461 x12_1).f1)) = true := decide_eq_true c11
         clear c11
         by_cases c12 : ((rd_T71 t461 x12_1).f1) < 7
         ·rw [if_pos c12] at H
          have c12b0 : decide (((rd_T71 t461 x12_1).f1) < 7) = true := decide_eq_true c12
          clear c12
          by_cases c13 : 0 ≤ ((rd_T71 t461 x12_1).f2)
          ·rw [if_pos c13] at H
           have c13b0 : decide (0 ≤ ((rd_T71 t461 x12_1).f2)) = true := decide_eq_true c13
           clear c13
           by_cases c14 : ((rd_T71 t461 x12_1).f2) < 7
           ·rw [if_pos c14] at H
            have c14b0 : decide (((rd_T71 t461 x12_1).f2) < 7) = true := decide_eq_true c14
            clear c14
            by_cases c15 : (rd3 l0 ((rd_T71 t461 x12_1).f0) ((rd_T71 t461 x12_1).f1) ((rd_T71 t461 x12_1).f2)) > 0
            ·rw [if_pos c15] at H
             have c15b0 : decide (0 < (rd3 l0 ((rd_T71 t461 x12_1).f0) ((rd_T71 t461 x12_1).f1) ((rd_T71 t461 x12_1).f2))) = true := decide_eq_true c15
             clear c15
             by_cases c16 : x3_1.length < 140737488355328
             ·rw [if_pos c16] at H
              have LMc16 := Aside0.mk c16
              clear c16
              obtain ⟨y467, hy467⟩ : ∃ y_ : List Int, y_ = (x3_1 ++ [43]) := ⟨_, rfl⟩
              replace H : (impl_chi_signs.l0 k1 l0 y467 t461 (t461.length : Int) (wrap64 (x12_1 + 1))) = some (r1, r2) := by first | (rw [hy467]; with_reducible exact H) | (have H2_ := (Option.bind_some _ _).symm.trans H; rw [hy467]; with_reducible exact H2_) | (have H2_ := (Option.bind_some _ _).symm.trans H; with_reducible exact H2_) | with_reducible exact H | (rw [hy467]; exact H) | exact H
              have Ny467 := Aside0.mk hy467
              clear hy467
              have H' := Aside0.mk H
              clear H
              have p464 : 0 ≤ (x12_1 : Int) := zA
              have q464 : x12_1 < (t461.length : Int) := zA
              obtain ⟨ad464, e464, hx464_0, hx464_1, hx464_2⟩ := at_T71 (Kd.R_reads' HO_10.out).2.2 x12_1 p464 q464
              cases e464
              replace p464 := eq_true p464
              replace q464 := eq_true q464
              try go_wp2_with (first | ((with_reducible refine gate_dst (N := 5) rfl ?_); refine box_event ?hg (N := 5) ?hd (cs := #[.int .i64 0, .int .i64 0, .int .i64 0]) (t := 71) ?hr ?_; (case hd => rfl); (case hg => rfl); (case hr => first | (go_simp; done) | (go_simp; rfl)); intro gb465 hg w17 hbox hb; have n0_ := Aside0.mk (Kd.R_below (zR HO_3.out) hb); have n1_ := Aside0.mk (Kd.R_below (Kd.R_elderB (zR HO_10.out) gb465 (Nat.le_of_eq hg.symm)) hb); have n2_ := Aside0.mk (blk_below (g := gb459) (o := .cells #[.int .i64 0, .string (⟨#[]⟩ : ByteArray)] 53 (0, 0)) (zK BK459.out) hb); have n3_ := Aside0.mk (below_step (zG GE459.out) hb); have n4_ := Aside0.mk (hbox); have n5_ := Aside0.mk ((by rw [hg]; exact (below_size (zG GE459.out)) : w.heap.size ≤ gb465)); have n6_ := Aside0.mk ((by rw [hg]; exact (below_size (zG GE459.out)) : w.heap.size ≤ gb465)); have n7_ := Aside0.mk ((by rw [hg]; exact Nat.ne_of_lt (blk_lt (g := gb459) (o := .cells #[.int .i64 0, .string (⟨#[]⟩ : ByteArray)] 53 (0, 0)) (zK BK459.out)) : gb459 ≠ gb465)); have n8_ := Aside0.mk ((by rw [hg]; exact Nat.ne_of_gt (blk_lt (g := gb459) (o := .cells #[.int .i64 0, .string (⟨#[]⟩ : ByteArray)] 53 (0, 0)) (zK BK459.out)) : gb465 ≠ gb459)); clear HO_3; clear HO_10; clear BK459; clear HB; have HO_3 := n0_; have HO_10 := n1_; have BK459 := n2_; have HB := n3_; have BK465 := n4_; have GW465 := n5_; have GE465 := n6_; have NB459_465 := n7_; have NB465_459 := n8_; clear n0_ n1_ n2_ n3_ n4_ n5_ n6_ n7_ n8_; clear hb hbox hg; have hnb18 := NB465_459.out; have hnc18 := NB459_465.out; have hcz19_0 : w17.cell? ⟨gb465, 0, none⟩ = some (.int .i64 0) := (blk_cell BK465.out 0).trans rfl; have hcz19_1 : w17.cell? ⟨gb465, 1, none⟩ = some (.int .i64 0) := (blk_cell BK465.out 1).trans rfl; have hcz19_2 : w17.cell? ⟨gb465, 2, none⟩ = some (.int .i64 0) := (blk_cell BK465.out 2).trans rfl; have hfz19_0 := blk_frozen BK465.out 0; have hfz19_1 := blk_frozen BK465.out 1; have hfz19_2 := blk_frozen BK465.out 2))
              have n0_ : Aside0 (Kd.R (Kd.int .u8) 5 (((w17.setCell ⟨gb465, 0, none⟩ (.int .i64 ((rd_T71 t461 x12_1).f0))).setCell ⟨gb465, 1, none⟩ (.int .i64 ((rd_T71 t461 x12_1).f1))).setCell ⟨gb465, 2, none⟩ (.int .i64 ((rd_T71 t461 x12_1).f2))) w.heap.size (fun _ => True) u3 x3_1) := ⟨by (with_reducible repeat (first | apply Kd.R_alloc | apply Kd.R_drewN | apply Kd.R_drew)); exact Kd.R_mono (Kd.R_far (p := ⟨gb465, 2, none⟩) (Kd.R_far (p := ⟨gb465, 1, none⟩) (Kd.R_far (p := ⟨gb465, 0, none⟩) (Kd.R_types HO_3.out BK465.out (by decide)) (fun _ hk => hk.2) (.int .i64 ((rd_T71 t461 x12_1).f0))) (fun _ hk => hk.2) (.int .i64 ((rd_T71 t461 x12_1).f1))) (fun _ hk => hk.2) (.int .i64 ((rd_T71 t461 x12_1).f2))) (fun _ hk => trivial)⟩
              have n1_ : Aside0 (Kd.R k71 71 (((w17.setCell ⟨gb465, 0, none⟩ (.int .i64 ((rd_T71 t461 x12_1).f0))).setCell ⟨gb465, 1, none⟩ (.int .i64 ((rd_T71 t461 x12_1).f1))).setCell ⟨gb465, 2, none⟩ (.int .i64 ((rd_T71 t461 x12_1).f2))) w.heap.size (fun k_ => k_ ≠ gb465) (.slice (some ad464) t461.length co5) t461) := ⟨by (with_reducible repeat (first | apply Kd.R_alloc | apply Kd.R_drewN | apply Kd.R_drew)); exact Kd.R_mono (Kd.R_far (p := ⟨gb465, 2, none⟩) (Kd.R_far (p := ⟨gb465, 1, none⟩) (Kd.R_far (p := ⟨gb465, 0, none⟩) (Kd.R_mono HO_10.out (fun k_ hk => (⟨hk, hk.2⟩ : _ ∧ k_ ≠ gb465))) (fun _ hk => hk.2) (.int .i64 ((rd_T71 t461 x12_1).f0))) (fun _ hk => hk.2) (.int .i64 ((rd_T71 t461 x12_1).f1))) (fun _ hk => hk.2) (.int .i64 ((rd_T71 t461 x12_1).f2))) (fun _ hk => hk.1.2)⟩
              have n2_ : Aside0 ((((w17.setCell ⟨gb465, 0, none⟩ (.int .i64 ((rd_T71 t461 x12_1).f0))).setCell ⟨gb465, 1, none⟩ (.int .i64 ((rd_T71 t461 x12_1).f1))).setCell ⟨gb465, 2, none⟩ (.int .i64 ((rd_T71 t461 x12_1).f2))).heap[gb459]? = some (.cells #[.int .i64 0, .string (⟨#[]⟩ : ByteArray)] 53 (0, 0))) := ⟨by (with_reducible repeat (first | refine blk_drewN ?_ _ | refine blk_drew ?_ | refine blk_alloc ?_ _)); refine blk_far ?_ NB459_465.out _; (with_reducible repeat (first | refine blk_drewN ?_ _ | refine blk_drew ?_ | refine blk_alloc ?_ _)); refine blk_far ?_ NB459_465.out _; (with_reducible repeat (first | refine blk_drewN ?_ _ | refine blk_drew ?_ | refine blk_alloc ?_ _)); refine blk_far ?_ NB459_465.out _; (with_reducible repeat (first | refine blk_drewN ?_ _ | refine blk_drew ?_ | refine blk_alloc ?_ _)); exact BK459.out⟩
              have n3_ : Aside0 ((((w17.setCell ⟨gb465, 0, none⟩ (.int .i64 ((rd_T71 t461 x12_1).f0))).setCell ⟨gb465, 1, none⟩ (.int .i64 ((rd_T71 t461 x12_1).f1))).setCell ⟨gb465, 2, none⟩ (.int .i64 ((rd_T71 t461 x12_1).f2))).heap[gb465]? = some (.cells #[.int .i64 ((rd_T71 t461 x12_1).f0), .int .i64 ((rd_T71 t461 x12_1).f1), .int .i64 ((rd_T71 t461 x12_1).f2)] 71 (0, 0))) := ⟨by (with_reducible repeat (first | refine blk_drewN ?_ _ | refine blk_drew ?_ | refine blk_alloc ?_ _)); refine blk_put (cs := #[.int .i64 ((rd_T71 t461 x12_1).f0), .int .i64 ((rd_T71 t461 x12_1).f1), .int .i64 0]) ?_ 2 _ rfl; (with_reducible repeat (first | refine blk_drewN ?_ _ | refine blk_drew ?_ | refine blk_alloc ?_ _)); refine blk_put (cs := #[.int .i64 ((rd_T71 t461 x12_1).f0), .int .i64 0, .int .i64 0]) ?_ 1 _ rfl; (with_reducible repeat (first | refine blk_drewN ?_ _ | refine blk_drew ?_ | refine blk_alloc ?_ _)); refine blk_put (cs := #[.int .i64 0, .int .i64 0, .int .i64 0]) ?_ 0 _ rfl; (with_reducible repeat (first | refine blk_drewN ?_ _ | refine blk_drew ?_ | refine blk_alloc ?_ _)); exact BK465.out⟩
              have n4_ : Aside0 (Below w.heap.size w (((w17.setCell ⟨gb465, 0, none⟩ (.int .i64 ((rd_T71 t461 x12_1).f0))).setCell ⟨gb465, 1, none⟩ (.int .i64 ((rd_T71 t461 x12_1).f1))).setCell ⟨gb465, 2, none⟩ (.int .i64 ((rd_T71 t461 x12_1).f2)))) := ⟨by repeat (first | (with_reducible first | exact HB.out | apply below_alloc | apply pw_below_drewN | apply below_drew1 | refine below_set ?_ GE459.out | refine below_set ?_ GE465.out) | exact HB.out)⟩
              (try clear HO_3)
              (try clear HO_10)
              (try clear BK459)
              (try clear BK465)
              (try clear HB)
              generalize (((w17.setCell ⟨gb465, 0, none⟩ (.int .i64 ((rd_T71 t461 x12_1).f0))).setCell ⟨gb465, 1, none⟩ (.int .i64 ((rd_T71 t461 x12_1).f1))).setCell ⟨gb465, 2, none⟩ (.int .i64 ((rd_T71 t461 x12_1).f2))) = w20 at n0_ n1_ n2_ n3_ n4_ ⊢
              have HO_3 := n0_
              have HO_10 := n1_
              have BK459 := n2_
              have BK465 := n3_
              have HB := n4_
              clear n0_ n1_ n2_ n3_ n4_
              have n0_ := Aside0.mk (Kd.R_drew HO_3.out)
              have n1_ := Aside0.mk (Kd.R_drew HO_10.out)
              have n2_ := Aside0.mk (blk_drew BK459.out)
              have n3_ := Aside0.mk (blk_drew BK465.out)
              have n4_ := Aside0.mk (below_drew1 HB.out)
              clear HO_3
              clear HO_10
              clear BK459
              clear BK465
              clear HB
              have HO_3 := n0_
              have HO_10 := n1_
              have BK459 := n2_
              have BK465 := n3_
              have HB := n4_
              clear n0_ n1_ n2_ n3_ n4_
              have pz466_0 : 0 ≤ (((rd_T71 t461 x12_1).f0) : Int) := zA
              have pz466_1 : 0 ≤ (((rd_T71 t461 x12_1).f1) : Int) := zA
              have pz466_2 : 0 ≤ (((rd_T71 t461 x12_1).f2) : Int) := zA
              have qz466_0 : (((rd_T71 t461 x12_1).f0) : Int) < 7 := zA
              have qz466_1 : (((rd_T71 t461 x12_1).f1) : Int) < 7 := zA
              have qz466_2 : (((rd_T71 t461 x12_1).f2) : Int) < 7 := zA
              have hL466 := HC0.out
              have dp466 : decide (0 ≤ ((1 + ((rd_T71 t461 x12_1).f0) * 49 + ((rd_T71 t461 x12_1).f1) * 7 + ((rd_T71 t461 x12_1).f2)) : Int)) = true := decide_eq_true (by omega)
              have dq466 : decide ((1 + ((rd_T71 t461 x12_1).f0) * 49 + ((rd_T71 t461 x12_1).f1) * 7 + ((rd_T71 t461 x12_1).f2)) < (l0.length : Int)) = true := decide_eq_true (by omega)
              clear hL466
              have p466 : 0 ≤ ((1 + ((rd_T71 t461 x12_1).f0) * 49 + ((rd_T71 t461 x12_1).f1) * 7 + ((rd_T71 t461 x12_1).f2)) : Int) := zA
              have q466 : (1 + ((rd_T71 t461 x12_1).f0) * 49 + ((rd_T71 t461 x12_1).f1) * 7 + ((rd_T71 t461 x12_1).f2)) < (l0.length : Int) := zA
              obtain ⟨ad466, e466, hx466_0⟩ := Kd.at_int HR0.out (1 + ((rd_T71 t461 x12_1).f0) * 49 + ((rd_T71 t461 x12_1).f1) * 7 + ((rd_T71 t461 x12_1).f2)) p466 q466
              obtain rfl : (⟨g0, 0, none⟩ : Addr) = ad466 := (by injection e466)
              (first | simp only [add_plain] at hx466_0 | simp only [add_at] at hx466_0 | simp only [Addr.add, Nat.zero_add] at hx466_0 | skip)
              replace hx466_0 := (HB.out.cell (World.block_lt_of_cell? w _ hx466_0)).trans hx466_0
              replace p466 := eq_true p466
              replace q466 := eq_true q466
              clear dp466 dq466
              clear p466 q466
              rw [show ((1 + ((rd_T71 t461 x12_1).f0) * 49 + ((rd_T71 t461 x12_1).f1) * 7 + ((rd_T71 t461 x12_1).f2)) : Int).toNat = 1 + (((rd_T71 t461 x12_1).f0)).toNat * 49 + (((rd_T71 t461 x12_1).f1)).toNat * 7 + (((rd_T71 t461 x12_1).f2)).toNat from by omega] at hx466_0
              change _ = some (Value.int .i64 (rd3 l0 ((rd_T71 t461 x12_1).f0) ((rd_T71 t461 x12_1).f1) ((rd_T71 t461 x12_1).f2))) at hx466_0
              replace pz466_0 := eq_true pz466_0
              replace pz466_1 := eq_true pz466_1
              replace pz466_2 := eq_true pz466_2
              replace qz466_0 := eq_true qz466_0
              replace qz466_1 := eq_true qz466_1
              replace qz466_2 := eq_true qz466_2
              refine start_ (n := 14) (S := fun w' => w'.cell? ⟨gb465, 0, none⟩ = some (.int .i64 ((rd_T71 t461 x12_1).f0)) ∧ w'.cell? ⟨gb465, 1, none⟩ = some (.int .i64 ((rd_T71 t461 x12_1).f1)) ∧ w'.cell? ⟨gb465, 2, none⟩ = some (.int .i64 ((rd_T71 t461 x12_1).f2)) ∧ w'.cell? ⟨g0, 1 + ((rd_T71 t461 x12_1).f0).toNat * 49 + ((rd_T71 t461 x12_1).f1).toNat * 7 + ((rd_T71 t461 x12_1).f2).toNat, none⟩ = some (.int .i64 (rd3 l0 ((rd_T71 t461 x12_1).f0) ((rd_T71 t461 x12_1).f1) ((rd_T71 t461 x12_1).f2)))) (ds := []) #[false, false, false, false, false, false, false, false, false, false, false, false, false, false] (by kernel_rfl) rfl rfl ⟨(blk_cell BK465.out 0).trans rfl, (blk_cell BK465.out 1).trans rfl, (blk_cell BK465.out 2).trans rfl, hx466_0⟩ (fun hHeld => ?_); refine with_tabW impl_chi_signs.tab5 impl_chi_signs.bits5 (fun HT_ HW_ => ?_)
              generalize w20.drew = w21 at HO_3 HO_10 BK459 BK465 HB hx466_0 hHeld ⊢
              refine zP 0 (some 16) rfl rfl ?_
              refine zP 1 (some 17) rfl rfl ?_
              refine zP 3 (some 19) rfl rfl ?_
              refine zP 5 (some 21) rfl rfl ?_
              refine zP 7 (some 23) rfl rfl ?_
              refine zP 8 (some 24) rfl rfl ?_
              refine take_ (i := 2) (N := some 18) (v := ?_) (a' := ?_) #[true, true, true, true, false, true, false, true, true, false, false, false, false, false] rfl rfl (take_ofW HT_.out HW_.out (by kernel_rfl)) (fun _ _ _ h => h) (Or.inl ⟨by rfl, ?_⟩) hHeld ?_ ?_
              rotate_left
              ·rintro w' ⟨s0, s1, s2, s3⟩
               go_simp
               with_reducible rfl
              rotate_left
              ·simp only [Act.put, List.setIfInBounds_toArray, List.set_cons_zero, List.set_cons_succ, i64_w, i32_w]
               rfl
              refine zP 9 (some 25) rfl rfl ?_
              refine take_ (i := 4) (N := some 20) (v := ?_) (a' := ?_) #[true, true, true, true, true, true, false, true, true, true, false, false, false, false] rfl rfl (take_ofW HT_.out HW_.out (by kernel_rfl)) (fun _ _ _ h => h) (Or.inl ⟨by rfl, ?_⟩) hHeld ?_ ?_
              rotate_left
              ·rintro w' ⟨s0, s1, s2, s3⟩
               go_simp
               with_reducible rfl
              rotate_left
              ·simp only [Act.put, List.setIfInBounds_toArray, List.set_cons_zero, List.set_cons_succ, i64_w, i32_w]
               rfl
              refine zP 10 (some 26) rfl rfl ?_
              refine take_ (i := 6) (N := some 22) (v := ?_) (a' := ?_) #[true, true, true, true, true, true, true, true, true, true, true, false, false, false] rfl rfl (take_ofW HT_.out HW_.out (by kernel_rfl)) (fun _ _ _ h => h) (Or.inl ⟨by rfl, ?_⟩) hHeld ?_ ?_
              rotate_left
              ·rintro w' ⟨s0, s1, s2, s3⟩
               go_simp
               with_reducible rfl
              rotate_left
              ·simp only [Act.put, List.setIfInBounds_toArray, List.set_cons_zero, List.set_cons_succ, i64_w, i32_w]
               rfl
              refine zP 11 (some 27) rfl rfl ?_
              refine take_ (i := 12) (N := some 28) (v := ?_) (a' := ?_) #[true, true, true, true, true, true, true, true, true, true, true, true, true, false] rfl rfl (take_ofW HT_.out HW_.out (by kernel_rfl)) (fun _ _ _ h => h) (Or.inl ⟨by rfl, ?_⟩) hHeld ?_ ?_
              rotate_left
              ·rintro w' ⟨s0, s1, s2, s3⟩
               go_simp
               with_reducible rfl
              rotate_left
              ·simp only [Act.put, List.setIfInBounds_toArray, List.set_cons_zero, List.set_cons_succ, i64_w, i32_w]
               rfl
              refine zP 13 (some 29) rfl rfl ?_
              refine done_ (done_of HT_.out (by kernel_rfl)) ?_
              try go_wp2_with (first | ((with_reducible refine gate_builtin (b := .append) (xs := #[.tmp 30, .tmp 31]) rfl ?_); at_builtin; refine Kd.R_append (Kd.int .u8) (w0 := w) w.heap.size rfl (.tmp 30) (.tmp 31) 42 5 (.int .u8 0) 1 rfl Try.underlying42 info5 rfl (by decide) (by omega) u3 x3_1 43 [.int .u8 43] (fun _ => True) (fun _ => False) rfl rfl ?aP (fun _ hk => hk.elim) ?aF ?aO ?aB ?aS ?aL ?_; (case aP => exact rfl); (case aB => exact (by repeat (first | (with_reducible first | exact HB.out | apply below_alloc | apply pw_below_drewN | apply below_drew1 | refine below_set ?_ GE459.out | refine below_set ?_ GE465.out) | exact HB.out))); (case aF => exact (fun _ _ => trivial)); (case aO => exact (zR HO_3.out)); (case aS => exact (below_size (by repeat (first | (with_reducible first | exact HB.out | apply below_alloc | apply pw_below_drewN | apply below_drew1 | refine below_set ?_ GE459.out | refine below_set ?_ GE465.out) | exact HB.out)))); (case aL => have := LMc16.out; omega); intro v468 w22 ho hb hg hat; rw [← Ny467.out] at ho; have n0_ := Aside0.mk (Kd.R_over' (zR HO_10.out) (Kd.R_typed (zR HO_3.out)) (by decide) hg); have n1_ := Aside0.mk (blk_grown (g := gb459) (o := .cells #[.int .i64 0, .string (⟨#[]⟩ : ByteArray)] 53 (0, 0)) (zK BK459.out) hg (Kd.R_ne HO_3.out BK459.out (by decide))); have n2_ := Aside0.mk (blk_grown (g := gb465) (o := .cells #[.int .i64 ((rd_T71 t461 x12_1).f0), .int .i64 ((rd_T71 t461 x12_1).f1), .int .i64 ((rd_T71 t461 x12_1).f2)] 71 (0, 0)) (zK BK465.out) hg (Kd.R_ne HO_3.out BK465.out (by decide))); have n3_ := Aside0.mk (hb); have n4_ := Aside0.mk (ho); clear HO_10; clear BK459; clear BK465; clear HB; clear HO_3; have HO_10 := n0_; have BK459 := n1_; have BK465 := n2_; have HB := n3_; have HO469 := n4_; clear n0_ n1_ n2_ n3_ n4_; clear ho hb hg hat))
              refine Handed.intro k1 ?measure ?_
              rotate_left
              go_step
              (repeat apply Exists.intro)
              refine ⟨?rel, ?fr⟩
              case fr => with_reducible rfl
              case measure => have := HK1.out; omega
              case rel => exact ⟨(y467), (wrap64 (x12_1 + 1)), zF, H', ⟨by have := HK1.out; omega⟩, ⟨zR HO469.out⟩, ⟨by (with_reducible repeat (first | apply Kd.R_alloc | apply Kd.R_drewN | apply Kd.R_drew)); exact Kd.R_mono HO_10.out (fun _ hk => trivial)⟩, ⟨zK BK459.out⟩, ⟨by repeat (first | (with_reducible first | exact HB.out | apply below_alloc | apply pw_below_drewN | apply below_drew1 | refine below_set ?_ GE459.out | refine below_set ?_ GE465.out) | exact HB.out)⟩⟩
             ·rw [if_neg c16] at H
              exact absurd H (by simp)
            ·rw [if_neg c15] at H
             have c15b0 : decide (0 < (rd3 l0 ((rd_T71 t461 x12_1).f0) ((rd_T71 t461 x12_1).f1) ((rd_T71 t461 x12_1).f2))) = false := decide_eq_false c15
             clear c15
             by_cases c23 : x3_1.length < 140737488355328
             ·rw [if_pos c23] at H
              have LMc23 := Aside0.mk c23
              clear c23
              obtain ⟨y470, hy470⟩ : ∃ y_ : List Int, y_ = (x3_1 ++ [45]) := ⟨_, rfl⟩
              replace H : (impl_chi_signs.l0 k1 l0 y470 t461 (t461.length : Int) (wrap64 (x12_1 + 1))) = some (r1, r2) := by first | (rw [hy470]; with_reducible exact H) | (have H2_ := (Option.bind_some _ _).symm.trans H; rw [hy470]; with_reducible exact H2_) | (have H2_ := (Option.bind_some _ _).symm.trans H; with_reducible exact H2_) | with_reducible exact H | (rw [hy470]; exact H) | exact H
              have Ny470 := Aside0.mk hy470
              clear hy470
              have H' := Aside0.mk H
              clear H
              have p464 : 0 ≤ (x12_1 : Int) := zA
              have q464 : x12_1 < (t461.length : Int) := zA
              obtain ⟨ad464, e464, hx464_0, hx464_1, hx464_2⟩ := at_T71 (Kd.R_reads' HO_10.out).2.2 x12_1 p464 q464
              cases e464
              replace p464 := eq_true p464
              replace q464 := eq_true q464
              try go_wp2_with (first | ((with_reducible refine gate_dst (N := 5) rfl ?_); refine box_event ?hg (N := 5) ?hd (cs := #[.int .i64 0, .int .i64 0, .int .i64 0]) (t := 71) ?hr ?_; (case hd => rfl); (case hg => rfl); (case hr => first | (go_simp; done) | (go_simp; rfl)); intro gb465 hg w24 hbox hb; have n0_ := Aside0.mk (Kd.R_below (zR HO_3.out) hb); have n1_ := Aside0.mk (Kd.R_below (Kd.R_elderB (zR HO_10.out) gb465 (Nat.le_of_eq hg.symm)) hb); have n2_ := Aside0.mk (blk_below (g := gb459) (o := .cells #[.int .i64 0, .string (⟨#[]⟩ : ByteArray)] 53 (0, 0)) (zK BK459.out) hb); have n3_ := Aside0.mk (below_step (zG GE459.out) hb); have n4_ := Aside0.mk (hbox); have n5_ := Aside0.mk ((by rw [hg]; exact (below_size (zG GE459.out)) : w.heap.size ≤ gb465)); have n6_ := Aside0.mk ((by rw [hg]; exact (below_size (zG GE459.out)) : w.heap.size ≤ gb465)); have n7_ := Aside0.mk ((by rw [hg]; exact Nat.ne_of_lt (blk_lt (g := gb459) (o := .cells #[.int .i64 0, .string (⟨#[]⟩ : ByteArray)] 53 (0, 0)) (zK BK459.out)) : gb459 ≠ gb465)); have n8_ := Aside0.mk ((by rw [hg]; exact Nat.ne_of_gt (blk_lt (g := gb459) (o := .cells #[.int .i64 0, .string (⟨#[]⟩ : ByteArray)] 53 (0, 0)) (zK BK459.out)) : gb465 ≠ gb459)); clear HO_3; clear HO_10; clear BK459; clear HB; have HO_3 := n0_; have HO_10 := n1_; have BK459 := n2_; have HB := n3_; have BK465 := n4_; have GW465 := n5_; have GE465 := n6_; have NB459_465 := n7_; have NB465_459 := n8_; clear n0_ n1_ n2_ n3_ n4_ n5_ n6_ n7_ n8_; clear hb hbox hg; have hnb25 := NB465_459.out; have hnc25 := NB459_465.out; have hcz26_0 : w24.cell? ⟨gb465, 0, none⟩ = some (.int .i64 0) := (blk_cell BK465.out 0).trans rfl; have hcz26_1 : w24.cell? ⟨gb465, 1, none⟩ = some (.int .i64 0) := (blk_cell BK465.out 1).trans rfl; have hcz26_2 : w24.cell? ⟨gb465, 2, none⟩ = some (.int .i64 0) := (blk_cell BK465.out 2).trans rfl; have hfz26_0 := blk_frozen BK465.out 0; have hfz26_1 := blk_frozen BK465.out 1; have hfz26_2 := blk_frozen BK465.out 2))
              have n0_ : Aside0 (Kd.R (Kd.int .u8) 5 (((w24.setCell ⟨gb465, 0, none⟩ (.int .i64 ((rd_T71 t461 x12_1).f0))).setCell ⟨gb465, 1, none⟩ (.int .i64 ((rd_T71 t461 x12_1).f1))).setCell ⟨gb465, 2, none⟩ (.int .i64 ((rd_T71 t461 x12_1).f2))) w.heap.size (fun _ => True) u3 x3_1) := ⟨by (with_reducible repeat (first | apply Kd.R_alloc | apply Kd.R_drewN | apply Kd.R_drew)); exact Kd.R_mono (Kd.R_far (p := ⟨gb465, 2, none⟩) (Kd.R_far (p := ⟨gb465, 1, none⟩) (Kd.R_far (p := ⟨gb465, 0, none⟩) (Kd.R_types HO_3.out BK465.out (by decide)) (fun _ hk => hk.2) (.int .i64 ((rd_T71 t461 x12_1).f0))) (fun _ hk => hk.2) (.int .i64 ((rd_T71 t461 x12_1).f1))) (fun _ hk => hk.2) (.int .i64 ((rd_T71 t461 x12_1).f2))) (fun _ hk => trivial)⟩
              have n1_ : Aside0 (Kd.R k71 71 (((w24.setCell ⟨gb465, 0, none⟩ (.int .i64 ((rd_T71 t461 x12_1).f0))).setCell ⟨gb465, 1, none⟩ (.int .i64 ((rd_T71 t461 x12_1).f1))).setCell ⟨gb465, 2, none⟩ (.int .i64 ((rd_T71 t461 x12_1).f2))) w.heap.size (fun k_ => k_ ≠ gb465) (.slice (some ad464) t461.length co5) t461) := ⟨by (with_reducible repeat (first | apply Kd.R_alloc | apply Kd.R_drewN | apply Kd.R_drew)); exact Kd.R_mono (Kd.R_far (p := ⟨gb465, 2, none⟩) (Kd.R_far (p := ⟨gb465, 1, none⟩) (Kd.R_far (p := ⟨gb465, 0, none⟩) (Kd.R_mono HO_10.out (fun k_ hk => (⟨hk, hk.2⟩ : _ ∧ k_ ≠ gb465))) (fun _ hk => hk.2) (.int .i64 ((rd_T71 t461 x12_1).f0))) (fun _ hk => hk.2) (.int .i64 ((rd_T71 t461 x12_1).f1))) (fun _ hk => hk.2) (.int .i64 ((rd_T71 t461 x12_1).f2))) (fun _ hk => hk.1.2)⟩
              have n2_ : Aside0 ((((w24.setCell ⟨gb465, 0, none⟩ (.int .i64 ((rd_T71 t461 x12_1).f0))).setCell ⟨gb465, 1, none⟩ (.int .i64 ((rd_T71 t461 x12_1).f1))).setCell ⟨gb465, 2, none⟩ (.int .i64 ((rd_T71 t461 x12_1).f2))).heap[gb459]? = some (.cells #[.int .i64 0, .string (⟨#[]⟩ : ByteArray)] 53 (0, 0))) := ⟨by (with_reducible repeat (first | refine blk_drewN ?_ _ | refine blk_drew ?_ | refine blk_alloc ?_ _)); refine blk_far ?_ NB459_465.out _; (with_reducible repeat (first | refine blk_drewN ?_ _ | refine blk_drew ?_ | refine blk_alloc ?_ _)); refine blk_far ?_ NB459_465.out _; (with_reducible repeat (first | refine blk_drewN ?_ _ | refine blk_drew ?_ | refine blk_alloc ?_ _)); refine blk_far ?_ NB459_465.out _; (with_reducible repeat (first | refine blk_drewN ?_ _ | refine blk_drew ?_ | refine blk_alloc ?_ _)); exact BK459.out⟩
              have n3_ : Aside0 ((((w24.setCell ⟨gb465, 0, none⟩ (.int .i64 ((rd_T71 t461 x12_1).f0))).setCell ⟨gb465, 1, none⟩ (.int .i64 ((rd_T71 t461 x12_1).f1))).setCell ⟨gb465, 2, none⟩ (.int .i64 ((rd_T71 t461 x12_1).f2))).heap[gb465]? = some (.cells #[.int .i64 ((rd_T71 t461 x12_1).f0), .int .i64 ((rd_T71 t461 x12_1).f1), .int .i64 ((rd_T71 t461 x12_1).f2)] 71 (0, 0))) := ⟨by (with_reducible repeat (first | refine blk_drewN ?_ _ | refine blk_drew ?_ | refine blk_alloc ?_ _)); refine blk_put (cs := #[.int .i64 ((rd_T71 t461 x12_1).f0), .int .i64 ((rd_T71 t461 x12_1).f1), .int .i64 0]) ?_ 2 _ rfl; (with_reducible repeat (first | refine blk_drewN ?_ _ | refine blk_drew ?_ | refine blk_alloc ?_ _)); refine blk_put (cs := #[.int .i64 ((rd_T71 t461 x12_1).f0), .int .i64 0, .int .i64 0]) ?_ 1 _ rfl; (with_reducible repeat (first | refine blk_drewN ?_ _ | refine blk_drew ?_ | refine blk_alloc ?_ _)); refine blk_put (cs := #[.int .i64 0, .int .i64 0, .int .i64 0]) ?_ 0 _ rfl; (with_reducible repeat (first | refine blk_drewN ?_ _ | refine blk_drew ?_ | refine blk_alloc ?_ _)); exact BK465.out⟩
              have n4_ : Aside0 (Below w.heap.size w (((w24.setCell ⟨gb465, 0, none⟩ (.int .i64 ((rd_T71 t461 x12_1).f0))).setCell ⟨gb465, 1, none⟩ (.int .i64 ((rd_T71 t461 x12_1).f1))).setCell ⟨gb465, 2, none⟩ (.int .i64 ((rd_T71 t461 x12_1).f2)))) := ⟨by repeat (first | (with_reducible first | exact HB.out | apply below_alloc | apply pw_below_drewN | apply below_drew1 | refine below_set ?_ GE459.out | refine below_set ?_ GE465.out) | exact HB.out)⟩
              (try clear HO_3)
              (try clear HO_10)
              (try clear BK459)
              (try clear BK465)
              (try clear HB)
              generalize (((w24.setCell ⟨gb465, 0, none⟩ (.int .i64 ((rd_T71 t461 x12_1).f0))).setCell ⟨gb465, 1, none⟩ (.int .i64 ((rd_T71 t461 x12_1).f1))).setCell ⟨gb465, 2, none⟩ (.int .i64 ((rd_T71 t461 x12_1).f2))) = w27 at n0_ n1_ n2_ n3_ n4_ ⊢
              have HO_3 := n0_
              have HO_10 := n1_
              have BK459 := n2_
              have BK465 := n3_
              have HB := n4_
              clear n0_ n1_ n2_ n3_ n4_
              have n0_ := Aside0.mk (Kd.R_drew HO_3.out)
              have n1_ := Aside0.mk (Kd.R_drew HO_10.out)
              have n2_ := Aside0.mk (blk_drew BK459.out)
              have n3_ := Aside0.mk (blk_drew BK465.out)
              have n4_ := Aside0.mk (below_drew1 HB.out)
              clear HO_3
              clear HO_10
              clear BK459
              clear BK465
              clear HB
              have HO_3 := n0_
              have HO_10 := n1_
              have BK459 := n2_
              have BK465 := n3_
              have HB := n4_
              clear n0_ n1_ n2_ n3_ n4_
              have pz466_0 : 0 ≤ (((rd_T71 t461 x12_1).f0) : Int) := zA
              have pz466_1 : 0 ≤ (((rd_T71 t461 x12_1).f1) : Int) := zA
              have pz466_2 : 0 ≤ (((rd_T71 t461 x12_1).f2) : Int) := zA
              have qz466_0 : (((rd_T71 t461 x12_1).f0) : Int) < 7 := zA
              have qz466_1 : (((rd_T71 t461 x12_1).f1) : Int) < 7 := zA
              have qz466_2 : (((rd_T71 t461 x12_1).f2) : Int) < 7 := zA
              have hL466 := HC0.out
              have dp466 : decide (0 ≤ ((1 + ((rd_T71 t461 x12_1).f0) * 49 + ((rd_T71 t461 x12_1).f1) * 7 + ((rd_T71 t461 x12_1).f2)) : Int)) = true := decide_eq_true (by omega)
              have dq466 : decide ((1 + ((rd_T71 t461 x12_1).f0) * 49 + ((rd_T71 t461 x12_1).f1) * 7 + ((rd_T71 t461 x12_1).f2)) < (l0.length : Int)) = true := decide_eq_true (by omega)
              clear hL466
              have p466 : 0 ≤ ((1 + ((rd_T71 t461 x12_1).f0) * 49 + ((rd_T71 t461 x12_1).f1) * 7 + ((rd_T71 t461 x12_1).f2)) : Int) := zA
              have q466 : (1 + ((rd_T71 t461 x12_1).f0) * 49 + ((rd_T71 t461 x12_1).f1) * 7 + ((rd_T71 t461 x12_1).f2)) < (l0.length : Int) := zA
              obtain ⟨ad466, e466, hx466_0⟩ := Kd.at_int HR0.out (1 + ((rd_T71 t461 x12_1).f0) * 49 + ((rd_T71 t461 x12_1).f1) * 7 + ((rd_T71 t461 x12_1).f2)) p466 q466
              obtain rfl : (⟨g0, 0, none⟩ : Addr) = ad466 := (by injection e466)
              (first | simp only [add_plain] at hx466_0 | simp only [add_at] at hx466_0 | simp only [Addr.add, Nat.zero_add] at hx466_0 | skip)
              replace hx466_0 := (HB.out.cell (World.block_lt_of_cell? w _ hx466_0)).trans hx466_0
              replace p466 := eq_true p466
              replace q466 := eq_true q466
              clear dp466 dq466
              clear p466 q466
              rw [show ((1 + ((rd_T71 t461 x12_1).f0) * 49 + ((rd_T71 t461 x12_1).f1) * 7 + ((rd_T71 t461 x12_1).f2)) : Int).toNat = 1 + (((rd_T71 t461 x12_1).f0)).toNat * 49 + (((rd_T71 t461 x12_1).f1)).toNat * 7 + (((rd_T71 t461 x12_1).f2)).toNat from by omega] at hx466_0
              change _ = some (Value.int .i64 (rd3 l0 ((rd_T71 t461 x12_1).f0) ((rd_T71 t461 x12_1).f1) ((rd_T71 t461 x12_1).f2))) at hx466_0
              replace pz466_0 := eq_true pz466_0
              replace pz466_1 := eq_true pz466_1
              replace pz466_2 := eq_true pz466_2
              replace qz466_0 := eq_true qz466_0
              replace qz466_1 := eq_true qz466_1
              replace qz466_2 := eq_true qz466_2
              refine start_ (n := 14) (S := fun w' => w'.cell? ⟨gb465, 0, none⟩ = some (.int .i64 ((rd_T71 t461 x12_1).f0)) ∧ w'.cell? ⟨gb465, 1, none⟩ = some (.int .i64 ((rd_T71 t461 x12_1).f1)) ∧ w'.cell? ⟨gb465, 2, none⟩ = some (.int .i64 ((rd_T71 t461 x12_1).f2)) ∧ w'.cell? ⟨g0, 1 + ((rd_T71 t461 x12_1).f0).toNat * 49 + ((rd_T71 t461 x12_1).f1).toNat * 7 + ((rd_T71 t461 x12_1).f2).toNat, none⟩ = some (.int .i64 (rd3 l0 ((rd_T71 t461 x12_1).f0) ((rd_T71 t461 x12_1).f1) ((rd_T71 t461 x12_1).f2)))) (ds := []) #[false, false, false, false, false, false, false, false, false, false, false, false, false, false] (by kernel_rfl) rfl rfl ⟨(blk_cell BK465.out 0).trans rfl, (blk_cell BK465.out 1).trans rfl, (blk_cell BK465.out 2).trans rfl, hx466_0⟩ (fun hHeld => ?_); refine with_tabW impl_chi_signs.tab5 impl_chi_signs.bits5 (fun HT_ HW_ => ?_)
              generalize w27.drew = w28 at HO_3 HO_10 BK459 BK465 HB hx466_0 hHeld ⊢
              refine zP 0 (some 16) rfl rfl ?_
              refine zP 1 (some 17) rfl rfl ?_
              refine zP 3 (some 19) rfl rfl ?_
              refine zP 5 (some 21) rfl rfl ?_
              refine zP 7 (some 23) rfl rfl ?_
              refine zP 8 (some 24) rfl rfl ?_
              refine take_ (i := 2) (N := some 18) (v := ?_) (a' := ?_) #[true, true, true, true, false, true, false, true, true, false, false, false, false, false] rfl rfl (take_ofW HT_.out HW_.out (by kernel_rfl)) (fun _ _ _ h => h) (Or.inl ⟨by rfl, ?_⟩) hHeld ?_ ?_
              rotate_left
              ·rintro w' ⟨s0, s1, s2, s3⟩
               go_simp
               with_reducible rfl
              rotate_left
              ·simp only [Act.put, List.setIfInBounds_toArray, List.set_cons_zero, List.set_cons_succ, i64_w, i32_w]
               rfl
              refine zP 9 (some 25) rfl rfl ?_
              refine take_ (i := 4) (N := some 20) (v := ?_) (a' := ?_) #[true, true, true, true, true, true, false, true, true, true, false, false, false, false] rfl rfl (take_ofW HT_.out HW_.out (by kernel_rfl)) (fun _ _ _ h => h) (Or.inl ⟨by rfl, ?_⟩) hHeld ?_ ?_
              rotate_left
              ·rintro w' ⟨s0, s1, s2, s3⟩
               go_simp
               with_reducible rfl
              rotate_left
              ·simp only [Act.put, List.setIfInBounds_toArray, List.set_cons_zero, List.set_cons_succ, i64_w, i32_w]
               rfl
              refine zP 10 (some 26) rfl rfl ?_
              refine take_ (i := 6) (N := some 22) (v := ?_) (a' := ?_) #[true, true, true, true, true, true, true, true, true, true, true, false, false, false] rfl rfl (take_ofW HT_.out HW_.out (by kernel_rfl)) (fun _ _ _ h => h) (Or.inl ⟨by rfl, ?_⟩) hHeld ?_ ?_
              rotate_left
              ·rintro w' ⟨s0, s1, s2, s3⟩
               go_simp
               with_reducible rfl
              rotate_left
              ·simp only [Act.put, List.setIfInBounds_toArray, List.set_cons_zero, List.set_cons_succ, i64_w, i32_w]
               rfl
              refine zP 11 (some 27) rfl rfl ?_
              refine take_ (i := 12) (N := some 28) (v := ?_) (a' := ?_) #[true, true, true, true, true, true, true, true, true, true, true, true, true, false] rfl rfl (take_ofW HT_.out HW_.out (by kernel_rfl)) (fun _ _ _ h => h) (Or.inl ⟨by rfl, ?_⟩) hHeld ?_ ?_
              rotate_left
              ·rintro w' ⟨s0, s1, s2, s3⟩
               go_simp
               with_reducible rfl
              rotate_left
              ·simp only [Act.put, List.setIfInBounds_toArray, List.set_cons_zero, List.set_cons_succ, i64_w, i32_w]
               rfl
              refine zP 13 (some 29) rfl rfl ?_
              refine done_ (done_of HT_.out (by kernel_rfl)) ?_
              try go_wp2_with (first | ((with_reducible refine gate_builtin (b := .append) (xs := #[.tmp 33, .tmp 34]) rfl ?_); at_builtin; refine Kd.R_append (Kd.int .u8) (w0 := w) w.heap.size rfl (.tmp 33) (.tmp 34) 42 5 (.int .u8 0) 1 rfl Try.underlying42 info5 rfl (by decide) (by omega) u3 x3_1 45 [.int .u8 45] (fun _ => True) (fun _ => False) rfl rfl ?aP (fun _ hk => hk.elim) ?aF ?aO ?aB ?aS ?aL ?_; (case aP => exact rfl); (case aB => exact (by repeat (first | (with_reducible first | exact HB.out | apply below_alloc | apply pw_below_drewN | apply below_drew1 | refine below_set ?_ GE459.out | refine below_set ?_ GE465.out) | exact HB.out))); (case aF => exact (fun _ _ => trivial)); (case aO => exact (zR HO_3.out)); (case aS => exact (below_size (by repeat (first | (with_reducible first | exact HB.out | apply below_alloc | apply pw_below_drewN | apply below_drew1 | refine below_set ?_ GE459.out | refine below_set ?_ GE465.out) | exact HB.out)))); (case aL => have := LMc23.out; omega); intro v471 w29 ho hb hg hat; rw [← Ny470.out] at ho; have n0_ := Aside0.mk (Kd.R_over' (zR HO_10.out) (Kd.R_typed (zR HO_3.out)) (by decide) hg); have n1_ := Aside0.mk (blk_grown (g := gb459) (o := .cells #[.int .i64 0, .string (⟨#[]⟩ : ByteArray)] 53 (0, 0)) (zK BK459.out) hg (Kd.R_ne HO_3.out BK459.out (by decide))); have n2_ := Aside0.mk (blk_grown (g := gb465) (o := .cells #[.int .i64 ((rd_T71 t461 x12_1).f0), .int .i64 ((rd_T71 t461 x12_1).f1), .int .i64 ((rd_T71 t461 x12_1).f2)] 71 (0, 0)) (zK BK465.out) hg (Kd.R_ne HO_3.out BK465.out (by decide))); have n3_ := Aside0.mk (hb); have n4_ := Aside0.mk (ho); clear HO_10; clear BK459; clear BK465; clear HB; clear HO_3; have HO_10 := n0_; have BK459 := n1_; have BK465 := n2_; have HB := n3_; have HO472 := n4_; clear n0_ n1_ n2_ n3_ n4_; clear ho hb hg hat))
              refine Handed.intro k1 ?measure ?_
              rotate_left
              go_step
              (repeat apply Exists.intro)
              refine ⟨?rel, ?fr⟩
              case fr => with_reducible rfl
              case measure => have := HK1.out; omega
              case rel => exact ⟨(y470), (wrap64 (x12_1 + 1)), zF, H', ⟨by have := HK1.out; omega⟩, ⟨zR HO472.out⟩, ⟨by (with_reducible repeat (first | apply Kd.R_alloc | apply Kd.R_drewN | apply Kd.R_drew)); exact Kd.R_mono HO_10.out (fun _ hk => trivial)⟩, ⟨zK BK459.out⟩, ⟨by repeat (first | (with_reducible first | exact HB.out | apply below_alloc | apply pw_below_drewN | apply below_drew1 | refine below_set ?_ GE459.out | refine below_set ?_ GE465.out) | exact HB.out)⟩⟩
             ·rw [if_neg c23] at H
              exact absurd H (by simp)
           ·rw [if_neg c14] at H
            exact absurd H (by simp)
          ·rw [if_neg c13] at H
           exact absurd H (by simp)
         ·rw [if_neg c12] at H
          exact absurd H (by simp)
        ·rw [if_neg c11] at H
         exact absurd H (by simp)
       ·rw [if_neg c10] at H
        exact absurd H (by simp)
      ·rw [if_neg c9] at H
       exact absurd H (by simp)
     ·rw [if_neg c8] at H
      exact absurd H (by simp)
    ·rw [if_neg c7] at H
     exact absurd H (by simp)
   ·rw [if_neg c6] at H
    have c6b0 : decide (x12_1 < (t461.length : Int)) = false := decide_eq_false c6
    clear c6
    simp only [Option.some.injEq, Prod.mk.injEq] at H
    obtain ⟨rfl, rfl⟩ := H
    try go_wp2
    have n0_ := Aside0.mk (Kd.R_drew HO_3.out)
    have n1_ := Aside0.mk (Kd.R_drew HO_10.out)
    have n2_ := Aside0.mk (blk_drew BK459.out)
    have n3_ := Aside0.mk (below_drew1 HB.out)
    clear HO_3
    clear HO_10
    clear BK459
    clear HB
    have HO_3 := n0_
    have HO_10 := n1_
    have BK459 := n2_
    have HB := n3_
    clear n0_ n1_ n2_ n3_
    have hL473 := HC0.out
    have dq473 : decide (0 < (l0.length : Int)) = true := decide_eq_true (by omega)
    clear hL473
    have p473 : 0 ≤ (0 : Int) := (by omega)
    have q473 : 0 < (l0.length : Int) := zA
    obtain ⟨ad473, e473, hx473_0⟩ := Kd.at_int HR0.out 0 p473 q473
    obtain rfl : (⟨g0, 0, none⟩ : Addr) = ad473 := (by injection e473)
    (first | simp only [add_plain] at hx473_0 | simp only [add_at] at hx473_0 | simp only [Addr.add, Nat.zero_add] at hx473_0 | skip)
    have qi473 : (0 < l0.length) = True := eq_true (by omega)
    (try rw [show ((0 : Int)).toNat = 0 from rfl] at hx473_0)
    (try rw [Addr.add_zero'] at hx473_0)
    have hlt_ := World.block_lt_of_cell? w _ hx473_0
    replace hx473_0 := (HB.out.cell (World.block_lt_of_cell? w _ hx473_0)).trans hx473_0
    replace p473 := eq_true p473
    replace q473 := eq_true q473
    clear dq473
    have hcv31 := own_string (P := Try.prog) Try.underlying42 Try.underlying5 Try.underlying9 (Kd.own_of_R HO_3.out)
    refine start_ (n := 8) (S := fun w' => w'.cell? ⟨g0, 0, none⟩ = some (.int .i64 (rd l0 0)) ∧ (convert 42 9 u3).run Try.prog w' = .ok (.string (strOfNums x3_1)) w') (ds := []) #[false, false, false, false, false, false, false, false] (by kernel_rfl) rfl rfl ⟨hx473_0, hcv31⟩ (fun hHeld => ?_); refine with_tabW impl_chi_signs.tab9 impl_chi_signs.bits9 (fun HT_ HW_ => ?_)
    generalize wr.drew = w30 at HO_3 HO_10 BK459 HB hx473_0 hHeld ⊢
    refine zP 0 (some 37) rfl rfl ?_
    refine zP 1 (some 38) rfl rfl ?_
    refine zP 2 (some 39) rfl rfl ?_
    refine zP 4 (some 41) rfl rfl ?_
    refine take_ (i := 5) (N := some 42) (v := ?_) (a' := ?_) #[true, true, true, false, true, true, false, false] rfl rfl (take_ofW HT_.out HW_.out (by kernel_rfl)) (fun _ _ _ h => h) (Or.inl ⟨by rfl, ?_⟩) hHeld ?_ ?_
    rotate_left
    ·rintro w' ⟨s0, s1⟩
     go_simp
     with_reducible rfl
    rotate_left
    ·simp only [Act.put, List.setIfInBounds_toArray, List.set_cons_zero, List.set_cons_succ, i64_w, i32_w]
     rfl
    refine take_ (i := 3) (N := some 40) (v := ?_) (a' := ?_) #[true, true, true, true, true, true, false, false] rfl rfl (take_ofW HT_.out HW_.out (by kernel_rfl)) (fun _ _ _ h => h) (Or.inl ⟨by rfl, ?_⟩) hHeld ?_ ?_
    rotate_left
    ·rintro w' ⟨s0, s1⟩
     go_simp
     with_reducible rfl
    rotate_left
    ·simp only [Act.put, List.setIfInBounds_toArray, List.set_cons_zero, List.set_cons_succ, i64_w, i32_w]
     rfl
    refine zP 6 (some 43) rfl rfl ?_
    refine one_ (i := 7) (N := none) #[true, true, true, true, true, true, true, true] rfl rfl (one_of HT_.out (by kernel_rfl)) (by decide) (fun K hK => ?_)
    have hs32 : w30.cell? ⟨gb459, 0, none⟩ = some (.int .i64 0) := (blk_cell BK459.out 0).trans rfl
    have hfs32 := blk_frozen BK459.out 0
    have hs33 : w30.cell? ⟨gb459, 1, none⟩ = some (.string (⟨#[]⟩ : ByteArray)) := (blk_cell BK459.out 1).trans rfl
    have hfs33 := blk_frozen BK459.out 1
    refine skip_ (w1 := ?_) (by rfl) rfl ?_ ?_
    rotate_left
    ·go_simp
     rfl
    have hne_ : ∀ q_ : Nat, ¬ (⟨gb459, q_, none⟩ : Addr) = ⟨g0, 0, none⟩ := fun q_ e_ => by
     have h1_ := GE459.out
     have h2_ : gb459 = g0 := congrArg Addr.block e_
     have h3_ : g0 < w.heap.size := hlt_
     omega
    refine hK.out _ _ ⟨by rw [World.cell?_setCell_other _ _ _ _ (hne_ _), World.cell?_setCell_other _ _ _ _ (hne_ _)]; exact hx473_0, own_string (P := Try.prog) Try.underlying42 Try.underlying5 Try.underlying9 (Kd.own_of_R (Kd.R_far (p := ⟨gb459, 1, none⟩) (Kd.R_far (p := ⟨gb459, 0, none⟩) (Kd.R_types HO_3.out BK459.out (by decide)) (fun _ hk => hk.2) _) (fun _ hk => hk.2) _))⟩ (fun hHeld => ?_)
    clear hK K
    refine done_ (done_of HT_.out (by kernel_rfl)) ?_
    try go_wp2
    refine bodyPost_ret (results_cell_row rfl _ _ gb459 53 #[.int .i64 (rd l0 0), .string (strOfNums x3_1)] (0, 0) _ rfl (by (with_reducible repeat (first | refine blk_drewN ?_ _ | refine blk_drew ?_ | refine blk_alloc ?_ _)); refine blk_put (cs := #[.int .i64 (rd l0 0), .string (⟨#[]⟩ : ByteArray)]) ?_ 1 _ rfl; (with_reducible repeat (first | refine blk_drewN ?_ _ | refine blk_drew ?_ | refine blk_alloc ?_ _)); refine blk_put (cs := #[.int .i64 0, .string (⟨#[]⟩ : ByteArray)]) ?_ 0 _ rfl; (with_reducible repeat (first | refine blk_drewN ?_ _ | refine blk_drew ?_ | refine blk_alloc ?_ _)); exact BK459.out) Try.underlying53 rfl (by kernel_rfl)) rfl ?_
    exact ⟨zE, zG GE459.out⟩
/-! ### impl_SignsOf: function 41 -/
def impl_SignsOf.l0 : Nat → List (S36) → List Int → List (S71) → Int → Int → Option (Int × ByteArray × Bool)
 | 0, _, _, _, _, _ => none
 | k + 1, x0, x4, x19, x20, x21 => if x21 < x20 then (if 0 ≤ x21 then (if x21 < (x19.length : Int) then (if 0 ≤ ((rd_T71 x19 x21).f0) then (if ((rd_T71 x19 x21).f0) < (x0.length : Int) then (if 0 ≤ ((rd_T71 x19 x21).f1) then (if ((rd_T71 x19 x21).f1) < (x0.length : Int) then (if 0 ≤ ((rd_T71 x19 x21).f2) then (if ((rd_T71 x19 x21).f2) < (x0.length : Int) then ((impl_TurnOf.f ((rd_T36 x0 ((rd_T71 x19 x21).f0)).f0) ((rd_T36 x0 ((rd_T71 x19 x21).f0)).f1) ((rd_T36 x0 ((rd_T71 x19 x21).f1)).f0) ((rd_T36 x0 ((rd_T71 x19 x21).f1)).f1) ((rd_T36 x0 ((rd_T71 x19 x21).f2)).f0) ((rd_T36 x0 ((rd_T71 x19 x21).f2)).f1)).bind fun t488 => (if x4.length = 344 then ((impl_chi_set.f x4 ((rd_T71 x19 x21).f0) ((rd_T71 x19 x21).f1) ((rd_T71 x19 x21).f2) t488).bind fun t489 => (impl_SignsOf.l0 k x0 t489 x19 x20 (wrap64 (x21 + 1)))) else (none))) else (none)) else (none)) else (none)) else (none)) else (none)) else (none)) else (none)) else (none)) else (if x4.length = 344 then ((impl_chi_signs.f k x4).bind fun bt490 => (some (bt490.1, bt490.2, true))) else (none))
def impl_SignsOf.f (k : Nat) (l0 : List (S36)) : Option (Int × ByteArray × Bool) := (impl_ArePoints.f k l0).bind fun t475 => (if t475 = true then ((some ((l0.length : Int) :: List.replicate 343 (0 : Int) : List Int)).bind fun y476 => (if y476.length = 344 then ((impl_triplesOf.f k (rd y476 0)).bind fun t480 => (impl_SignsOf.l0 k l0 y476 t480 (t480.length : Int) 0)) else (none))) else (some (0, (⟨#[]⟩ : ByteArray), false)))
theorem impl_SignsOf.mono_l : ∀ k, (∀ y0 y1 y2 y3 y4, LeO (impl_SignsOf.l0 k y0 y1 y2 y3 y4) (impl_SignsOf.l0 (k + 1) y0 y1 y2 y3 y4))
 | 0 => fun _ _ _ _ _ r h => by simp [impl_SignsOf.l0] at h
 | k + 1 => by
  have ih0 := impl_SignsOf.mono_l k
  ·intro y0 y1 y2 y3 y4
   unfold impl_SignsOf.l0
   repeat' first
   | (with_reducible exact ih0 _ _ _ _ _)
   | (with_reducible exact impl_ArePoints.mono _ _)
   | (with_reducible exact impl_chi_signs.mono _ _)
   | (with_reducible exact impl_triplesOf.mono _ _)
   | (with_reducible exact LeO.refl _)
   | (with_reducible exact LeO.none _)
   | (with_reducible refine LeO.ite ?_ ?_)
   | (with_reducible refine LeO.bind ?_ (fun _ => ?_))
   | exact ih0 _ _ _ _ _
   | exact impl_ArePoints.mono _ _
   | exact impl_chi_signs.mono _ _
   | exact impl_triplesOf.mono _ _
   | exact LeO.none _
   | refine LeO.ite ?_ ?_
   | refine LeO.bind ?_ (fun _ => ?_)
theorem impl_SignsOf.mono : ∀ a0 k, LeO (impl_SignsOf.f k a0) (impl_SignsOf.f (k + 1) a0) := by
 intro a0 k
 have ih0 := impl_SignsOf.mono_l k
 unfold impl_SignsOf.f
 repeat' first
   | (with_reducible exact ih0 _ _ _ _ _)
   | (with_reducible exact impl_ArePoints.mono _ _)
   | (with_reducible exact impl_chi_signs.mono _ _)
   | (with_reducible exact impl_triplesOf.mono _ _)
   | (with_reducible exact LeO.refl _)
   | (with_reducible exact LeO.none _)
   | (with_reducible refine LeO.ite ?_ ?_)
   | (with_reducible refine LeO.bind ?_ (fun _ => ?_))
   | exact ih0 _ _ _ _ _
   | exact impl_ArePoints.mono _ _
   | exact impl_chi_signs.mono _ _
   | exact impl_triplesOf.mono _ _
   | exact LeO.none _
   | refine LeO.ite ?_ ?_
   | refine LeO.bind ?_ (fun _ => ?_)
def impl_SignsOf.T7 : Bool × List (List Nat × List Nat) := (true, [([], []), ([], []), ([1], [1]), ([], []), ([3], [3]), ([], []), ([5], [5]), ([], []), ([], []), ([8], [8]), ([7, 9], [7, 9]), ([10], [10]), ([], []), ([], []), ([13], [13]), ([12, 14], [12, 14]), ([15], [15]), ([], []), ([], []), ([18], [18]), ([17, 19], [17, 19]), ([20], [20]), ([11, 16, 21], [11, 16, 21]), ([0, 2, 4, 6, 22, 22], [0, 2, 4, 6, 22])])
def impl_SignsOf.B7 : List Nat := [0, 0, 2, 0, 8, 0, 32, 0, 0, 256, 896, 1920, 0, 0, 8192, 28672, 61440, 0, 0, 262144, 917504, 1966080, 4194176, 8388607]
theorem impl_SignsOf.tab7 : rtab .any (opsOf Try.f41 7) = impl_SignsOf.T7 := by kernel_rfl
theorem impl_SignsOf.bits7 : waitsOk impl_SignsOf.T7.2 impl_SignsOf.B7 = true := by kernel_rfl
set_option maxHeartbeats 8000000 in
set_option maxRecDepth 100000 in
theorem impl_SignsOf.calls (k : Nat) (A0 : Option Addr) (c0 : Nat) (l0 : List (S36)) (r1 : Int) (r2 : ByteArray) (r3 : Bool) (w : World) (hr0 : Kd.C k36 w A0 l0.length l0) (hc0 : l0.length ≤ c0) (h : impl_SignsOf.f k l0 = some (r1, r2, r3)) :
  Calls Try.prog 41 #[.slice A0 l0.length c0] w fun e w' => e = .returned (.tuple #[.agg #[.int .i64 r1, .string r2], .bool r3]) ∧ Below w.heap.size w w' := by
 have hu53 := Try.underlying53
 have hu71 := Try.underlying71
 have hu36 := Try.underlying36
 have hu78 := Try.underlying78
 have HR0 := Aside0.mk hr0
 have HC0 := Aside0.mk hc0
 clear hr0 hc0
 have HB := Aside0.mk (Below.refl w.heap.size w)
 have H : ((impl_ArePoints.f k l0).bind fun t475 => (if t475 = true then ((some ((l0.length : Int) :: List.replicate 343 (0 : Int) : List Int)).bind fun y476 => (if y476.length = 344 then ((impl_triplesOf.f k (rd y476 0)).bind fun t480 => (impl_SignsOf.l0 k l0 y476 t480 (t480.length : Int) 0)) else (none))) else (some (0, (⟨#[]⟩ : ByteArray), false)))) = some (r1, r2, r3) := h
 clear h
 replace H := Option.bind_eq_some_iff.mp H
 obtain ⟨t475, A20, H⟩ := H
 replace H : (if t475 = true then ((some ((l0.length : Int) :: List.replicate 343 (0 : Int) : List Int)).bind fun y476 => (if y476.length = 344 then ((impl_triplesOf.f k (rd y476 0)).bind fun t480 => (impl_SignsOf.l0 k l0 y476 t480 (t480.length : Int) 0)) else (none))) else (some (0, (⟨#[]⟩ : ByteArray), false))) = some (r1, r2, r3) := H
 have A2 := Aside0.mk A20
 clear A20
 by_cases c3 : t475 = true
 ·subst c3
  have H1 : ((some ((l0.length : Int) :: List.replicate 343 (0 : Int) : List Int)).bind fun y476 => (if y476.length = 344 then ((impl_triplesOf.f k (rd y476 0)).bind fun t480 => (impl_SignsOf.l0 k l0 y476 t480 (t480.length : Int) 0)) else (none))) = some (r1, r2, r3) := by rw [if_pos rfl] at H; exact H
  clear H
  have H := H1
  clear H1
  obtain ⟨y476, hy476⟩ : ∃ y_ : List Int, y_ = ((l0.length : Int) :: List.replicate 343 (0 : Int)) := ⟨_, rfl⟩
  replace H : (if y476.length = 344 then ((impl_triplesOf.f k (rd y476 0)).bind fun t480 => (impl_SignsOf.l0 k l0 y476 t480 (t480.length : Int) 0)) else (none)) = some (r1, r2, r3) := by first | (rw [hy476]; with_reducible exact H) | (have H2_ := (Option.bind_some _ _).symm.trans H; rw [hy476]; with_reducible exact H2_) | (have H2_ := (Option.bind_some _ _).symm.trans H; with_reducible exact H2_) | with_reducible exact H | (rw [hy476]; exact H) | exact H
  have Ny476 := Aside0.mk hy476
  clear hy476
  by_cases c4 : y476.length = 344
  ·rw [if_pos c4] at H
   have c4b0 := eq_true c4
   have c4b1 : decide (y476.length = 344) = true := decide_eq_true c4
   clear c4
   replace H := Option.bind_eq_some_iff.mp H
   obtain ⟨t480, A50, H⟩ := H
   replace H : (impl_SignsOf.l0 k l0 y476 t480 (t480.length : Int) 0) = some (r1, r2, r3) := H
   have A5 := Aside0.mk A50
   clear A50
   have H' := Aside0.mk H
   clear H
   go_enter Try.func41, Try.ntmps41
   go_wp2_with (first | ((with_reducible refine gate_dst (N := 2) rfl ?_); refine box_event ?hg (N := 2) ?hd (cs := #[.int .i64 0, .string (⟨#[]⟩ : ByteArray)]) (t := 53) ?hr ?_; (case hd => rfl); (case hg => rfl); (case hr => first | (go_simp; done) | (go_simp; rfl)); intro gb474 hg w6 hbox hb; have BK474 := Aside0.mk (hbox); have GW474 := Aside0.mk ((by rw [hg]; exact (below_size zB) : w.heap.size ≤ gb474)); have GE474 := Aside0.mk ((by rw [hg]; exact (below_size zB) : w.heap.size ≤ gb474)); replace HB := Aside0.mk (below_step zB hb); clear hb hbox hg) | ((with_reducible refine gate_callee (f := 35) rfl ?_); refine goesL_ (some 8) rfl rfl Try.func35 (by kernel_rfl) rfl #[.slice A0 l0.length c0] rfl zM ?_; (with_reducible refine (impl_ArePoints.calls k _ _ l0 true _ ?side1 ?side2 A2.out).mono ?_); (case side1 => repeat (first | exact (Kd.C_below HR0.out HB.out) | (with_reducible refine Kd.C_alloc ?_ _) | (with_reducible refine Kd.C_drewN ?_ _) | (with_reducible refine Kd.C_drew ?_))); (case side2 => exact HC0.out); rintro e w7 ⟨rfl, hb⟩; refine ⟨_, rfl, ?_⟩; replace BK474 := Aside0.mk (blk_below (g := gb474) (o := .cells #[.int .i64 0, .string (⟨#[]⟩ : ByteArray)] 53 (0, 0)) (zK BK474.out) hb); replace HB := Aside0.mk (below_step (zG GE474.out) hb); (try clear hb)) | ((with_reducible refine gate_dst (N := 13) rfl ?_); refine chi_build_event (T := 78) (s := 12) (n := (l0.length : Int)) rfl rfl ?hx chi_built ?_; (case hx => first | rfl | (go_simp; done) | (go_simp; rfl))) | ((with_reducible refine gate_dst (N := 14) rfl ?_); refine chi_box_event (n := (l0.length : Int)) (T := 78) (N := 14) ?hg ?hd ?hr w.heap.size ?hs ?_; (case hd => rfl); (case hg => rfl); (case hr => first | (go_simp; done) | (go_simp; rfl)); (case hs => exact (below_size (zG GE474.out))); intro v477 w8 ho hb; rw [← Ny476.out] at ho; replace BK474 := Aside0.mk (blk_below (g := gb474) (o := .cells #[.int .i64 0, .string (⟨#[]⟩ : ByteArray)] 53 (0, 0)) (zK BK474.out) hb); have HO478 := Aside0.mk (ho); replace HB := Aside0.mk (below_step (zG GE474.out) hb); clear hb ho; obtain ⟨go9, co9, eo9, gb9, gl9, cl9, HG9⟩ := Kd.R_form HO478.out (by have hl_ := Nat.le_of_eq (Eq.symm (zA : y476.length = 344)); omega); (first | cases eo9 | (injection eo9 with ea_ en_ ec_; (first | subst ea_ | (injection ea_ with ea_; subst ea_)); subst ec_; clear en_)); have GB9 := Aside0.mk gb9; have GG9 := Aside0.mk HG9; clear gb9 gl9 HG9; have hL479 := (zA : y476.length = 344); have dq479 : decide (0 < (y476.length : Int)) = true := decide_eq_true (by omega); clear hL479; have p479 : 0 ≤ (0 : Int) := (by omega); have q479 : 0 < (y476.length : Int) := zA; obtain ⟨ad479, e479, hx479_0⟩ := Kd.at_int (Kd.R_reads' HO478.out).2.2 0 p479 q479; obtain rfl : (⟨go9, 0, none⟩ : Addr) = ad479 := (by injection e479); (first | simp only [add_plain] at hx479_0 | simp only [add_at] at hx479_0 | simp only [Addr.add, Nat.zero_add] at hx479_0 | skip); have qi479 : (0 < y476.length) = True := eq_true (by omega); (try rw [show ((0 : Int)).toNat = 0 from rfl] at hx479_0); (try rw [Addr.add_zero'] at hx479_0); replace p479 := eq_true p479; replace q479 := eq_true q479; clear dq479) | ((with_reducible refine gate_callee (f := 59) rfl ?_); refine goesL_ (some 19) rfl rfl Try.func59 (by kernel_rfl) rfl #[.int .i64 (rd y476 0)] rfl zM ?_; (with_reducible refine (impl_triplesOf.calls k (rd y476 0) t480 _ A5.out).mono ?_); rintro e w10 ⟨v481, rfl, ho0, hb⟩; refine ⟨_, rfl, ?_⟩; replace HO478 := Aside0.mk (Kd.R_below (zR HO478.out) hb); have HO482 := Aside0.mk (Kd.R_lower ho0 (below_size (zG GE474.out))); replace BK474 := Aside0.mk (blk_below (g := gb474) (o := .cells #[.int .i64 0, .string (⟨#[]⟩ : ByteArray)] 53 (0, 0)) (zK BK474.out) hb); replace HB := Aside0.mk (below_step (zG GE474.out) hb); (try clear hb); (try clear ho0); obtain ⟨Ao11, co11, eo11⟩ := Kd.R_slice HO482.out; subst eo11))
   go_loopg [21] k (fun kq v21 w' => ∃ (x4_1 : List Int) (x21_1 : Int), v21 = .int .i64 x21_1 ∧ Aside0 (impl_SignsOf.l0 kq l0 x4_1 t480 (t480.length : Int) x21_1 = some (r1, r2, r3)) ∧ Aside0 (kq ≤ k) ∧ Aside0 (Kd.R (Kd.int .i64) 78 w' w.heap.size (fun _ => True) (.slice (some ⟨go9, 0, none⟩) y476.length co9) x4_1) ∧ Aside0 (Kd.R k71 71 w' w.heap.size (fun _ => True) (.slice Ao11 t480.length co11) t480) ∧ Aside0 (w'.heap[gb474]? = some (.cells #[.int .i64 0, .string (⟨#[]⟩ : ByteArray)] 53 (0, 0))) ∧ Aside0 (Below w.heap.size w w'))
   case atStart => exact ⟨(y476), (0), zF, H', ⟨Nat.le_refl _⟩, ⟨zR HO478.out⟩, ⟨zR HO482.out⟩, ⟨zK BK474.out⟩, ⟨zG GE474.out⟩⟩
   case round =>
    clear H'
    try clear p2
    try clear c3
    try clear c4
    try clear c4b0
    try clear c4b1
    try clear p4
    try clear q4
    try clear hx4
    try clear qi4
    try clear c5
    try clear hx479_0
    try clear p479
    try clear q479
    obtain ⟨x4_1, x21_1, rfl, HA, HK1, HO_4, HO_19, BK474, HB⟩ := hrel
    have hl4_1 := (Kd.R_reads' HO_4.out).1
    rw [hl4_1] at HO_4
    (try simp only [hl4_1])
    (try simp only [hl4_1] at BK474)
    (try simp only [hl4_1] at HO_19)
    cases gk with
    | zero => exact absurd HA.out (by simp [impl_SignsOf.l0])
    | succ k1 =>
     have H := HA.out
     clear HA
     simp only [impl_SignsOf.l0] at H
     by_cases c12 : x21_1 < (t480.length : Int)
     ·rw [if_pos c12] at H
      have c12b0 : decide (x21_1 < (t480.length : Int)) = true := decide_eq_true c12
      clear c12
      by_cases c13 : 0 ≤ x21_1
      ·rw [if_pos c13] at H
       have c13b0 : decide (0 ≤ x21_1) = true := decide_eq_true c13
       clear c13
       by_cases c14 : x21_1 < (t480.length : Int)
       ·rw [if_pos c14] at H
        have c14b0 : decide (x21_1 < (t480.length : Int)) = true := decide_eq_true c14
        clear c14
        by_cases c15 : 0 ≤ ((rd_T71 t480 x21_1).f0)
        ·rw [if_pos c15] at H
         have c15b0 : decide (0 ≤ ((rd_T71 t480 x21_1).f0)) = true := decide_eq_true c15
         clear c15
         by_cases c16 : ((rd_T71 t480 x21_1).f0) < (l0.length : Int)
         ·rw [if_pos c16] at H
          have c16b0 : decide (((rd_T71 t480 x21_1).f0) < (l0.length : Int)) = true := decide_eq_true c16
          clear c16
          by_cases c17 : 0 ≤ ((rd_T71 t480 x21_1).f1)
          ·rw [if_pos c17] at H
           have c17b0 : decide (0 ≤ ((rd_T71 t480 x21_1).f1)) = true := decide_eq_true c17
           clear c17
           by_cases c18 : ((rd_T71 t480 x21_1).f1) < (l0.length : Int)
           ·rw [if_pos c18] at H
            have c18b0 : decide (((rd_T71 t480 x21_1).f1) < (l0.length : Int)) = true := decide_eq_true c18
            clear c18
            by_cases c19 : 0 ≤ ((rd_T71 t480 x21_1).f2)
            ·rw [if_pos c19] at H
             have c19b0 : decide (0 ≤ ((rd_T71 t480 x21_1).f2)) = true := decide_eq_true c19
             clear c19
             by_cases c20 : ((rd_T71 t480 x21_1).f2) < (l0.length : Int)
             ·rw [if_pos c20] at H
              have c20b0 : decide (((rd_T71 t480 x21_1).f2) < (l0.length : Int)) = true := decide_eq_true c20
              clear c20
              replace H := Option.bind_eq_some_iff.mp H
              obtain ⟨t488, A210, H⟩ := H
              replace H : (if x4_1.length = 344 then ((impl_chi_set.f x4_1 ((rd_T71 t480 x21_1).f0) ((rd_T71 t480 x21_1).f1) ((rd_T71 t480 x21_1).f2) t488).bind fun t489 => (impl_SignsOf.l0 k1 l0 t489 t480 (t480.length : Int) (wrap64 (x21_1 + 1)))) else (none)) = some (r1, r2, r3) := H
              have A21 := Aside0.mk A210
              clear A210
              by_cases c22 : x4_1.length = 344
              ·rw [if_pos c22] at H
               have c22b0 := eq_true c22
               have c22b1 : decide (x4_1.length = 344) = true := decide_eq_true c22
               clear c22
               replace H := Option.bind_eq_some_iff.mp H
               obtain ⟨t489, A230, H⟩ := H
               replace H : (impl_SignsOf.l0 k1 l0 t489 t480 (t480.length : Int) (wrap64 (x21_1 + 1))) = some (r1, r2, r3) := H
               have A23 := Aside0.mk A230
               clear A230
               have H' := Aside0.mk H
               clear H
               have p483 : 0 ≤ (x21_1 : Int) := zA
               have q483 : x21_1 < (t480.length : Int) := zA
               obtain ⟨ad483, e483, hx483_0, hx483_1, hx483_2⟩ := at_T71 (Kd.R_reads' HO_19.out).2.2 x21_1 p483 q483
               cases e483
               replace p483 := eq_true p483
               replace q483 := eq_true q483
               try go_wp2_with (first | ((with_reducible refine gate_dst (N := 6) rfl ?_); refine box_event ?hg (N := 6) ?hd (cs := #[.int .i64 0, .int .i64 0, .int .i64 0]) (t := 71) ?hr ?_; (case hd => rfl); (case hg => rfl); (case hr => first | (go_simp; done) | (go_simp; rfl)); intro gb484 hg w24 hbox hb; have n0_ := Aside0.mk (Kd.R_below (zR HO_4.out) hb); have n1_ := Aside0.mk (Kd.R_below (Kd.R_elderB (zR HO_19.out) gb484 (Nat.le_of_eq hg.symm)) hb); have n2_ := Aside0.mk (blk_below (g := gb474) (o := .cells #[.int .i64 0, .string (⟨#[]⟩ : ByteArray)] 53 (0, 0)) (zK BK474.out) hb); have n3_ := Aside0.mk (below_step (zG GE474.out) hb); have n4_ := Aside0.mk (hbox); have n5_ := Aside0.mk ((by rw [hg]; exact (below_size (zG GE474.out)) : w.heap.size ≤ gb484)); have n6_ := Aside0.mk ((by rw [hg]; exact (below_size (zG GE474.out)) : w.heap.size ≤ gb484)); have n7_ := Aside0.mk ((by rw [hg]; exact Nat.ne_of_lt (blk_lt (g := gb474) (o := .cells #[.int .i64 0, .string (⟨#[]⟩ : ByteArray)] 53 (0, 0)) (zK BK474.out)) : gb474 ≠ gb484)); have n8_ := Aside0.mk ((by rw [hg]; exact Nat.ne_of_gt (blk_lt (g := gb474) (o := .cells #[.int .i64 0, .string (⟨#[]⟩ : ByteArray)] 53 (0, 0)) (zK BK474.out)) : gb484 ≠ gb474)); clear HO_4; clear HO_19; clear BK474; clear HB; have HO_4 := n0_; have HO_19 := n1_; have BK474 := n2_; have HB := n3_; have BK484 := n4_; have GW484 := n5_; have GE484 := n6_; have NB474_484 := n7_; have NB484_474 := n8_; clear n0_ n1_ n2_ n3_ n4_ n5_ n6_ n7_ n8_; clear hb hbox hg; have hnb25 := NB484_474.out; have hnc25 := NB474_484.out; have hcz26_0 : w24.cell? ⟨gb484, 0, none⟩ = some (.int .i64 0) := (blk_cell BK484.out 0).trans rfl; have hcz26_1 : w24.cell? ⟨gb484, 1, none⟩ = some (.int .i64 0) := (blk_cell BK484.out 1).trans rfl; have hcz26_2 : w24.cell? ⟨gb484, 2, none⟩ = some (.int .i64 0) := (blk_cell BK484.out 2).trans rfl; have hfz26_0 := blk_frozen BK484.out 0; have hfz26_1 := blk_frozen BK484.out 1; have hfz26_2 := blk_frozen BK484.out 2))
               have n0_ : Aside0 (Kd.R (Kd.int .i64) 78 (((w24.setCell ⟨gb484, 0, none⟩ (.int .i64 ((rd_T71 t480 x21_1).f0))).setCell ⟨gb484, 1, none⟩ (.int .i64 ((rd_T71 t480 x21_1).f1))).setCell ⟨gb484, 2, none⟩ (.int .i64 ((rd_T71 t480 x21_1).f2))) w.heap.size (fun _ => True) (.slice (some ⟨go9, 0, none⟩) x4_1.length co9) x4_1) := ⟨by (with_reducible repeat (first | apply Kd.R_alloc | apply Kd.R_drewN | apply Kd.R_drew)); exact Kd.R_mono (Kd.R_far (p := ⟨gb484, 2, none⟩) (Kd.R_far (p := ⟨gb484, 1, none⟩) (Kd.R_far (p := ⟨gb484, 0, none⟩) (Kd.R_types HO_4.out BK484.out (by decide)) (fun _ hk => hk.2) (.int .i64 ((rd_T71 t480 x21_1).f0))) (fun _ hk => hk.2) (.int .i64 ((rd_T71 t480 x21_1).f1))) (fun _ hk => hk.2) (.int .i64 ((rd_T71 t480 x21_1).f2))) (fun _ hk => trivial)⟩
               have n1_ : Aside0 (Kd.R k71 71 (((w24.setCell ⟨gb484, 0, none⟩ (.int .i64 ((rd_T71 t480 x21_1).f0))).setCell ⟨gb484, 1, none⟩ (.int .i64 ((rd_T71 t480 x21_1).f1))).setCell ⟨gb484, 2, none⟩ (.int .i64 ((rd_T71 t480 x21_1).f2))) w.heap.size (fun k_ => k_ ≠ gb484) (.slice (some ad483) t480.length co11) t480) := ⟨by (with_reducible repeat (first | apply Kd.R_alloc | apply Kd.R_drewN | apply Kd.R_drew)); exact Kd.R_mono (Kd.R_far (p := ⟨gb484, 2, none⟩) (Kd.R_far (p := ⟨gb484, 1, none⟩) (Kd.R_far (p := ⟨gb484, 0, none⟩) (Kd.R_mono HO_19.out (fun k_ hk => (⟨hk, hk.2⟩ : _ ∧ k_ ≠ gb484))) (fun _ hk => hk.2) (.int .i64 ((rd_T71 t480 x21_1).f0))) (fun _ hk => hk.2) (.int .i64 ((rd_T71 t480 x21_1).f1))) (fun _ hk => hk.2) (.int .i64 ((rd_T71 t480 x21_1).f2))) (fun _ hk => hk.1.2)⟩
               have n2_ : Aside0 ((((w24.setCell ⟨gb484, 0, none⟩ (.int .i64 ((rd_T71 t480 x21_1).f0))).setCell ⟨gb484, 1, none⟩ (.int .i64 ((rd_T71 t480 x21_1).f1))).setCell ⟨gb484, 2, none⟩ (.int .i64 ((rd_T71 t480 x21_1).f2))).heap[gb474]? = some (.cells #[.int .i64 0, .string (⟨#[]⟩ : ByteArray)] 53 (0, 0))) := ⟨by (with_reducible repeat (first | refine blk_drewN ?_ _ | refine blk_drew ?_ | refine blk_alloc ?_ _)); refine blk_far ?_ NB474_484.out _; (with_reducible repeat (first | refine blk_drewN ?_ _ | refine blk_drew ?_ | refine blk_alloc ?_ _)); refine blk_far ?_ NB474_484.out _; (with_reducible repeat (first | refine blk_drewN ?_ _ | refine blk_drew ?_ | refine blk_alloc ?_ _)); refine blk_far ?_ NB474_484.out _; (with_reducible repeat (first | refine blk_drewN ?_ _ | refine blk_drew ?_ | refine blk_alloc ?_ _)); exact BK474.out⟩
               have n3_ : Aside0 ((((w24.setCell ⟨gb484, 0, none⟩ (.int .i64 ((rd_T71 t480 x21_1).f0))).setCell ⟨gb484, 1, none⟩ (.int .i64 ((rd_T71 t480 x21_1).f1))).setCell ⟨gb484, 2, none⟩ (.int .i64 ((rd_T71 t480 x21_1).f2))).heap[gb484]? = some (.cells #[.int .i64 ((rd_T71 t480 x21_1).f0), .int .i64 ((rd_T71 t480 x21_1).f1), .int .i64 ((rd_T71 t480 x21_1).f2)] 71 (0, 0))) := ⟨by (with_reducible repeat (first | refine blk_drewN ?_ _ | refine blk_drew ?_ | refine blk_alloc ?_ _)); refine blk_put (cs := #[.int .i64 ((rd_T71 t480 x21_1).f0), .int .i64 ((rd_T71 t480 x21_1).f1), .int .i64 0]) ?_ 2 _ rfl; (with_reducible repeat (first | refine blk_drewN ?_ _ | refine blk_drew ?_ | refine blk_alloc ?_ _)); refine blk_put (cs := #[.int .i64 ((rd_T71 t480 x21_1).f0), .int .i64 0, .int .i64 0]) ?_ 1 _ rfl; (with_reducible repeat (first | refine blk_drewN ?_ _ | refine blk_drew ?_ | refine blk_alloc ?_ _)); refine blk_put (cs := #[.int .i64 0, .int .i64 0, .int .i64 0]) ?_ 0 _ rfl; (with_reducible repeat (first | refine blk_drewN ?_ _ | refine blk_drew ?_ | refine blk_alloc ?_ _)); exact BK484.out⟩
               have n4_ : Aside0 (Below w.heap.size w (((w24.setCell ⟨gb484, 0, none⟩ (.int .i64 ((rd_T71 t480 x21_1).f0))).setCell ⟨gb484, 1, none⟩ (.int .i64 ((rd_T71 t480 x21_1).f1))).setCell ⟨gb484, 2, none⟩ (.int .i64 ((rd_T71 t480 x21_1).f2)))) := ⟨by repeat (first | (with_reducible first | exact HB.out | apply below_alloc | apply pw_below_drewN | apply below_drew1 | refine below_set ?_ GE474.out | refine below_set ?_ GE484.out) | exact HB.out)⟩
               (try clear HO_4)
               (try clear HO_19)
               (try clear BK474)
               (try clear BK484)
               (try clear HB)
               generalize (((w24.setCell ⟨gb484, 0, none⟩ (.int .i64 ((rd_T71 t480 x21_1).f0))).setCell ⟨gb484, 1, none⟩ (.int .i64 ((rd_T71 t480 x21_1).f1))).setCell ⟨gb484, 2, none⟩ (.int .i64 ((rd_T71 t480 x21_1).f2))) = w27 at n0_ n1_ n2_ n3_ n4_ ⊢
               have HO_4 := n0_
               have HO_19 := n1_
               have BK474 := n2_
               have BK484 := n3_
               have HB := n4_
               clear n0_ n1_ n2_ n3_ n4_
               have n0_ := Aside0.mk (Kd.R_drew HO_4.out)
               have n1_ := Aside0.mk (Kd.R_drew HO_19.out)
               have n2_ := Aside0.mk (blk_drew BK474.out)
               have n3_ := Aside0.mk (blk_drew BK484.out)
               have n4_ := Aside0.mk (below_drew1 HB.out)
               clear HO_4
               clear HO_19
               clear BK474
               clear BK484
               clear HB
               have HO_4 := n0_
               have HO_19 := n1_
               have BK474 := n2_
               have BK484 := n3_
               have HB := n4_
               clear n0_ n1_ n2_ n3_ n4_
               have p485 : 0 ≤ (((rd_T71 t480 x21_1).f0) : Int) := zA
               have q485 : ((rd_T71 t480 x21_1).f0) < (l0.length : Int) := zA
               obtain ⟨ad485, e485, hx485_0, hx485_1⟩ := at_T36 HR0.out ((rd_T71 t480 x21_1).f0) p485 q485
               have hw485_1 := hx485_1
               have hw485_0 := hx485_0
               cases e485
               replace hx485_0 := (HB.out.cell (World.block_lt_of_cell? w _ hx485_0)).trans hx485_0
               replace hx485_1 := (HB.out.cell (World.block_lt_of_cell? w _ hx485_1)).trans hx485_1
               replace p485 := eq_true p485
               replace q485 := eq_true q485
               have p486 : 0 ≤ (((rd_T71 t480 x21_1).f1) : Int) := zA
               have q486 : ((rd_T71 t480 x21_1).f1) < (l0.length : Int) := zA
               obtain ⟨ad486, e486, hx486_0, hx486_1⟩ := at_T36 HR0.out ((rd_T71 t480 x21_1).f1) p486 q486
               have hw486_1 := hx486_1
               have hw486_0 := hx486_0
               obtain rfl : ad485 = ad486 := (by injection e486)
               replace hx486_0 := (HB.out.cell (World.block_lt_of_cell? w _ hx486_0)).trans hx486_0
               replace hx486_1 := (HB.out.cell (World.block_lt_of_cell? w _ hx486_1)).trans hx486_1
               replace p486 := eq_true p486
               replace q486 := eq_true q486
               have p487 : 0 ≤ (((rd_T71 t480 x21_1).f2) : Int) := zA
               have q487 : ((rd_T71 t480 x21_1).f2) < (l0.length : Int) := zA
               obtain ⟨ad487, e487, hx487_0, hx487_1⟩ := at_T36 HR0.out ((rd_T71 t480 x21_1).f2) p487 q487
               have hw487_1 := hx487_1
               have hw487_0 := hx487_0
               obtain rfl : ad485 = ad487 := (by injection e487)
               replace hx487_0 := (HB.out.cell (World.block_lt_of_cell? w _ hx487_0)).trans hx487_0
               replace hx487_1 := (HB.out.cell (World.block_lt_of_cell? w _ hx487_1)).trans hx487_1
               replace p487 := eq_true p487
               replace q487 := eq_true q487
               refine start_ (n := 24) (S := fun w' => w'.cell? ⟨gb484, 0, none⟩ = some (.int .i64 ((rd_T71 t480 x21_1).f0)) ∧ w'.cell? ⟨gb484, 1, none⟩ = some (.int .i64 ((rd_T71 t480 x21_1).f1)) ∧ w'.cell? ⟨gb484, 2, none⟩ = some (.int .i64 ((rd_T71 t480 x21_1).f2)) ∧ w'.cell? (ad485.add ((((rd_T71 t480 x21_1).f0)).toNat * 2)) = some (.int .i64 ((rd_T36 l0 ((rd_T71 t480 x21_1).f0)).f0)) ∧ w'.cell? ⟨(ad485.add ((((rd_T71 t480 x21_1).f0)).toNat * 2)).block, (ad485.add ((((rd_T71 t480 x21_1).f0)).toNat * 2)).off + 1, none⟩ = some (.int .i64 ((rd_T36 l0 ((rd_T71 t480 x21_1).f0)).f1)) ∧ w'.cell? (ad485.add ((((rd_T71 t480 x21_1).f1)).toNat * 2)) = some (.int .i64 ((rd_T36 l0 ((rd_T71 t480 x21_1).f1)).f0)) ∧ w'.cell? ⟨(ad485.add ((((rd_T71 t480 x21_1).f1)).toNat * 2)).block, (ad485.add ((((rd_T71 t480 x21_1).f1)).toNat * 2)).off + 1, none⟩ = some (.int .i64 ((rd_T36 l0 ((rd_T71 t480 x21_1).f1)).f1)) ∧ w'.cell? (ad485.add ((((rd_T71 t480 x21_1).f2)).toNat * 2)) = some (.int .i64 ((rd_T36 l0 ((rd_T71 t480 x21_1).f2)).f0)) ∧ w'.cell? ⟨(ad485.add ((((rd_T71 t480 x21_1).f2)).toNat * 2)).block, (ad485.add ((((rd_T71 t480 x21_1).f2)).toNat * 2)).off + 1, none⟩ = some (.int .i64 ((rd_T36 l0 ((rd_T71 t480 x21_1).f2)).f1))) (ds := []) #[false, false, false, false, false, false, false, false, false, false, false, false, false, false, false, false, false, false, false, false, false, false, false, false] (by kernel_rfl) rfl rfl ⟨(blk_cell BK484.out 0).trans rfl, (blk_cell BK484.out 1).trans rfl, (blk_cell BK484.out 2).trans rfl, ((HB.out.cell (World.block_lt_of_cell? w _ hw485_0)).trans hw485_0), ((HB.out.cell (World.block_lt_of_cell? w _ hw485_1)).trans hw485_1), ((HB.out.cell (World.block_lt_of_cell? w _ hw486_0)).trans hw486_0), ((HB.out.cell (World.block_lt_of_cell? w _ hw486_1)).trans hw486_1), ((HB.out.cell (World.block_lt_of_cell? w _ hw487_0)).trans hw487_0), ((HB.out.cell (World.block_lt_of_cell? w _ hw487_1)).trans hw487_1)⟩ (fun hHeld => ?_); refine with_tabW impl_SignsOf.tab7 impl_SignsOf.bits7 (fun HT_ HW_ => ?_)
               generalize w27.drew = w28 at HO_4 HO_19 BK474 BK484 HB hx485_0 hx485_1 hx486_0 hx486_1 hx487_0 hx487_1 hHeld ⊢
               refine zP 0 (some 25) rfl rfl ?_
               refine zP 1 (some 26) rfl rfl ?_
               refine zP 3 (some 28) rfl rfl ?_
               refine zP 5 (some 30) rfl rfl ?_
               refine zP 7 (some 32) rfl rfl ?_
               refine zP 8 (some 33) rfl rfl ?_
               refine zP 12 (some 37) rfl rfl ?_
               refine zP 13 (some 38) rfl rfl ?_
               refine zP 17 (some 42) rfl rfl ?_
               refine zP 18 (some 43) rfl rfl ?_
               refine take_ (i := 2) (N := some 27) (v := ?_) (a' := ?_) #[true, true, true, true, false, true, false, true, true, false, false, false, true, true, false, false, false, true, true, false, false, false, false, false] rfl rfl (take_ofW HT_.out HW_.out (by kernel_rfl)) (fun _ _ _ h => h) (Or.inl ⟨by rfl, ?_⟩) hHeld ?_ ?_
               rotate_left
               ·rintro w' ⟨s0, s1, s2, s3, s4, s5, s6, s7, s8⟩
                go_simp
                with_reducible rfl
               rotate_left
               ·simp only [Act.put, List.setIfInBounds_toArray, List.set_cons_zero, List.set_cons_succ, i64_w, i32_w]
                rfl
               refine take_ (i := 4) (N := some 29) (v := ?_) (a' := ?_) #[true, true, true, true, true, true, false, true, true, false, false, false, true, true, false, false, false, true, true, false, false, false, false, false] rfl rfl (take_ofW HT_.out HW_.out (by kernel_rfl)) (fun _ _ _ h => h) (Or.inl ⟨by rfl, ?_⟩) hHeld ?_ ?_
               rotate_left
               ·rintro w' ⟨s0, s1, s2, s3, s4, s5, s6, s7, s8⟩
                go_simp
                with_reducible rfl
               rotate_left
               ·simp only [Act.put, List.setIfInBounds_toArray, List.set_cons_zero, List.set_cons_succ, i64_w, i32_w]
                rfl
               refine take_ (i := 6) (N := some 31) (v := ?_) (a' := ?_) #[true, true, true, true, true, true, true, true, true, false, false, false, true, true, false, false, false, true, true, false, false, false, false, false] rfl rfl (take_ofW HT_.out HW_.out (by kernel_rfl)) (fun _ _ _ h => h) (Or.inl ⟨by rfl, ?_⟩) hHeld ?_ ?_
               rotate_left
               ·rintro w' ⟨s0, s1, s2, s3, s4, s5, s6, s7, s8⟩
                go_simp
                with_reducible rfl
               rotate_left
               ·simp only [Act.put, List.setIfInBounds_toArray, List.set_cons_zero, List.set_cons_succ, i64_w, i32_w]
                rfl
               refine take_ (i := 9) (N := some 34) (v := ?_) (a' := ?_) #[true, true, true, true, true, true, true, true, true, true, false, false, true, true, false, false, false, true, true, false, false, false, false, false] rfl rfl (take_ofW HT_.out HW_.out (by kernel_rfl)) (fun _ _ _ h => h) (Or.inl ⟨by rfl, ?_⟩) hHeld ?_ ?_
               rotate_left
               ·rintro w' ⟨s0, s1, s2, s3, s4, s5, s6, s7, s8⟩
                go_simp
                with_reducible rfl
               rotate_left
               ·simp only [Act.put, List.setIfInBounds_toArray, List.set_cons_zero, List.set_cons_succ, i64_w, i32_w]
                rfl
               refine zP 10 (some 35) rfl rfl ?_
               refine take_ (i := 11) (N := some 36) (v := ?_) (a' := ?_) #[true, true, true, true, true, true, true, true, true, true, true, true, true, true, false, false, false, true, true, false, false, false, false, false] rfl rfl (take_ofW HT_.out HW_.out (by kernel_rfl)) (fun _ _ _ h => h) (Or.inl ⟨by rfl, ?_⟩) hHeld ?_ ?_
               rotate_left
               ·rintro w' ⟨s0, s1, s2, s3, s4, s5, s6, s7, s8⟩
                go_simp
                with_reducible rfl
               rotate_left
               ·simp only [Act.put, List.setIfInBounds_toArray, List.set_cons_zero, List.set_cons_succ, i64_w, i32_w]
                rfl
               refine take_ (i := 14) (N := some 39) (v := ?_) (a' := ?_) #[true, true, true, true, true, true, true, true, true, true, true, true, true, true, true, false, false, true, true, false, false, false, false, false] rfl rfl (take_ofW HT_.out HW_.out (by kernel_rfl)) (fun _ _ _ h => h) (Or.inl ⟨by rfl, ?_⟩) hHeld ?_ ?_
               rotate_left
               ·rintro w' ⟨s0, s1, s2, s3, s4, s5, s6, s7, s8⟩
                go_simp
                with_reducible rfl
               rotate_left
               ·simp only [Act.put, List.setIfInBounds_toArray, List.set_cons_zero, List.set_cons_succ, i64_w, i32_w]
                rfl
               refine zP 15 (some 40) rfl rfl ?_
               refine take_ (i := 16) (N := some 41) (v := ?_) (a' := ?_) #[true, true, true, true, true, true, true, true, true, true, true, true, true, true, true, true, true, true, true, false, false, false, false, false] rfl rfl (take_ofW HT_.out HW_.out (by kernel_rfl)) (fun _ _ _ h => h) (Or.inl ⟨by rfl, ?_⟩) hHeld ?_ ?_
               rotate_left
               ·rintro w' ⟨s0, s1, s2, s3, s4, s5, s6, s7, s8⟩
                go_simp
                with_reducible rfl
               rotate_left
               ·simp only [Act.put, List.setIfInBounds_toArray, List.set_cons_zero, List.set_cons_succ, i64_w, i32_w]
                rfl
               refine take_ (i := 19) (N := some 44) (v := ?_) (a' := ?_) #[true, true, true, true, true, true, true, true, true, true, true, true, true, true, true, true, true, true, true, true, false, false, false, false] rfl rfl (take_ofW HT_.out HW_.out (by kernel_rfl)) (fun _ _ _ h => h) (Or.inl ⟨by rfl, ?_⟩) hHeld ?_ ?_
               rotate_left
               ·rintro w' ⟨s0, s1, s2, s3, s4, s5, s6, s7, s8⟩
                go_simp
                with_reducible rfl
               rotate_left
               ·simp only [Act.put, List.setIfInBounds_toArray, List.set_cons_zero, List.set_cons_succ, i64_w, i32_w]
                rfl
               refine zP 20 (some 45) rfl rfl ?_
               refine take_ (i := 21) (N := some 46) (v := ?_) (a' := ?_) #[true, true, true, true, true, true, true, true, true, true, true, true, true, true, true, true, true, true, true, true, true, true, false, false] rfl rfl (take_ofW HT_.out HW_.out (by kernel_rfl)) (fun _ _ _ h => h) (Or.inl ⟨by rfl, ?_⟩) hHeld ?_ ?_
               rotate_left
               ·rintro w' ⟨s0, s1, s2, s3, s4, s5, s6, s7, s8⟩
                go_simp
                with_reducible rfl
               rotate_left
               ·simp only [Act.put, List.setIfInBounds_toArray, List.set_cons_zero, List.set_cons_succ, i64_w, i32_w]
                rfl
               refine one_ (i := 22) (N := some 47) #[true, true, true, true, true, true, true, true, true, true, true, true, true, true, true, true, true, true, true, true, true, true, true, false] rfl rfl (one_of HT_.out (by kernel_rfl)) (by decide) (fun K hK => ?_)
               refine goes_ Try.func27 (by kernel_rfl) rfl #[.agg #[.int .i64 ((rd_T36 l0 ((rd_T71 t480 x21_1).f0)).f0), .int .i64 ((rd_T36 l0 ((rd_T71 t480 x21_1).f0)).f1)], .agg #[.int .i64 ((rd_T36 l0 ((rd_T71 t480 x21_1).f1)).f0), .int .i64 ((rd_T36 l0 ((rd_T71 t480 x21_1).f1)).f1)], .agg #[.int .i64 ((rd_T36 l0 ((rd_T71 t480 x21_1).f2)).f0), .int .i64 ((rd_T36 l0 ((rd_T71 t480 x21_1).f2)).f1)]] (by rfl) rfl rfl zM ?_
               with_reducible refine (impl_TurnOf.calls ((rd_T36 l0 ((rd_T71 t480 x21_1).f0)).f0) ((rd_T36 l0 ((rd_T71 t480 x21_1).f0)).f1) ((rd_T36 l0 ((rd_T71 t480 x21_1).f1)).f0) ((rd_T36 l0 ((rd_T71 t480 x21_1).f1)).f1) ((rd_T36 l0 ((rd_T71 t480 x21_1).f2)).f0) ((rd_T36 l0 ((rd_T71 t480 x21_1).f2)).f1) t488 _ A21.out).mono ?_
               rintro e w29 ⟨rfl, hb⟩
               refine ⟨_, rfl, ?_⟩
               have n0_ := Aside0.mk (Kd.R_below (zR HO_4.out) hb)
               have n1_ := Aside0.mk (Kd.R_below (zR HO_19.out) hb)
               have n2_ := Aside0.mk (blk_below (g := gb474) (o := .cells #[.int .i64 0, .string (⟨#[]⟩ : ByteArray)] 53 (0, 0)) (zK BK474.out) hb)
               have n3_ := Aside0.mk (blk_below (g := gb484) (o := .cells #[.int .i64 ((rd_T71 t480 x21_1).f0), .int .i64 ((rd_T71 t480 x21_1).f1), .int .i64 ((rd_T71 t480 x21_1).f2)] 71 (0, 0)) (zK BK484.out) hb)
               have n4_ := Aside0.mk (below_step (by repeat (first | (with_reducible first | exact HB.out | apply below_alloc | apply pw_below_drewN | apply below_drew1 | refine below_set ?_ GE474.out | refine below_set ?_ GE484.out) | exact HB.out)) hb)
               clear HO_4
               clear HO_19
               clear BK474
               clear BK484
               clear HB
               have HO_4 := n0_
               have HO_19 := n1_
               have BK474 := n2_
               have BK484 := n3_
               have HB := n4_
               clear n0_ n1_ n2_ n3_ n4_
               (try clear hb)
               (try clear hb2)
               (try clear hk)
               (try clear hi)
               refine hK.out _ _ ⟨(blk_cell BK484.out 0).trans rfl, (blk_cell BK484.out 1).trans rfl, (blk_cell BK484.out 2).trans rfl, ((HB.out.cell (World.block_lt_of_cell? w _ hw485_0)).trans hw485_0), ((HB.out.cell (World.block_lt_of_cell? w _ hw485_1)).trans hw485_1), ((HB.out.cell (World.block_lt_of_cell? w _ hw486_0)).trans hw486_0), ((HB.out.cell (World.block_lt_of_cell? w _ hw486_1)).trans hw486_1), ((HB.out.cell (World.block_lt_of_cell? w _ hw487_0)).trans hw487_0), ((HB.out.cell (World.block_lt_of_cell? w _ hw487_1)).trans hw487_1)⟩ (fun hHeld => ?_)
               clear hK K
               refine norm_ (a' := ?_) ?_ ?_
               rotate_left
               ·show Act.put _ (some 47) _ = _
                simp only [Act.put, List.setIfInBounds_toArray, List.set_cons_zero, List.set_cons_succ, i64_w, i32_w]
                rfl
               refine one_ (i := 23) (N := some 48) #[true, true, true, true, true, true, true, true, true, true, true, true, true, true, true, true, true, true, true, true, true, true, true, true] rfl rfl (one_of HT_.out (by kernel_rfl)) (by decide) (fun K hK => ?_)
               refine goes_ Try.func62 (by kernel_rfl) rfl #[.pointer (some ⟨go9, 0, none⟩), .int .i64 ((rd_T71 t480 x21_1).f0), .int .i64 ((rd_T71 t480 x21_1).f1), .int .i64 ((rd_T71 t480 x21_1).f2), .int .i64 t488] (by rfl) rfl rfl zM ?_
               with_reducible refine (impl_chi_set.calls (fun k_ => some k_ = (.slice (some ⟨go9, 0, none⟩) x4_1.length co9 : Value).ownBlock) (.slice (some ⟨go9, 0, none⟩) x4_1.length co9) x4_1 ((rd_T71 t480 x21_1).f0) ((rd_T71 t480 x21_1).f1) ((rd_T71 t480 x21_1).f2) t488 t489 w _ ?side1 ?side2 A23.out).mono ?_
               (case side1 => repeat (first | (with_reducible first | exact HB.out | apply below_alloc | apply pw_below_drewN | apply below_drew1 | refine below_set ?_ GE474.out | refine below_set ?_ GE484.out) | exact HB.out))
               (case side2 => exact Kd.R_tight rfl HO_4.out)
               rintro e w31 ⟨rfl, hy0, hb, hkp⟩
               refine ⟨_, rfl, ?_⟩
               have n0_ := Aside0.mk (Kd.R_reok rfl hy0 (fun k_ e_ => HO_4.out.1 k_ e_))
               have n1_ := Aside0.mk (Kd.R_mono (ok' := fun k_ => k_ ≠ gb484) (Kd.R_keptB ((Kd.R_apart' HO_19.out (Kd.R_typed HO_4.out) (by decide))) hkp (fun k_ hk_ hs_ => (hk_.2) hs_)) (fun k_ hk_ => hk_.1.1))
               have n2_ := Aside0.mk (blk_kept (zK BK474.out) hkp (fun hs_ => (fun e_ => (Kd.R_ne HO_4.out BK474.out (by decide)) e_) hs_))
               have n3_ := Aside0.mk (blk_kept (zK BK484.out) hkp (fun hs_ => (fun e_ => (Kd.R_ne HO_4.out BK484.out (by decide)) e_) hs_))
               have n4_ := Aside0.mk (hb)
               clear HO_4
               clear HO_19
               clear BK474
               clear BK484
               clear HB
               have HO_4 := n0_
               have HO_19 := n1_
               have BK474 := n2_
               have BK484 := n3_
               have HB := n4_
               clear n0_ n1_ n2_ n3_ n4_
               (try clear hb)
               (try clear hkp)
               (try clear hy0)
               refine hK.out _ _ ⟨(blk_cell BK484.out 0).trans rfl, (blk_cell BK484.out 1).trans rfl, (blk_cell BK484.out 2).trans rfl, ((HB.out.cell (World.block_lt_of_cell? w _ hw485_0)).trans hw485_0), ((HB.out.cell (World.block_lt_of_cell? w _ hw485_1)).trans hw485_1), ((HB.out.cell (World.block_lt_of_cell? w _ hw486_0)).trans hw486_0), ((HB.out.cell (World.block_lt_of_cell? w _ hw486_1)).trans hw486_1), ((HB.out.cell (World.block_lt_of_cell? w _ hw487_0)).trans hw487_0), ((HB.out.cell (World.block_lt_of_cell? w _ hw487_1)).trans hw487_1)⟩ (fun hHeld => ?_)
               clear hK K
               refine norm_ (a' := ?_) ?_ ?_
               rotate_left
               ·show Act.put _ (some 48) _ = _
                simp only [Act.put, List.setIfInBounds_toArray, List.set_cons_zero, List.set_cons_succ, i64_w, i32_w]
                rfl
               refine done_ (done_of HT_.out (by kernel_rfl)) ?_
               try go_wp2
               (try simp only [← hl4_1])
               go_roundg k1
               case measure => have := HK1.out; omega
               case rel => exact ⟨(t489), (wrap64 (x21_1 + 1)), zF, H', ⟨by have := HK1.out; omega⟩, ⟨by (try simp only [hl4_1]); (with_reducible repeat (first | apply Kd.R_alloc | apply Kd.R_drewN | apply Kd.R_drew)); exact HO_4.out⟩, ⟨by (try simp only [hl4_1]); (with_reducible repeat (first | apply Kd.R_alloc | apply Kd.R_drewN | apply Kd.R_drew)); exact Kd.R_mono HO_19.out (fun _ hk => trivial)⟩, ⟨by (try simp only [hl4_1]); (with_reducible repeat (first | refine blk_drewN ?_ _ | refine blk_drew ?_ | refine blk_alloc ?_ _)); exact BK474.out⟩, ⟨by repeat (first | (with_reducible first | exact HB.out | apply below_alloc | apply pw_below_drewN | apply below_drew1 | refine below_set ?_ GE474.out | refine below_set ?_ GE484.out) | exact HB.out)⟩⟩
              ·rw [if_neg c22] at H
               exact absurd H (by simp)
             ·rw [if_neg c20] at H
              exact absurd H (by simp)
            ·rw [if_neg c19] at H
             exact absurd H (by simp)
           ·rw [if_neg c18] at H
            exact absurd H (by simp)
          ·rw [if_neg c17] at H
           exact absurd H (by simp)
         ·rw [if_neg c16] at H
          exact absurd H (by simp)
        ·rw [if_neg c15] at H
         exact absurd H (by simp)
       ·rw [if_neg c14] at H
        exact absurd H (by simp)
      ·rw [if_neg c13] at H
       exact absurd H (by simp)
     ·rw [if_neg c12] at H
      have c12b0 : decide (x21_1 < (t480.length : Int)) = false := decide_eq_false c12
      clear c12
      by_cases c32 : x4_1.length = 344
      ·rw [if_pos c32] at H
       have c32b0 := eq_true c32
       have c32b1 : decide (x4_1.length = 344) = true := decide_eq_true c32
       clear c32
       replace H := Option.bind_eq_some_iff.mp H
       obtain ⟨⟨t490, t491⟩, A330, H⟩ := H
       replace H : (some (t490, t491, true)) = some (r1, r2, r3) := H
       have A33 := Aside0.mk A330
       clear A330
       simp only [Option.some.injEq, Prod.mk.injEq] at H
       obtain ⟨rfl, rfl, rfl⟩ := H
       go_wp2_with (first | ((with_reducible refine gate_callee (f := 63) rfl ?_); refine goesL_ (some 51) rfl rfl Try.func63 (by kernel_rfl) rfl #[.pointer (some ⟨go9, 0, none⟩)] rfl zM ?_; (with_reducible refine (impl_chi_signs.calls k1 _ x4_1 t490 t491 _ ?side1 ?side2 A33.out).mono ?_); (case side1 => repeat (first | exact (Kd.R_reads' HO_4.out).2.2 | (with_reducible refine Kd.C_alloc ?_ _) | (with_reducible refine Kd.C_drewN ?_ _) | (with_reducible refine Kd.C_drew ?_))); (case side2 => exact (zA : x4_1.length = 344)); rintro e w35 ⟨rfl, hb⟩; refine ⟨_, rfl, ?_⟩; replace HO_4 := Aside0.mk (Kd.R_below (zR HO_4.out) hb); replace HO_19 := Aside0.mk (Kd.R_below (zR HO_19.out) hb); replace BK474 := Aside0.mk (blk_below (g := gb474) (o := .cells #[.int .i64 0, .string (⟨#[]⟩ : ByteArray)] 53 (0, 0)) (zK BK474.out) hb); replace HB := Aside0.mk (below_step (zG GE474.out) hb); (try clear hb); have hcz36_0 : w35.cell? ⟨gb474, 0, none⟩ = some (.int .i64 0) := (blk_cell BK474.out 0).trans rfl; have hcz36_1 : w35.cell? ⟨gb474, 1, none⟩ = some (.string (⟨#[]⟩ : ByteArray)) := (blk_cell BK474.out 1).trans rfl; have hfz36_0 := blk_frozen BK474.out 0; have hfz36_1 := blk_frozen BK474.out 1))
       refine bodyPost_ret (results_ct rfl _ _ gb474 53 #[.int .i64 t490, .string t491] (0, 0) _ rfl (by (with_reducible repeat (first | refine blk_drewN ?_ _ | refine blk_drew ?_ | refine blk_alloc ?_ _)); refine blk_put (cs := #[.int .i64 t490, .string (⟨#[]⟩ : ByteArray)]) ?_ 1 _ rfl; (with_reducible repeat (first | refine blk_drewN ?_ _ | refine blk_drew ?_ | refine blk_alloc ?_ _)); refine blk_put (cs := #[.int .i64 0, .string (⟨#[]⟩ : ByteArray)]) ?_ 0 _ rfl; (with_reducible repeat (first | refine blk_drewN ?_ _ | refine blk_drew ?_ | refine blk_alloc ?_ _)); exact BK474.out) Try.underlying53 rfl (by kernel_rfl)) rfl ?_
       exact ⟨zE, zG GE474.out⟩
      ·rw [if_neg c32] at H
       exact absurd H (by simp)
  ·rw [if_neg c4] at H
   exact absurd H (by simp)
 ·replace c3 := Bool.eq_false_iff.mpr c3
  subst c3
  have H1 : (some (0, (⟨#[]⟩ : ByteArray), false)) = some (r1, r2, r3) := by rw [if_neg (show ¬ (false = true) by decide)] at H; exact H
  clear H
  have H := H1
  clear H1
  simp only [Option.some.injEq, Prod.mk.injEq] at H
  obtain ⟨rfl, rfl, rfl⟩ := H
  go_enter Try.func41, Try.ntmps41
  go_wp2_with (first | ((with_reducible refine gate_dst (N := 2) rfl ?_); refine box_event ?hg (N := 2) ?hd (cs := #[.int .i64 0, .string (⟨#[]⟩ : ByteArray)]) (t := 53) ?hr ?_; (case hd => rfl); (case hg => rfl); (case hr => first | (go_simp; done) | (go_simp; rfl)); intro gb474 hg w37 hbox hb; have BK474 := Aside0.mk (hbox); have GW474 := Aside0.mk ((by rw [hg]; exact (below_size zB) : w.heap.size ≤ gb474)); have GE474 := Aside0.mk ((by rw [hg]; exact (below_size zB) : w.heap.size ≤ gb474)); replace HB := Aside0.mk (below_step zB hb); clear hb hbox hg) | ((with_reducible refine gate_callee (f := 35) rfl ?_); refine goesL_ (some 8) rfl rfl Try.func35 (by kernel_rfl) rfl #[.slice A0 l0.length c0] rfl zM ?_; (with_reducible refine (impl_ArePoints.calls k _ _ l0 false _ ?side1 ?side2 A2.out).mono ?_); (case side1 => repeat (first | exact (Kd.C_below HR0.out HB.out) | (with_reducible refine Kd.C_alloc ?_ _) | (with_reducible refine Kd.C_drewN ?_ _) | (with_reducible refine Kd.C_drew ?_))); (case side2 => exact HC0.out); rintro e w38 ⟨rfl, hb⟩; refine ⟨_, rfl, ?_⟩; replace BK474 := Aside0.mk (blk_below (g := gb474) (o := .cells #[.int .i64 0, .string (⟨#[]⟩ : ByteArray)] 53 (0, 0)) (zK BK474.out) hb); replace HB := Aside0.mk (below_step (zG GE474.out) hb); (try clear hb); have hcz39_0 : w38.cell? ⟨gb474, 0, none⟩ = some (.int .i64 0) := (blk_cell BK474.out 0).trans rfl; have hcz39_1 : w38.cell? ⟨gb474, 1, none⟩ = some (.string (⟨#[]⟩ : ByteArray)) := (blk_cell BK474.out 1).trans rfl; have hfz39_0 := blk_frozen BK474.out 0; have hfz39_1 := blk_frozen BK474.out 1))
  refine bodyPost_ret (results_ct rfl _ _ gb474 53 #[.int .i64 0, .string (⟨#[]⟩ : ByteArray)] (0, 0) _ rfl (by (with_reducible repeat (first | refine blk_drewN ?_ _ | refine blk_drew ?_ | refine blk_alloc ?_ _)); refine blk_put (cs := #[.int .i64 0, .string (⟨#[]⟩ : ByteArray)]) ?_ 1 _ rfl; (with_reducible repeat (first | refine blk_drewN ?_ _ | refine blk_drew ?_ | refine blk_alloc ?_ _)); refine blk_put (cs := #[.int .i64 0, .string (⟨#[]⟩ : ByteArray)]) ?_ 0 _ rfl; (with_reducible repeat (first | refine blk_drewN ?_ _ | refine blk_drew ?_ | refine blk_alloc ?_ _)); exact BK474.out) Try.underlying53 rfl (by kernel_rfl)) rfl ?_
  exact ⟨zE, zG GE474.out⟩
/-! ### laws_eqSigns: function 42 -/
def laws_eqSigns.f (a0_0 : Int) (a0_1 : ByteArray) (a1_0 : Int) (a1_1 : ByteArray) : Option (Bool) := if a0_0 = a1_0 then (if a0_1.toList = a1_1.toList then (some true) else (some false)) else (some false)
set_option maxHeartbeats 8000000 in
set_option maxRecDepth 100000 in
theorem laws_eqSigns.calls (a0_0 : Int) (a0_1 : ByteArray) (a1_0 : Int) (a1_1 : ByteArray) (r : Bool) (w : World) (h : laws_eqSigns.f a0_0 a0_1 a1_0 a1_1 = some r) :
  Calls Try.prog 42 #[.agg #[.int .i64 a0_0, .string a0_1], .agg #[.int .i64 a1_0, .string a1_1]] w fun e w' => e = .returned (.bool r) ∧ Below w.heap.size w w' := by
 have hu53 := Try.underlying53
 have HB := Aside0.mk (Below.refl w.heap.size w)
 have H : (if a0_0 = a1_0 then (if a0_1.toList = a1_1.toList then (some true) else (some false)) else (some false)) = some r := h
 clear h
 by_cases c3 : a0_0 = a1_0
 ·rw [if_pos c3] at H
  have c3b0 : (a0_0 == a1_0) = true := beq_iff_eq.mpr c3
  have c3b1 : (a0_0 != a1_0) = false := bne_eq_false_iff_eq.mpr c3
  clear c3
  by_cases c4 : a0_1.toList = a1_1.toList
  ·rw [if_pos c4] at H
   have c4b0 : (a0_1.toList == a1_1.toList) = true := beq_iff_eq.mpr c4
   have c4b1 : (a0_1.toList != a1_1.toList) = false := bne_eq_false_iff_eq.mpr c4
   clear c4
   obtain rfl := Option.some.inj H
   go_enter Try.func42, Try.ntmps42
   go_wp2_with (first | ((with_reducible refine gate_dst (N := 2) rfl ?_); refine box_event ?hg (N := 2) ?hd (cs := #[.int .i64 a0_0, .string a0_1]) (t := 53) ?hr ?_; (case hd => rfl); (case hg => rfl); (case hr => first | (go_simp; done) | (go_simp; rfl)); intro gb492 hg w5 hbox hb; have BK492 := Aside0.mk (hbox); have GW492 := Aside0.mk ((by rw [hg]; exact (below_size zB) : w.heap.size ≤ gb492)); have GE492 := Aside0.mk ((by rw [hg]; exact (below_size zB) : w.heap.size ≤ gb492)); replace HB := Aside0.mk (below_step zB hb); clear hb hbox hg) | ((with_reducible refine gate_dst (N := 3) rfl ?_); refine box_event ?hg (N := 3) ?hd (cs := #[.int .i64 a1_0, .string a1_1]) (t := 53) ?hr ?_; (case hd => rfl); (case hg => rfl); (case hr => first | (go_simp; done) | (go_simp; rfl)); intro gb493 hg w6 hbox hb; have n0_ := Aside0.mk (blk_below (g := gb492) (o := .cells #[.int .i64 a0_0, .string a0_1] 53 (0, 0)) (zK BK492.out) hb); have n1_ := Aside0.mk (below_step (zG GE492.out) hb); have n2_ := Aside0.mk (hbox); have n3_ := Aside0.mk ((by rw [hg]; exact (below_size (zG GE492.out)) : w.heap.size ≤ gb493)); have n4_ := Aside0.mk ((by rw [hg]; exact (below_size (zG GE492.out)) : w.heap.size ≤ gb493)); have n5_ := Aside0.mk ((by rw [hg]; exact Nat.ne_of_lt (blk_lt (g := gb492) (o := .cells #[.int .i64 a0_0, .string a0_1] 53 (0, 0)) (zK BK492.out)) : gb492 ≠ gb493)); have n6_ := Aside0.mk ((by rw [hg]; exact Nat.ne_of_gt (blk_lt (g := gb492) (o := .cells #[.int .i64 a0_0, .string a0_1] 53 (0, 0)) (zK BK492.out)) : gb493 ≠ gb492)); clear BK492; clear HB; have BK492 := n0_; have HB := n1_; have BK493 := n2_; have GW493 := n3_; have GE493 := n4_; have NB492_493 := n5_; have NB493_492 := n6_; clear n0_ n1_ n2_ n3_ n4_ n5_ n6_; clear hb hbox hg; have hnb7 := NB492_493.out; have hnc7 := NB493_492.out; have hcz8_0 : w6.cell? ⟨gb492, 0, none⟩ = some (.int .i64 a0_0) := (blk_cell BK492.out 0).trans rfl; have hcz8_1 : w6.cell? ⟨gb492, 1, none⟩ = some (.string a0_1) := (blk_cell BK492.out 1).trans rfl; have hfz8_0 := blk_frozen BK492.out 0; have hfz8_1 := blk_frozen BK492.out 1; have hcz9_0 : w6.cell? ⟨gb493, 0, none⟩ = some (.int .i64 a1_0) := (blk_cell BK493.out 0).trans rfl; have hcz9_1 : w6.cell? ⟨gb493, 1, none⟩ = some (.string a1_1) := (blk_cell BK493.out 1).trans rfl; have hfz9_0 := blk_frozen BK493.out 0; have hfz9_1 := blk_frozen BK493.out 1))
   go_ret
   exact ⟨zE, by repeat (first | (with_reducible first | exact HB.out | apply below_alloc | apply pw_below_drewN | apply below_drew1 | refine below_set ?_ GE492.out | refine below_set ?_ GE493.out) | exact HB.out)⟩
  ·rw [if_neg c4] at H
   have c4b0 : (a0_1.toList == a1_1.toList) = false := beq_eq_false_iff_ne.mpr c4
   have c4b1 : (a0_1.toList != a1_1.toList) = true := bne_iff_ne.mpr c4
   obtain rfl := Option.some.inj H
   go_enter Try.func42, Try.ntmps42
   go_wp2_with (first | ((with_reducible refine gate_dst (N := 2) rfl ?_); refine box_event ?hg (N := 2) ?hd (cs := #[.int .i64 a0_0, .string a0_1]) (t := 53) ?hr ?_; (case hd => rfl); (case hg => rfl); (case hr => first | (go_simp; done) | (go_simp; rfl)); intro gb492 hg w10 hbox hb; have BK492 := Aside0.mk (hbox); have GW492 := Aside0.mk ((by rw [hg]; exact (below_size zB) : w.heap.size ≤ gb492)); have GE492 := Aside0.mk ((by rw [hg]; exact (below_size zB) : w.heap.size ≤ gb492)); replace HB := Aside0.mk (below_step zB hb); clear hb hbox hg) | ((with_reducible refine gate_dst (N := 3) rfl ?_); refine box_event ?hg (N := 3) ?hd (cs := #[.int .i64 a1_0, .string a1_1]) (t := 53) ?hr ?_; (case hd => rfl); (case hg => rfl); (case hr => first | (go_simp; done) | (go_simp; rfl)); intro gb493 hg w11 hbox hb; have n0_ := Aside0.mk (blk_below (g := gb492) (o := .cells #[.int .i64 a0_0, .string a0_1] 53 (0, 0)) (zK BK492.out) hb); have n1_ := Aside0.mk (below_step (zG GE492.out) hb); have n2_ := Aside0.mk (hbox); have n3_ := Aside0.mk ((by rw [hg]; exact (below_size (zG GE492.out)) : w.heap.size ≤ gb493)); have n4_ := Aside0.mk ((by rw [hg]; exact (below_size (zG GE492.out)) : w.heap.size ≤ gb493)); have n5_ := Aside0.mk ((by rw [hg]; exact Nat.ne_of_lt (blk_lt (g := gb492) (o := .cells #[.int .i64 a0_0, .string a0_1] 53 (0, 0)) (zK BK492.out)) : gb492 ≠ gb493)); have n6_ := Aside0.mk ((by rw [hg]; exact Nat.ne_of_gt (blk_lt (g := gb492) (o := .cells #[.int .i64 a0_0, .string a0_1] 53 (0, 0)) (zK BK492.out)) : gb493 ≠ gb492)); clear BK492; clear HB; have BK492 := n0_; have HB := n1_; have BK493 := n2_; have GW493 := n3_; have GE493 := n4_; have NB492_493 := n5_; have NB493_492 := n6_; clear n0_ n1_ n2_ n3_ n4_ n5_ n6_; clear hb hbox hg; have hnb12 := NB492_493.out; have hnc12 := NB493_492.out; have hcz13_0 : w11.cell? ⟨gb492, 0, none⟩ = some (.int .i64 a0_0) := (blk_cell BK492.out 0).trans rfl; have hcz13_1 : w11.cell? ⟨gb492, 1, none⟩ = some (.string a0_1) := (blk_cell BK492.out 1).trans rfl; have hfz13_0 := blk_frozen BK492.out 0; have hfz13_1 := blk_frozen BK492.out 1; have hcz14_0 : w11.cell? ⟨gb493, 0, none⟩ = some (.int .i64 a1_0) := (blk_cell BK493.out 0).trans rfl; have hcz14_1 : w11.cell? ⟨gb493, 1, none⟩ = some (.string a1_1) := (blk_cell BK493.out 1).trans rfl; have hfz14_0 := blk_frozen BK493.out 0; have hfz14_1 := blk_frozen BK493.out 1))
   go_ret
   exact ⟨zE, by repeat (first | (with_reducible first | exact HB.out | apply below_alloc | apply pw_below_drewN | apply below_drew1 | refine below_set ?_ GE492.out | refine below_set ?_ GE493.out) | exact HB.out)⟩
 ·rw [if_neg c3] at H
  have c3b0 : (a0_0 == a1_0) = false := beq_eq_false_iff_ne.mpr c3
  have c3b1 : (a0_0 != a1_0) = true := bne_iff_ne.mpr c3
  obtain rfl := Option.some.inj H
  go_enter Try.func42, Try.ntmps42
  go_wp2_with (first | ((with_reducible refine gate_dst (N := 2) rfl ?_); refine box_event ?hg (N := 2) ?hd (cs := #[.int .i64 a0_0, .string a0_1]) (t := 53) ?hr ?_; (case hd => rfl); (case hg => rfl); (case hr => first | (go_simp; done) | (go_simp; rfl)); intro gb492 hg w15 hbox hb; have BK492 := Aside0.mk (hbox); have GW492 := Aside0.mk ((by rw [hg]; exact (below_size zB) : w.heap.size ≤ gb492)); have GE492 := Aside0.mk ((by rw [hg]; exact (below_size zB) : w.heap.size ≤ gb492)); replace HB := Aside0.mk (below_step zB hb); clear hb hbox hg) | ((with_reducible refine gate_dst (N := 3) rfl ?_); refine box_event ?hg (N := 3) ?hd (cs := #[.int .i64 a1_0, .string a1_1]) (t := 53) ?hr ?_; (case hd => rfl); (case hg => rfl); (case hr => first | (go_simp; done) | (go_simp; rfl)); intro gb493 hg w16 hbox hb; have n0_ := Aside0.mk (blk_below (g := gb492) (o := .cells #[.int .i64 a0_0, .string a0_1] 53 (0, 0)) (zK BK492.out) hb); have n1_ := Aside0.mk (below_step (zG GE492.out) hb); have n2_ := Aside0.mk (hbox); have n3_ := Aside0.mk ((by rw [hg]; exact (below_size (zG GE492.out)) : w.heap.size ≤ gb493)); have n4_ := Aside0.mk ((by rw [hg]; exact (below_size (zG GE492.out)) : w.heap.size ≤ gb493)); have n5_ := Aside0.mk ((by rw [hg]; exact Nat.ne_of_lt (blk_lt (g := gb492) (o := .cells #[.int .i64 a0_0, .string a0_1] 53 (0, 0)) (zK BK492.out)) : gb492 ≠ gb493)); have n6_ := Aside0.mk ((by rw [hg]; exact Nat.ne_of_gt (blk_lt (g := gb492) (o := .cells #[.int .i64 a0_0, .string a0_1] 53 (0, 0)) (zK BK492.out)) : gb493 ≠ gb492)); clear BK492; clear HB; have BK492 := n0_; have HB := n1_; have BK493 := n2_; have GW493 := n3_; have GE493 := n4_; have NB492_493 := n5_; have NB493_492 := n6_; clear n0_ n1_ n2_ n3_ n4_ n5_ n6_; clear hb hbox hg; have hnb17 := NB492_493.out; have hnc17 := NB493_492.out; have hcz18_0 : w16.cell? ⟨gb492, 0, none⟩ = some (.int .i64 a0_0) := (blk_cell BK492.out 0).trans rfl; have hcz18_1 : w16.cell? ⟨gb492, 1, none⟩ = some (.string a0_1) := (blk_cell BK492.out 1).trans rfl; have hfz18_0 := blk_frozen BK492.out 0; have hfz18_1 := blk_frozen BK492.out 1; have hcz19_0 : w16.cell? ⟨gb493, 0, none⟩ = some (.int .i64 a1_0) := (blk_cell BK493.out 0).trans rfl; have hcz19_1 : w16.cell? ⟨gb493, 1, none⟩ = some (.string a1_1) := (blk_cell BK493.out 1).trans rfl; have hfz19_0 := blk_frozen BK493.out 0; have hfz19_1 := blk_frozen BK493.out 1))
  go_ret
  exact ⟨zE, by repeat (first | (with_reducible first | exact HB.out | apply below_alloc | apply pw_below_drewN | apply below_drew1 | refine below_set ?_ GE492.out | refine below_set ?_ GE493.out) | exact HB.out)⟩
/-! ### laws_FnExactSignsOf: function 11 -/
def laws_FnExactSignsOf.j0 : Nat → List (S34) → List (S36) → Bool → Option (Bool)
 | 0, _, _, _ => none
 | k + 1, x0, x6, x35 => if x35 = true then (some false) else ((laws_toPointS.f k x0).bind fun t510 => ((laws_eqPointS.f k x6 t510).bind fun t513 => (if t513 = true then (some true) else (some false))))
def laws_FnExactSignsOf.f (k : Nat) (l0 : List (S34)) : Option (Bool) := (laws_szPointS.f l0 1048576).bind fun t494 => (if t494 < 0 then (some true) else ((laws_toPointS.f k l0).bind fun t495 => ((spec_SignsOf.f k t495).bind fun bt498 => ((laws_toPointS.f k l0).bind fun t502 => ((impl_SignsOf.f k t502).bind fun bt505 => ((laws_eqSigns.f bt505.1 bt505.2.1 bt498.1 bt498.2.1).bind fun t509 => (if t509 = true then (laws_FnExactSignsOf.j0 k l0 t502 (bt505.2.2 != bt498.2.2)) else (laws_FnExactSignsOf.j0 k l0 t502 true))))))))
theorem laws_FnExactSignsOf.mono_l : ∀ k, (∀ y0 y1 y2, LeO (laws_FnExactSignsOf.j0 k y0 y1 y2) (laws_FnExactSignsOf.j0 (k + 1) y0 y1 y2))
 | 0 => fun _ _ _ r h => by simp [laws_FnExactSignsOf.j0] at h
 | k + 1 => by
  have ih0 := laws_FnExactSignsOf.mono_l k
  ·intro y0 y1 y2
   unfold laws_FnExactSignsOf.j0
   repeat' first
   | (with_reducible exact ih0 _ _ _)
   | (with_reducible exact impl_SignsOf.mono _ _)
   | (with_reducible exact laws_eqPointS.mono _ _ _)
   | (with_reducible exact laws_toPointS.mono _ _)
   | (with_reducible exact spec_SignsOf.mono _ _)
   | (with_reducible exact LeO.refl _)
   | (with_reducible exact LeO.none _)
   | (with_reducible refine LeO.ite ?_ ?_)
   | (with_reducible refine LeO.bind ?_ (fun _ => ?_))
   | exact ih0 _ _ _
   | exact impl_SignsOf.mono _ _
   | exact laws_eqPointS.mono _ _ _
   | exact laws_toPointS.mono _ _
   | exact spec_SignsOf.mono _ _
   | exact LeO.none _
   | refine LeO.ite ?_ ?_
   | refine LeO.bind ?_ (fun _ => ?_)
theorem laws_FnExactSignsOf.mono : ∀ a0 k, LeO (laws_FnExactSignsOf.f k a0) (laws_FnExactSignsOf.f (k + 1) a0) := by
 intro a0 k
 have ih0 := laws_FnExactSignsOf.mono_l k
 unfold laws_FnExactSignsOf.f
 repeat' first
   | (with_reducible exact ih0 _ _ _)
   | (with_reducible exact impl_SignsOf.mono _ _)
   | (with_reducible exact laws_eqPointS.mono _ _ _)
   | (with_reducible exact laws_toPointS.mono _ _)
   | (with_reducible exact spec_SignsOf.mono _ _)
   | (with_reducible exact LeO.refl _)
   | (with_reducible exact LeO.none _)
   | (with_reducible refine LeO.ite ?_ ?_)
   | (with_reducible refine LeO.bind ?_ (fun _ => ?_))
   | exact ih0 _ _ _
   | exact impl_SignsOf.mono _ _
   | exact laws_eqPointS.mono _ _ _
   | exact laws_toPointS.mono _ _
   | exact spec_SignsOf.mono _ _
   | exact LeO.none _
   | refine LeO.ite ?_ ?_
   | refine LeO.bind ?_ (fun _ => ?_)
set_option maxHeartbeats 8000000 in
set_option maxRecDepth 100000 in
theorem laws_FnExactSignsOf.calls (k : Nat) (A0 : Option Addr) (c0 : Nat) (l0 : List (S34)) (r : Bool) (w : World) (hr0 : Kd.C k34 w A0 l0.length l0) (hc0 : l0.length ≤ c0) (h : laws_FnExactSignsOf.f k l0 = some r) (hr_ : r = true) :
  Calls Try.prog 11 #[.slice A0 l0.length c0] w fun e w' => e = .returned (.bool r) ∧ Below w.heap.size w w' := by
 have hu53 := Try.underlying53
 have HR0 := Aside0.mk hr0
 have HC0 := Aside0.mk hc0
 clear hr0 hc0
 have HB := Aside0.mk (Below.refl w.heap.size w)
 have H : ((laws_szPointS.f l0 1048576).bind fun t494 => (if t494 < 0 then (some true) else ((laws_toPointS.f k l0).bind fun t495 => ((spec_SignsOf.f k t495).bind fun bt498 => ((laws_toPointS.f k l0).bind fun t502 => ((impl_SignsOf.f k t502).bind fun bt505 => ((laws_eqSigns.f bt505.1 bt505.2.1 bt498.1 bt498.2.1).bind fun t509 => (if t509 = true then (laws_FnExactSignsOf.j0 k l0 t502 (bt505.2.2 != bt498.2.2)) else (laws_FnExactSignsOf.j0 k l0 t502 true))))))))) = some r := h
 clear h
 replace H := Option.bind_eq_some_iff.mp H
 obtain ⟨t494, A20, H⟩ := H
 replace H : (if t494 < 0 then (some true) else ((laws_toPointS.f k l0).bind fun t495 => ((spec_SignsOf.f k t495).bind fun bt498 => ((laws_toPointS.f k l0).bind fun t502 => ((impl_SignsOf.f k t502).bind fun bt505 => ((laws_eqSigns.f bt505.1 bt505.2.1 bt498.1 bt498.2.1).bind fun t509 => (if t509 = true then (laws_FnExactSignsOf.j0 k l0 t502 (bt505.2.2 != bt498.2.2)) else (laws_FnExactSignsOf.j0 k l0 t502 true)))))))) = some r := H
 have A2 := Aside0.mk A20
 clear A20
 by_cases c3 : t494 < 0
 ·rw [if_pos c3] at H
  have c3b0 : decide (t494 < 0) = true := decide_eq_true c3
  clear c3
  obtain rfl := Option.some.inj H
  go_enter Try.func11, Try.ntmps11
  go_wp2_with (first | ((with_reducible refine gate_callee (f := 18) rfl ?_); refine goesL_ (some 11) rfl rfl Try.func18 (by kernel_rfl) rfl #[.slice A0 l0.length c0, .int .i64 1048576] rfl zM ?_; (with_reducible refine (laws_szPointS.calls _ _ l0 1048576 t494 _ ?side1 ?side2 A2.out).mono ?_); (case side1 => repeat (first | exact HR0.out | (with_reducible refine Kd.C_alloc ?_ _) | (with_reducible refine Kd.C_drewN ?_ _) | (with_reducible refine Kd.C_drew ?_))); (case side2 => exact HC0.out); rintro e w' ⟨rfl, ⟨nd, rfl⟩⟩; refine ⟨_, rfl, ?_⟩))
  go_ret
  exact ⟨zE, zB⟩
 ·rw [if_neg c3] at H
  have c3b0 : decide (t494 < 0) = false := decide_eq_false c3
  clear c3
  replace H := Option.bind_eq_some_iff.mp H
  obtain ⟨t495, A40, H⟩ := H
  replace H : ((spec_SignsOf.f k t495).bind fun bt498 => ((laws_toPointS.f k l0).bind fun t502 => ((impl_SignsOf.f k t502).bind fun bt505 => ((laws_eqSigns.f bt505.1 bt505.2.1 bt498.1 bt498.2.1).bind fun t509 => (if t509 = true then (laws_FnExactSignsOf.j0 k l0 t502 (bt505.2.2 != bt498.2.2)) else (laws_FnExactSignsOf.j0 k l0 t502 true)))))) = some r := H
  have A4 := Aside0.mk A40
  clear A40
  replace H := Option.bind_eq_some_iff.mp H
  obtain ⟨⟨t498, t499, t500⟩, A50, H⟩ := H
  replace H : ((laws_toPointS.f k l0).bind fun t502 => ((impl_SignsOf.f k t502).bind fun bt505 => ((laws_eqSigns.f bt505.1 bt505.2.1 t498 t499).bind fun t509 => (if t509 = true then (laws_FnExactSignsOf.j0 k l0 t502 (bt505.2.2 != t500)) else (laws_FnExactSignsOf.j0 k l0 t502 true))))) = some r := H
  have A5 := Aside0.mk A50
  clear A50
  replace H := Option.bind_eq_some_iff.mp H
  obtain ⟨t502, A60, H⟩ := H
  replace H : ((impl_SignsOf.f k t502).bind fun bt505 => ((laws_eqSigns.f bt505.1 bt505.2.1 t498 t499).bind fun t509 => (if t509 = true then (laws_FnExactSignsOf.j0 k l0 t502 (bt505.2.2 != t500)) else (laws_FnExactSignsOf.j0 k l0 t502 true)))) = some r := H
  have A6 := Aside0.mk A60
  clear A60
  replace H := Option.bind_eq_some_iff.mp H
  obtain ⟨⟨t505, t506, t507⟩, A70, H⟩ := H
  replace H : ((laws_eqSigns.f t505 t506 t498 t499).bind fun t509 => (if t509 = true then (laws_FnExactSignsOf.j0 k l0 t502 (t507 != t500)) else (laws_FnExactSignsOf.j0 k l0 t502 true))) = some r := H
  have A7 := Aside0.mk A70
  clear A70
  have HC8 := Aside0.mk H
  clear H
  go_enter Try.func11, Try.ntmps11
  go_upto_region 8 with (first | ((with_reducible refine gate_callee (f := 18) rfl ?_); refine goesL_ (some 11) rfl rfl Try.func18 (by kernel_rfl) rfl #[.slice A0 l0.length c0, .int .i64 1048576] rfl zM ?_; (with_reducible refine (laws_szPointS.calls _ _ l0 1048576 t494 _ ?side1 ?side2 A2.out).mono ?_); (case side1 => repeat (first | exact HR0.out | (with_reducible refine Kd.C_alloc ?_ _) | (with_reducible refine Kd.C_drewN ?_ _) | (with_reducible refine Kd.C_drew ?_))); (case side2 => exact HC0.out); rintro e w' ⟨rfl, ⟨nd, rfl⟩⟩; refine ⟨_, rfl, ?_⟩) | ((with_reducible refine gate_callee (f := 20) rfl ?_); refine goesL_ (some 16) rfl rfl Try.func20 (by kernel_rfl) rfl #[.slice A0 l0.length c0] rfl zM ?_; (with_reducible refine (laws_toPointS.calls k _ _ l0 t495 _ ?side1 ?side2 A4.out).mono ?_); (case side1 => repeat (first | exact HR0.out | (with_reducible refine Kd.C_alloc ?_ _) | (with_reducible refine Kd.C_drewN ?_ _) | (with_reducible refine Kd.C_drew ?_))); (case side2 => exact HC0.out); rintro e w9 ⟨v496, rfl, ho0, hb⟩; refine ⟨_, rfl, ?_⟩; have HO497 := Aside0.mk (Kd.R_lower ho0 (below_size zB)); replace HB := Aside0.mk (below_step zB hb); (try clear hb); (try clear ho0); obtain ⟨Ao10, co10, eo10⟩ := Kd.R_slice HO497.out; subst eo10) | ((with_reducible refine gate_callee (f := 40) rfl ?_); refine goesL_ (some 17) rfl rfl Try.func40 (by kernel_rfl) rfl #[.slice Ao10 t495.length co10] rfl zM ?_; (with_reducible refine (spec_SignsOf.calls k _ _ t495 t498 t499 t500 _ ?side1 ?side2 A5.out).mono ?_); (case side1 => repeat (first | exact (Kd.R_reads' HO497.out).2.2 | (with_reducible refine Kd.C_alloc ?_ _) | (with_reducible refine Kd.C_drewN ?_ _) | (with_reducible refine Kd.C_drew ?_))); (case side2 => exact (Kd.R_reads' HO497.out).2.1); rintro e w11 ⟨rfl, hb⟩; refine ⟨_, rfl, ?_⟩; replace HO497 := Aside0.mk (Kd.R_below (zR HO497.out) hb); replace HB := Aside0.mk (below_step zB hb); (try clear hb)) | ((with_reducible refine gate_dst (N := 4) rfl ?_); refine box_event ?hg (N := 4) ?hd (cs := #[.int .i64 0, .string (⟨#[]⟩ : ByteArray)]) (t := 53) ?hr ?_; (case hd => rfl); (case hg => rfl); (case hr => first | (go_simp; done) | (go_simp; rfl)); intro gb501 hg w12 hbox hb; replace HO497 := Aside0.mk (Kd.R_below (zR HO497.out) hb); have BK501 := Aside0.mk (hbox); have GW501 := Aside0.mk ((by rw [hg]; exact (below_size zB) : w.heap.size ≤ gb501)); have GE501 := Aside0.mk ((by rw [hg]; exact (below_size zB) : w.heap.size ≤ gb501)); replace HB := Aside0.mk (below_step zB hb); clear hb hbox hg; have hcz13_0 : w12.cell? ⟨gb501, 0, none⟩ = some (.int .i64 0) := (blk_cell BK501.out 0).trans rfl; have hcz13_1 : w12.cell? ⟨gb501, 1, none⟩ = some (.string (⟨#[]⟩ : ByteArray)) := (blk_cell BK501.out 1).trans rfl; have hfz13_0 := blk_frozen BK501.out 0; have hfz13_1 := blk_frozen BK501.out 1) | ((with_reducible refine gate_callee (f := 20) rfl ?_); refine goesL_ (some 21) rfl rfl Try.func20 (by kernel_rfl) rfl #[.slice A0 l0.length c0] rfl zM ?_; (with_reducible refine (laws_toPointS.calls k _ _ l0 t502 _ ?side1 ?side2 A6.out).mono ?_); (case side1 => exact Kd.C_below HR0.out (zG GE501.out)); (case side2 => exact HC0.out); rintro e w14 ⟨v503, rfl, ho0, hb⟩; refine ⟨_, rfl, ?_⟩; have n0_ := Aside0.mk (Kd.R_elder' (by (with_reducible repeat (first | apply Kd.R_alloc | apply Kd.R_drewN | apply Kd.R_drew)); exact (Kd.R_mono (Kd.R_far (p := ⟨gb501, 1, none⟩) (Kd.R_far (p := ⟨gb501, 0, none⟩) (Kd.R_types HO497.out BK501.out (by decide)) (fun _ hk => hk.2) (.int .i64 t498)) (fun _ hk => hk.2) (.string t499)) (fun _ h_ => h_.1))) (Kd.R_base ho0) hb); have n1_ := Aside0.mk (Kd.R_lower (Kd.R_new' ho0 (Kd.R_lt (by (with_reducible repeat (first | apply Kd.R_alloc | apply Kd.R_drewN | apply Kd.R_drew)); exact (Kd.R_mono (Kd.R_far (p := ⟨gb501, 1, none⟩) (Kd.R_far (p := ⟨gb501, 0, none⟩) (Kd.R_types HO497.out BK501.out (by decide)) (fun _ hk => hk.2) (.int .i64 t498)) (fun _ hk => hk.2) (.string t499)) (fun _ h_ => h_.1))))) (below_size (zG GE501.out))); have n2_ := Aside0.mk (blk_below (g := gb501) (o := .cells #[.int .i64 t498, .string t499] 53 (0, 0)) (by (with_reducible repeat (first | refine blk_drewN ?_ _ | refine blk_drew ?_ | refine blk_alloc ?_ _)); refine blk_put (cs := #[.int .i64 t498, .string (⟨#[]⟩ : ByteArray)]) ?_ 1 _ rfl; (with_reducible repeat (first | refine blk_drewN ?_ _ | refine blk_drew ?_ | refine blk_alloc ?_ _)); refine blk_put (cs := #[.int .i64 0, .string (⟨#[]⟩ : ByteArray)]) ?_ 0 _ rfl; (with_reducible repeat (first | refine blk_drewN ?_ _ | refine blk_drew ?_ | refine blk_alloc ?_ _)); exact BK501.out) hb); have n3_ := Aside0.mk (below_step (zG GE501.out) hb); clear HO497; clear BK501; clear HB; have HO497 := n0_; have HO504 := n1_; have BK501 := n2_; have HB := n3_; clear n0_ n1_ n2_ n3_; (try clear hb); (try clear ho0); obtain ⟨Ao15, co15, eo15⟩ := Kd.R_slice HO504.out; subst eo15) | ((with_reducible refine gate_callee (f := 41) rfl ?_); refine goesL_ (some 24) rfl rfl Try.func41 (by kernel_rfl) rfl #[.slice Ao15 t502.length co15] rfl zM ?_; (with_reducible refine (impl_SignsOf.calls k _ _ t502 t505 t506 t507 _ ?side1 ?side2 A7.out).mono ?_); (case side1 => repeat (first | exact (Kd.R_reads' HO504.out).2.2 | (with_reducible refine Kd.C_alloc ?_ _) | (with_reducible refine Kd.C_drewN ?_ _) | (with_reducible refine Kd.C_drew ?_))); (case side2 => exact (Kd.R_reads' HO504.out).2.1); rintro e w16 ⟨rfl, hb⟩; refine ⟨_, rfl, ?_⟩; replace HO497 := Aside0.mk (Kd.R_below (zR HO497.out) hb); replace HO504 := Aside0.mk (Kd.R_below (zR HO504.out) hb); replace BK501 := Aside0.mk (blk_below (g := gb501) (o := .cells #[.int .i64 t498, .string t499] 53 (0, 0)) (zK BK501.out) hb); replace HB := Aside0.mk (below_step (zG GE501.out) hb); (try clear hb)) | ((with_reducible refine gate_dst (N := 7) rfl ?_); refine box_event ?hg (N := 7) ?hd (cs := #[.int .i64 0, .string (⟨#[]⟩ : ByteArray)]) (t := 53) ?hr ?_; (case hd => rfl); (case hg => rfl); (case hr => first | (go_simp; done) | (go_simp; rfl)); intro gb508 hg w17 hbox hb; have n0_ := Aside0.mk (Kd.R_below (zR HO497.out) hb); have n1_ := Aside0.mk (Kd.R_below (zR HO504.out) hb); have n2_ := Aside0.mk (blk_below (g := gb501) (o := .cells #[.int .i64 t498, .string t499] 53 (0, 0)) (zK BK501.out) hb); have n3_ := Aside0.mk (below_step (zG GE501.out) hb); have n4_ := Aside0.mk (hbox); have n5_ := Aside0.mk ((by rw [hg]; exact (below_size (zG GE501.out)) : w.heap.size ≤ gb508)); have n6_ := Aside0.mk ((by rw [hg]; exact (below_size (zG GE501.out)) : w.heap.size ≤ gb508)); have n7_ := Aside0.mk ((by rw [hg]; exact Nat.ne_of_lt (blk_lt (g := gb501) (o := .cells #[.int .i64 t498, .string t499] 53 (0, 0)) (zK BK501.out)) : gb501 ≠ gb508)); have n8_ := Aside0.mk ((by rw [hg]; exact Nat.ne_of_gt (blk_lt (g := gb501) (o := .cells #[.int .i64 t498, .string t499] 53 (0, 0)) (zK BK501.out)) : gb508 ≠ gb501)); clear HO497; clear HO504; clear BK501; clear HB; have HO497 := n0_; have HO504 := n1_; have BK501 := n2_; have HB := n3_; have BK508 := n4_; have GW508 := n5_; have GE508 := n6_; have NB501_508 := n7_; have NB508_501 := n8_; clear n0_ n1_ n2_ n3_ n4_ n5_ n6_ n7_ n8_; clear hb hbox hg; have hnb18 := NB508_501.out; have hnc18 := NB501_508.out; have hcz19_0 : w17.cell? ⟨gb508, 0, none⟩ = some (.int .i64 0) := (blk_cell BK508.out 0).trans rfl; have hcz19_1 : w17.cell? ⟨gb508, 1, none⟩ = some (.string (⟨#[]⟩ : ByteArray)) := (blk_cell BK508.out 1).trans rfl; have hfz19_0 := blk_frozen BK508.out 0; have hfz19_1 := blk_frozen BK508.out 1))
  (try simp only [Act.put, List.setIfInBounds_toArray, List.set_cons_zero, List.set_cons_succ])
  go_cut [35] (fun v35 wc => ∃ (kq : Nat) (x35_7 : Bool), v35 = .bool x35_7 ∧ Aside0 (laws_FnExactSignsOf.j0 kq l0 t502 x35_7 = some r) ∧ Aside0 (kq ≤ k) ∧ Aside0 (Kd.R k36 36 wc w.heap.size (fun _ => True) (.slice Ao15 t502.length co15) t502) ∧ Aside0 (wc.heap[gb501]? = some (.cells #[.int .i64 t498, .string t499] 53 (0, 0))) ∧ Aside0 (wc.heap[gb508]? = some (.cells #[.int .i64 t505, .string t506] 53 (0, 0))) ∧ Aside0 (Below w.heap.size w wc))
  case first =>
   have H := HC8.out
   clear HC8
   replace H := Option.bind_eq_some_iff.mp H
   obtain ⟨t509, A200, H⟩ := H
   replace H : (if t509 = true then (laws_FnExactSignsOf.j0 k l0 t502 (t507 != t500)) else (laws_FnExactSignsOf.j0 k l0 t502 true)) = some r := H
   have A20 := Aside0.mk A200
   clear A200
   by_cases c21 : t509 = true
   ·subst c21
    have H1 : (laws_FnExactSignsOf.j0 k l0 t502 (t507 != t500)) = some r := by rw [if_pos rfl] at H; exact H
    clear H
    have H := H1
    clear H1
    have H' := Aside0.mk H
    clear H
    have hnb22 := NB508_501.out
    have hnc22 := NB501_508.out
    have hcz23_0 : w17.cell? ⟨gb508, 0, none⟩ = some (.int .i64 0) := (blk_cell BK508.out 0).trans rfl
    have hcz23_1 : w17.cell? ⟨gb508, 1, none⟩ = some (.string (⟨#[]⟩ : ByteArray)) := (blk_cell BK508.out 1).trans rfl
    have hfz23_0 := blk_frozen BK508.out 0
    have hfz23_1 := blk_frozen BK508.out 1
    have hcz24_0 : w17.cell? ⟨gb501, 0, none⟩ = some (.int .i64 t498) := (blk_cell BK501.out 0).trans rfl
    have hcz24_1 : w17.cell? ⟨gb501, 1, none⟩ = some (.string t499) := (blk_cell BK501.out 1).trans rfl
    have hfz24_0 := blk_frozen BK501.out 0
    have hfz24_1 := blk_frozen BK501.out 1
    go_wp2_with (first | ((with_reducible refine gate_callee (f := 42) rfl ?_); refine goesL_ (some 29) rfl rfl Try.func42 (by kernel_rfl) rfl #[.agg #[.int .i64 t505, .string t506], .agg #[.int .i64 t498, .string t499]] rfl zM ?_; (with_reducible refine (laws_eqSigns.calls t505 t506 t498 t499 true _ A20.out).mono ?_); rintro e w25 ⟨rfl, hb⟩; refine ⟨_, rfl, ?_⟩; replace HO497 := Aside0.mk (Kd.R_below (by (with_reducible repeat (first | apply Kd.R_alloc | apply Kd.R_drewN | apply Kd.R_drew)); exact (Kd.R_mono (Kd.R_far (p := ⟨gb508, 1, none⟩) (Kd.R_far (p := ⟨gb508, 0, none⟩) (Kd.R_types HO497.out BK508.out (by decide)) (fun _ hk => hk.2) (.int .i64 t505)) (fun _ hk => hk.2) (.string t506)) (fun _ h_ => h_.1))) hb); replace HO504 := Aside0.mk (Kd.R_below (by (with_reducible repeat (first | apply Kd.R_alloc | apply Kd.R_drewN | apply Kd.R_drew)); exact (Kd.R_mono (Kd.R_far (p := ⟨gb508, 1, none⟩) (Kd.R_far (p := ⟨gb508, 0, none⟩) (Kd.R_types HO504.out BK508.out (by decide)) (fun _ hk => hk.2) (.int .i64 t505)) (fun _ hk => hk.2) (.string t506)) (fun _ h_ => h_.1))) hb); replace BK501 := Aside0.mk (blk_below (g := gb501) (o := .cells #[.int .i64 t498, .string t499] 53 (0, 0)) (by (with_reducible repeat (first | refine blk_drewN ?_ _ | refine blk_drew ?_ | refine blk_alloc ?_ _)); refine blk_far ?_ NB501_508.out _; (with_reducible repeat (first | refine blk_drewN ?_ _ | refine blk_drew ?_ | refine blk_alloc ?_ _)); refine blk_far ?_ NB501_508.out _; (with_reducible repeat (first | refine blk_drewN ?_ _ | refine blk_drew ?_ | refine blk_alloc ?_ _)); exact BK501.out) hb); replace BK508 := Aside0.mk (blk_below (g := gb508) (o := .cells #[.int .i64 t505, .string t506] 53 (0, 0)) (by (with_reducible repeat (first | refine blk_drewN ?_ _ | refine blk_drew ?_ | refine blk_alloc ?_ _)); refine blk_put (cs := #[.int .i64 t505, .string (⟨#[]⟩ : ByteArray)]) ?_ 1 _ rfl; (with_reducible repeat (first | refine blk_drewN ?_ _ | refine blk_drew ?_ | refine blk_alloc ?_ _)); refine blk_put (cs := #[.int .i64 0, .string (⟨#[]⟩ : ByteArray)]) ?_ 0 _ rfl; (with_reducible repeat (first | refine blk_drewN ?_ _ | refine blk_drew ?_ | refine blk_alloc ?_ _)); exact BK508.out) hb); replace HB := Aside0.mk (below_step (by repeat (first | (with_reducible first | exact HB.out | apply below_alloc | apply pw_below_drewN | apply below_drew1 | refine below_set ?_ GE501.out | refine below_set ?_ GE508.out) | exact HB.out)) hb); (try clear hb)))
    go_meet
    case rel => exact ⟨_, ((t507 != t500)), zF, H', ⟨by first | omega | exact Nat.le_refl _⟩, ⟨by (with_reducible repeat (first | apply Kd.R_alloc | apply Kd.R_drewN | apply Kd.R_drew)); exact Kd.R_mono HO504.out (fun _ hk => trivial)⟩, ⟨zK BK501.out⟩, ⟨zK BK508.out⟩, ⟨by repeat (first | (with_reducible first | exact HB.out | apply below_alloc | apply pw_below_drewN | apply below_drew1 | refine below_set ?_ GE501.out | refine below_set ?_ GE508.out) | exact HB.out)⟩⟩
   ·replace c21 := Bool.eq_false_iff.mpr c21
    subst c21
    have H1 : (laws_FnExactSignsOf.j0 k l0 t502 true) = some r := by rw [if_neg (show ¬ (false = true) by decide)] at H; exact H
    clear H
    have H := H1
    clear H1
    have H' := Aside0.mk H
    clear H
    have hnb26 := NB508_501.out
    have hnc26 := NB501_508.out
    have hcz27_0 : w17.cell? ⟨gb508, 0, none⟩ = some (.int .i64 0) := (blk_cell BK508.out 0).trans rfl
    have hcz27_1 : w17.cell? ⟨gb508, 1, none⟩ = some (.string (⟨#[]⟩ : ByteArray)) := (blk_cell BK508.out 1).trans rfl
    have hfz27_0 := blk_frozen BK508.out 0
    have hfz27_1 := blk_frozen BK508.out 1
    have hcz28_0 : w17.cell? ⟨gb501, 0, none⟩ = some (.int .i64 t498) := (blk_cell BK501.out 0).trans rfl
    have hcz28_1 : w17.cell? ⟨gb501, 1, none⟩ = some (.string t499) := (blk_cell BK501.out 1).trans rfl
    have hfz28_0 := blk_frozen BK501.out 0
    have hfz28_1 := blk_frozen BK501.out 1
    go_wp2_with (first | ((with_reducible refine gate_callee (f := 42) rfl ?_); refine goesL_ (some 29) rfl rfl Try.func42 (by kernel_rfl) rfl #[.agg #[.int .i64 t505, .string t506], .agg #[.int .i64 t498, .string t499]] rfl zM ?_; (with_reducible refine (laws_eqSigns.calls t505 t506 t498 t499 false _ A20.out).mono ?_); rintro e w29 ⟨rfl, hb⟩; refine ⟨_, rfl, ?_⟩; replace HO497 := Aside0.mk (Kd.R_below (by (with_reducible repeat (first | apply Kd.R_alloc | apply Kd.R_drewN | apply Kd.R_drew)); exact (Kd.R_mono (Kd.R_far (p := ⟨gb508, 1, none⟩) (Kd.R_far (p := ⟨gb508, 0, none⟩) (Kd.R_types HO497.out BK508.out (by decide)) (fun _ hk => hk.2) (.int .i64 t505)) (fun _ hk => hk.2) (.string t506)) (fun _ h_ => h_.1))) hb); replace HO504 := Aside0.mk (Kd.R_below (by (with_reducible repeat (first | apply Kd.R_alloc | apply Kd.R_drewN | apply Kd.R_drew)); exact (Kd.R_mono (Kd.R_far (p := ⟨gb508, 1, none⟩) (Kd.R_far (p := ⟨gb508, 0, none⟩) (Kd.R_types HO504.out BK508.out (by decide)) (fun _ hk => hk.2) (.int .i64 t505)) (fun _ hk => hk.2) (.string t506)) (fun _ h_ => h_.1))) hb); replace BK501 := Aside0.mk (blk_below (g := gb501) (o := .cells #[.int .i64 t498, .string t499] 53 (0, 0)) (by (with_reducible repeat (first | refine blk_drewN ?_ _ | refine blk_drew ?_ | refine blk_alloc ?_ _)); refine blk_far ?_ NB501_508.out _; (with_reducible repeat (first | refine blk_drewN ?_ _ | refine blk_drew ?_ | refine blk_alloc ?_ _)); refine blk_far ?_ NB501_508.out _; (with_reducible repeat (first | refine blk_drewN ?_ _ | refine blk_drew ?_ | refine blk_alloc ?_ _)); exact BK501.out) hb); replace BK508 := Aside0.mk (blk_below (g := gb508) (o := .cells #[.int .i64 t505, .string t506] 53 (0, 0)) (by (with_reducible repeat (first | refine blk_drewN ?_ _ | refine blk_drew ?_ | refine blk_alloc ?_ _)); refine blk_put (cs := #[.int .i64 t505, .string (⟨#[]⟩ : ByteArray)]) ?_ 1 _ rfl; (with_reducible repeat (first | refine blk_drewN ?_ _ | refine blk_drew ?_ | refine blk_alloc ?_ _)); refine blk_put (cs := #[.int .i64 0, .string (⟨#[]⟩ : ByteArray)]) ?_ 0 _ rfl; (with_reducible repeat (first | refine blk_drewN ?_ _ | refine blk_drew ?_ | refine blk_alloc ?_ _)); exact BK508.out) hb); replace HB := Aside0.mk (below_step (by repeat (first | (with_reducible first | exact HB.out | apply below_alloc | apply pw_below_drewN | apply below_drew1 | refine below_set ?_ GE501.out | refine below_set ?_ GE508.out) | exact HB.out)) hb); (try clear hb)))
    go_meet
    case rel => exact ⟨_, (true), zF, H', ⟨by first | omega | exact Nat.le_refl _⟩, ⟨by (with_reducible repeat (first | apply Kd.R_alloc | apply Kd.R_drewN | apply Kd.R_drew)); exact Kd.R_mono HO504.out (fun _ hk => trivial)⟩, ⟨zK BK501.out⟩, ⟨zK BK508.out⟩, ⟨by repeat (first | (with_reducible first | exact HB.out | apply below_alloc | apply pw_below_drewN | apply below_drew1 | refine below_set ?_ GE501.out | refine below_set ?_ GE508.out) | exact HB.out)⟩⟩
  case rest =>
   clear HC8
   try clear c1
   try clear c2
   try clear p2
   try clear c3
   try clear c3b0
   try clear c4
   try clear c11
   try clear c18
   try clear c20
   try clear c21
   try clear c22
   try clear c26
   try clear hcz13_0
   try clear hcz13_1
   try clear hcz19_0
   try clear hcz19_1
   try clear hcz23_0
   try clear hcz23_1
   try clear hcz24_0
   try clear hcz24_1
   try clear hcz27_0
   try clear hcz27_1
   try clear hcz28_0
   try clear hcz28_1
   try clear hfz13_0
   try clear hfz13_1
   try clear hfz19_0
   try clear hfz19_1
   try clear hfz23_0
   try clear hfz23_1
   try clear hfz24_0
   try clear hfz24_1
   try clear hfz27_0
   try clear hfz27_1
   try clear hfz28_0
   try clear hfz28_1
   obtain ⟨kq, x35_7, rfl, HA, HJ7, HO_6, BK501, BK508, HB⟩ := hcut
   cases kq with
   | zero => exact absurd HA.out (by simp [laws_FnExactSignsOf.j0])
   | succ kj7 =>
    have H := HA.out
    clear HA
    simp only [laws_FnExactSignsOf.j0] at H
    by_cases c30 : x35_7 = true
    ·subst c30
     have H1 : (some false) = some r := by rw [if_pos rfl] at H; exact H
     clear H
     have H := H1
     clear H1
     obtain rfl := Option.some.inj H
     cases hr_
    ·replace c30 := Bool.eq_false_iff.mpr c30
     subst c30
     have H1 : ((laws_toPointS.f kj7 l0).bind fun t510 => ((laws_eqPointS.f kj7 t502 t510).bind fun t513 => (if t513 = true then (some true) else (some false)))) = some r := by rw [if_neg (show ¬ (false = true) by decide)] at H; exact H
     clear H
     have H := H1
     clear H1
     replace H := Option.bind_eq_some_iff.mp H
     obtain ⟨t510, A310, H⟩ := H
     replace H : ((laws_eqPointS.f kj7 t502 t510).bind fun t513 => (if t513 = true then (some true) else (some false))) = some r := H
     have A31 := Aside0.mk A310
     clear A310
     replace H := Option.bind_eq_some_iff.mp H
     obtain ⟨t513, A320, H⟩ := H
     replace H : (if t513 = true then (some true) else (some false)) = some r := H
     have A32 := Aside0.mk A320
     clear A320
     by_cases c33 : t513 = true
     ·subst c33
      have H1 : (some true) = some r := by rw [if_pos rfl] at H; exact H
      clear H
      have H := H1
      clear H1
      obtain rfl := Option.some.inj H
      go_wp2_with (first | ((with_reducible refine gate_callee (f := 20) rfl ?_); refine goesL_ (some 38) rfl rfl Try.func20 (by kernel_rfl) rfl #[.slice A0 l0.length c0] rfl zM ?_; (with_reducible refine (laws_toPointS.calls kj7 _ _ l0 t510 _ ?side1 ?side2 A31.out).mono ?_); (case side1 => repeat (first | exact (Kd.C_below HR0.out HB.out) | (with_reducible refine Kd.C_alloc ?_ _) | (with_reducible refine Kd.C_drewN ?_ _) | (with_reducible refine Kd.C_drew ?_))); (case side2 => exact HC0.out); rintro e w34 ⟨v511, rfl, ho0, hb⟩; refine ⟨_, rfl, ?_⟩; have n0_ := Aside0.mk (Kd.R_elder' (zR HO_6.out) (Kd.R_base ho0) hb); have n1_ := Aside0.mk (Kd.R_lower (Kd.R_new' ho0 (Kd.R_lt (zR HO_6.out))) (below_size (by repeat (first | (with_reducible first | exact HB.out | apply below_alloc | apply pw_below_drewN | apply below_drew1 | refine below_set ?_ GE501.out | refine below_set ?_ GE508.out) | exact HB.out)))); have n2_ := Aside0.mk (blk_below (g := gb501) (o := .cells #[.int .i64 t498, .string t499] 53 (0, 0)) (zK BK501.out) hb); have n3_ := Aside0.mk (blk_below (g := gb508) (o := .cells #[.int .i64 t505, .string t506] 53 (0, 0)) (zK BK508.out) hb); have n4_ := Aside0.mk (below_step (by repeat (first | (with_reducible first | exact HB.out | apply below_alloc | apply pw_below_drewN | apply below_drew1 | refine below_set ?_ GE501.out | refine below_set ?_ GE508.out) | exact HB.out)) hb); clear HO_6; clear BK501; clear BK508; clear HB; have HO_6 := n0_; have HO512 := n1_; have BK501 := n2_; have BK508 := n3_; have HB := n4_; clear n0_ n1_ n2_ n3_ n4_; (try clear hb); (try clear ho0); obtain ⟨Ao35, co35, eo35⟩ := Kd.R_slice HO512.out; subst eo35) | ((with_reducible refine gate_callee (f := 22) rfl ?_); refine goesL_ (some 39) rfl rfl Try.func22 (by kernel_rfl) rfl #[.slice Ao15 t502.length co15, .slice Ao35 t510.length co35] rfl zM ?_; (with_reducible refine (laws_eqPointS.calls kj7 _ _ t502 _ _ t510 true _ ?side1 ?side2 ?side3 ?side4 A32.out).mono ?_); (case side1 => repeat (first | exact (Kd.R_reads' HO_6.out).2.2 | (with_reducible refine Kd.C_alloc ?_ _) | (with_reducible refine Kd.C_drewN ?_ _) | (with_reducible refine Kd.C_drew ?_))); (case side2 => exact (Kd.R_reads' HO_6.out).2.1); (case side3 => repeat (first | exact (Kd.R_reads' HO512.out).2.2 | (with_reducible refine Kd.C_alloc ?_ _) | (with_reducible refine Kd.C_drewN ?_ _) | (with_reducible refine Kd.C_drew ?_))); (case side4 => exact (Kd.R_reads' HO512.out).2.1); rintro e w36 ⟨rfl, hb⟩; refine ⟨_, rfl, ?_⟩; replace HO_6 := Aside0.mk (Kd.R_below (zR HO_6.out) hb); replace HO512 := Aside0.mk (Kd.R_below (zR HO512.out) hb); replace BK501 := Aside0.mk (blk_below (g := gb501) (o := .cells #[.int .i64 t498, .string t499] 53 (0, 0)) (zK BK501.out) hb); replace BK508 := Aside0.mk (blk_below (g := gb508) (o := .cells #[.int .i64 t505, .string t506] 53 (0, 0)) (zK BK508.out) hb); replace HB := Aside0.mk (below_step (by repeat (first | (with_reducible first | exact HB.out | apply below_alloc | apply pw_below_drewN | apply below_drew1 | refine below_set ?_ GE501.out | refine below_set ?_ GE508.out) | exact HB.out)) hb); (try clear hb)))
      go_ret
      exact ⟨zE, by repeat (first | (with_reducible first | exact HB.out | apply below_alloc | apply pw_below_drewN | apply below_drew1 | refine below_set ?_ GE501.out | refine below_set ?_ GE508.out) | exact HB.out)⟩
     ·replace c33 := Bool.eq_false_iff.mpr c33
      subst c33
      have H1 : (some false) = some r := by rw [if_neg (show ¬ (false = true) by decide)] at H; exact H
      clear H
      have H := H1
      clear H1
      obtain rfl := Option.some.inj H
      cases hr_
end Go.Proofs.Ytikomhkkodhliaa.PX
namespace Go.Proofs.Ytikomhkkodhliaa.M
open Go.RowKit Go.Proofs.YtikomhkkodhliaaW.PrintWords Go.Proofs.Ytikomhkkodhliaa.PX Go.Proofs.Ytikomhkkodhliaa.G
def sgI (x : Int) : Int := if x > 0 then 43 else 45
theorem sgI_byte (x : Int) : UInt8.ofNat (sgI x).toNat = sgC x := by unfold sgI sgC; split <;> rfl
theorem signs_ev {n : Nat} (s : Nat → Int) (h0 : 3 ≤ n) (h1 : n ≤ 7) : Ev (fun k => impl_chi_signs.f k (tblS n s)) ((n : Int), txtS n s) := by
  unfold impl_chi_signs.f
  rw [tblS_n]
  refine Ev.bind (triples_ev h0 h1) ?_
  have hl := trip_len h0 h1
  have h := loop_up' (K := fun x _ => some ((n : Int), strOfNums x)) (L := fun i x k => impl_chi_signs.l0 k (tblS n s) x (tripN n) ((tripN n).length : Int) i) (lo := 0) (n := (tripN n).length)
    (fun i x => x.length = i) (fun x i => .ok (x ++ [sgI (s i)])) (fun x hx => ?_) (fun i _ hi x hx => ?_) (fun i _ hi x hx x' e => ?_) (by omega) [] rfl
  · rw [foldlM_ok, foldl_snoc, List.nil_append] at h
    refine ev_cast (h _ (Ev.now _)) ?_
    refine Prod.ext rfl ?_
    show strOfNums _ = txtS n s
    unfold strOfNums txtS mkB
    rw [List.map_map, Nat.sub_zero, ← List.range_eq_range']
    congr 2
    exact List.map_congr_left fun p _ => sgI_byte _
  · refine Goes.step ?_
    simp only [impl_chi_signs.l0]
    refine Goes.neg (by omega) ?_
    rw [tblS_n]
    exact Goes.ok (K := fun x _ => some ((n : Int), strOfNums x)) x
  · obtain ⟨a, b, c, e, hab, hbc, hc, hlk⟩ := trip_at h0 h1 hi
    refine Goes.step ?_
    simp only [impl_chi_signs.l0, rd_trip hi, e]
    refine Goes.pos (by omega) (Goes.pos (by omega) (Goes.pos (by omega) (Goes.pos (by omega) (Goes.pos (by omega) (Goes.pos (by omega) (Goes.pos (by omega) (Goes.pos (by omega) (Goes.pos (by omega) ?_))))))))
    rw [tblS_rd n s (by omega) (by omega) (by omega), chiS_at s hlk, wrap_id (by omega) (by omega)]
    by_cases g : sgv false (s i) > 0
    · refine Goes.pos g (Goes.pos (by omega) ?_)
      rw [show sgI (s i) = 43 from if_pos g]
      exact Goes.ok (K := fun x k => impl_chi_signs.l0 k (tblS n s) x (tripN n) ((tripN n).length : Int) ((i + 1 : Nat) : Int)) _
    · refine Goes.neg g (Goes.pos (by omega) ?_)
      rw [show sgI (s i) = 45 from if_neg g]
      exact Goes.ok (K := fun x k => impl_chi_signs.l0 k (tblS n s) x (tripN n) ((tripN n).length : Int) ((i + 1 : Nat) : Int)) _
  · cases e
    rw [List.length_append, hx]; rfl
end Go.Proofs.Ytikomhkkodhliaa.M
namespace Go.Proofs.Ytikomhkkodhliaa.M
open Go.RowKit Go.Proofs.YtikomhkkodhliaaW.PrintWords Go.Proofs.Ytikomhkkodhliaa.PX Go.Proofs.Ytikomhkkodhliaa.G
/-- The signs of points, by their threes. -/
def sgPts (l : List IP) (q : Nat) : Int := sgnI (areaP (pt l (tripAt l.length q).f0.toNat) (pt l (tripAt l.length q).f1.toNat) (pt l (tripAt l.length q).f2.toNat))
/-- What SignsOf answers. -/
def signsV (l : List IP) : Int × ByteArray × Bool := if arePts l = true then ((l.length : Int), txtS l.length (sgPts l), true) else (0, ⟨#[]⟩, false)
theorem sgPts_at {l : List IP} {q a b c : Nat} (hq : q < (tripN l.length).length) (e : (tripN l.length)[q] = ⟨(a : Int), (b : Int), (c : Int)⟩) : sgPts l q = sgnI (areaP (pt l a) (pt l b) (pt l c)) := by
  unfold sgPts
  rw [tripAt_eq hq, e]
  rfl
theorem sgnI_pm {x : Int} (h : x ≠ 0) : sgnI x = 1 ∨ sgnI x = -1 := by
  unfold sgnI
  split
  · exact Or.inr rfl
  · rw [if_pos (by omega)]; exact Or.inl rfl
theorem sgnI_pos (x : Int) : (sgnI x > 0) ↔ x > 0 := by
  unfold sgnI
  split
  · constructor <;> intro h <;> omega
  · split <;> constructor <;> intro h <;> omega
theorem spec_signsOf (l : List IP) (hl : l.length ≤ 10000000) : Ev (fun q => spec_SignsOf.f q l) (signsV l) := by
  unfold spec_SignsOf.f signsV
  refine Ev.bind (spec_arePts l hl) ?_
  by_cases ha : arePts l = true
  · rw [if_pos ha]
    refine ev_pos ha ?_
    obtain ⟨⟨h0, h1⟩, hn, _⟩ := arePts_iff.1 ha
    have hn' : l.all (nearP 50) = true := List.all_eq_true.2 hn
    have key := loops3B (σ := List UInt8) (ρ := Int × ByteArray × Bool) (n := l.length) h1 List.length 0 (L0 := fun x s q => spec_SignsOf.l0 q l x (l.length : Int) (mkB s))
      (L1 := fun x y s q => spec_SignsOf.l1 q l x y (l.length : Int) (mkB s)) (L2 := fun x y z s q => spec_SignsOf.l2 q l x y z (l.length : Int) (mkB s)) (K := fun s _ => some ((l.length : Int), mkB s, true))
      (fun s q => .ok (s ++ [sgC (areaP (pt l q.1) (pt l q.2.1) (pt l q.2.2))])) (fun s q s' e => by cases e; rw [List.length_append]; exact Nat.le_refl _)
      (fun s => ?_) (fun a ha s => ?_) (fun a ha s => ?_) (fun a b hab hb s => ?_) (fun a b hab hb s => ?_) (fun a b c hab hbc hc s hs => ?_) [] (Nat.le_refl _)
    · rw [foldlM_ok, foldl_snoc, List.nil_append] at key
      have et : mkB ((tripsL l.length).map fun q => sgC (areaP (pt l q.1) (pt l q.2.1) (pt l q.2.2))) = txtS l.length (sgPts l) := txtS_trips (fun q => sgC (areaP (pt l q.1) (pt l q.2.1) (pt l q.2.2))) h0 h1 fun p hp a b c e => by
        rw [sgPts_at hp e]
        unfold sgC
        simp only [sgnI_pos]
      rw [← et]
      exact key _ (Ev.now _)
    · refine Goes.step ?_
      simp only [spec_SignsOf.l0]
      exact Goes.neg (by omega) (Goes.ok (K := fun s (_ : Nat) => some ((l.length : Int), mkB s, true)) s)
    · refine Goes.step ?_
      simp only [spec_SignsOf.l0]
      rw [wrap_id (by omega) (by omega)]
      exact Goes.pos (by omega) (Goes.ok (K := fun s q => spec_SignsOf.l1 q l (a : Int) ((a + 1 : Nat) : Int) (l.length : Int) (mkB s)) s)
    · refine Goes.step ?_
      simp only [spec_SignsOf.l1]
      rw [wrap_id (x := (a : Int) + 1) (by omega) (by omega)]
      exact Goes.neg (by omega) (Goes.ok (K := fun s q => spec_SignsOf.l0 q l ((a + 1 : Nat) : Int) (l.length : Int) (mkB s)) s)
    · refine Goes.step ?_
      simp only [spec_SignsOf.l1]
      rw [wrap_id (x := (b : Int) + 1) (by omega) (by omega)]
      exact Goes.pos (by omega) (Goes.ok (K := fun s q => spec_SignsOf.l2 q l (a : Int) (b : Int) ((b + 1 : Nat) : Int) (l.length : Int) (mkB s)) s)
    · refine Goes.step ?_
      simp only [spec_SignsOf.l2]
      rw [wrap_id (x := (b : Int) + 1) (by omega) (by omega)]
      exact Goes.neg (by omega) (Goes.ok (K := fun s q => spec_SignsOf.l1 q l (a : Int) ((b + 1 : Nat) : Int) (l.length : Int) (mkB s)) s)
    · refine Goes.step ?_
      simp only [spec_SignsOf.l2]
      rw [wrap_id (x := (c : Int) + 1) (by omega) (by omega)]
      refine Goes.pos (by omega) (Goes.pos (by omega) (Goes.pos (by omega) (Goes.pos (by omega) (Goes.pos (by omega) (Goes.pos (by omega) (Goes.call (spec_area (a := pt l a) (b := pt l b) (c := pt l c) (pts_near3 hn' (by omega) (by omega) (by omega))) (Goes.call (byte_ev _) (Goes.pos ?_ ?_))))))))
      · rw [mkB_size, mkB_size]
        simp only [List.length_singleton]
        omega
      · rw [mkB_append]
        exact Goes.ok (K := fun s q => spec_SignsOf.l2 q l (a : Int) (b : Int) ((c + 1 : Nat) : Int) (l.length : Int) (mkB s)) _
  · rw [if_neg ha]
    exact ev_neg ha (Ev.now _)
theorem impl_signsOf (l : List IP) (hl : l.length ≤ 10000000) : Ev (fun q => impl_SignsOf.f q l) (signsV l) := by
  unfold impl_SignsOf.f signsV
  refine Ev.bind (impl_arePts l hl) ?_
  by_cases ha : arePts l = true
  · rw [if_pos ha]
    obtain ⟨⟨h0, h1⟩, hn, hz⟩ := arePts_iff.1 ha
    have hn' : l.all (nearP 50) = true := List.all_eq_true.2 hn
    have lT := trip_len h0 h1
    refine ev_pos ha (ev_call rfl ?_)
    rw [tblS_zero]
    refine ev_pos (tblS_length _ _) ?_
    rw [tblS_n]
    refine Ev.bind (triples_ev h0 h1) ?_
    have key := loop_up' (σ := Nat → Int) (ρ := Int × ByteArray × Bool) (lo := 0) (n := (tripN l.length).length) (K := fun _ _ => some ((l.length : Int), txtS l.length (sgPts l), true)) (L := fun i s q => impl_SignsOf.l0 q l (tblS l.length s) (tripN l.length) ((tripN l.length).length : Int) i)
      (fun i s => ∀ q, q < i → s q = sgPts l q) (fun s i => .ok (upd s i (sgPts l i))) (fun s hs => ?_) (fun i _ hi s hs => ?_) (fun i _ hi s hs s' e => ?_) (by omega) (fun _ => 0) (fun q hq => absurd hq (Nat.not_lt_zero _))
    · rw [foldlM_ok] at key
      exact key _ (Ev.now _)
    · refine Goes.step ?_
      simp only [impl_SignsOf.l0]
      refine Goes.neg (by omega) (Goes.pos (tblS_length _ _) (Goes.ev (signs_ev s h0 h1) ?_))
      rw [txtS_congr (s' := sgPts l) fun q hq => hs q hq]
      exact Goes.ok (K := fun (_ : Nat → Int) (_ : Nat) => some ((l.length : Int), txtS l.length (sgPts l), true)) s
    · obtain ⟨a, b, c, e, hab, hbc, hc, hlk⟩ := trip_at h0 h1 hi
      refine Goes.step ?_
      simp only [impl_SignsOf.l0, rd_trip hi, e]
      have ep := sgPts_at hi e
      have hne := hz a b c hab hbc hc
      have et : turnP (pt l a) (pt l b) (pt l c) = sgPts l i := by
        rw [ep]
        exact if_pos (pts_near3 hn' (by omega) (by omega) hc)
      refine Goes.pos (by omega) (Goes.pos (by omega) (Goes.pos (by omega) (Goes.pos (by omega) (Goes.pos (by omega) (Goes.pos (by omega) (Goes.pos (by omega) (Goes.pos (by omega) (Goes.pos (by omega) (Goes.call (impl_turn (pt l a) (pt l b) (pt l c)) (Goes.pos (tblS_length _ _) ?_))))))))))
      have es := set_some (tblS l.length s) a b c (sgPts l i) (tblS_length _ _) (by omega) (by omega) (by omega) (by rw [ep]; exact sgnI_pm hne)
      rw [et]
      refine Goes.call es ?_
      simp only [Int.toNat_natCast]
      rw [set_tblS s _ h0 h1 (by omega) (by omega) hc (by omega) (by omega) (by omega) hlk, wrap_id (by omega) (by omega)]
      exact Goes.ok (K := fun s q => impl_SignsOf.l0 q l (tblS l.length s) (tripN l.length) ((tripN l.length).length : Int) ((i + 1 : Nat) : Int)) _
    · cases e
      intro q hq
      by_cases eq : q = i
      · subst eq; exact upd_self _ _ _
      · rw [upd_ne _ _ eq]; exact hs q (by omega)
  · rw [if_neg ha]
    exact ev_neg ha (Ev.now _)
end Go.Proofs.Ytikomhkkodhliaa.M
namespace Go.Proofs.Ytikomhkkodhliaa.Pure
open Go.RowKit Go.Proofs.YtikomhkkodhliaaW.PrintWords Go.Proofs.Ytikomhkkodhliaa.PX Go.Proofs.Ytikomhkkodhliaa.M
theorem FnExactSignsOf (l : List S34) (hl : l.length ≤ 9223372036854775807) :
    ∃ k, laws_FnExactSignsOf.f k l = some true := by
  refine Ev.rounds (r := true) ?_
  unfold laws_FnExactSignsOf.f
  obtain ⟨r, hr⟩ := szPts l 1048576
  refine ev_call hr ?_
  by_cases h : r < 0
  · exact ev_pos h (Ev.now _)
  obtain ⟨l1, _, _⟩ := szPts_le l _ _ (by omega) (by omega) hl hr h
  have pa := toPts_ev l (by omega)
  have la : (l.map toPt).length ≤ 10000000 := by rw [List.length_map]; omega
  refine ev_neg h (Ev.bind pa (Ev.bind (spec_signsOf _ la) (Ev.bind pa (Ev.bind (impl_signsOf _ la) ?_))))
  obtain ⟨a, b, c⟩ := signsV (l.map toPt)
  have es : laws_eqSigns.f a b a b = some true := by
    unfold laws_eqSigns.f
    rw [if_pos rfl, if_pos rfl]
  refine ev_call es (ev_pos rfl (ev_step ?_))
  simp only [laws_FnExactSignsOf.j0]
  exact ev_neg (by simp) (Ev.bind pa (Ev.bind (eqPts_self _ la) (ev_pos rfl (Ev.now _))))
end Go.Proofs.Ytikomhkkodhliaa.Pure
namespace Go.Proofs.Ytikomhkkodhliaa.fnExactSignsOf
open Go.ChangeShapes Go.WideShapes Go.ChangeAt Go.RowKit Go.Joins
open Go.ChangeMaps (open_string shut_string)
set_option linter.unusedVariables false
theorem own : ownKnob Try.prog.godebug = none := by kernel_rfl
theorem str_mk {H : Type} {enc : TypeId × Value → H} {P : Program} {w : World} {base : Nat} {spare : Nat → Bool} {held : Bool} {t : TypeId} {s : ByteArray} (ht : P.underlying t = some .string) (hs : s.size ≤ maxLen) : DataW.trod enc P w base spare held 1 t [.string s] = some (.lit (.string s.data.toList), []) := by
  simp [DataW.trod, ht, hs]
open Go.Proofs.Ytikomhkkodhliaa
def numC : Option Value → Int
  | some (.int _ n) => n
  | _ => 0
theorem pts_row {w : World} {a : Addr} {len m : Nat} (hlm : len ≤ m) (hm : len ≤ 9223372036854775807) (h : ∀ i, i < m → ∃ x y : Int, w.cell? (a.add (i * 2)) = some (.int .i64 x) ∧ w.cell? (a.add (i * 2 + 1)) = some (.int .i64 y)) :
    ∃ l : List PX.S34, l.length = len ∧ Go.Proofs.YtikomhkkodhliaaW.PrintWords.Kd.C PX.k34 w (some a) len l := by
  refine ⟨(List.range len).map fun i => (⟨numC (w.cell? (a.add (i * 2))), numC (w.cell? (a.add (i * 2 + 1)))⟩ : PX.S34), by simp, by simp, hm, fun _ => ⟨a, rfl, fun j p hp => ?_⟩⟩
  rw [List.getElem?_map] at hp
  obtain ⟨i, hi, rfl⟩ := Option.map_eq_some_iff.1 hp
  obtain ⟨hjl, rfl⟩ := List.getElem?_eq_some_iff.1 hi
  rw [List.length_range] at hjl
  simp only [List.getElem_range]
  obtain ⟨x, y, g1, g2⟩ := h j (Nat.lt_of_lt_of_le hjl hlm)
  rw [g1, g2]
  refine ⟨_, rfl, PX.k34_mk w _, fun i u hu => ?_⟩
  match i with
  | 0 => cases hu; exact g1
  | 1 => cases hu; exact g2
  | (i + 2) => simp at hu
theorem laidOut : laidOutB Try.prog = true := by kernel_rfl
set_option maxRecDepth 100000 in
theorem lifted (os : Os) (started : os.Started) (H : Type) (enc : TypeId × Value → H) :
    ReturnsInHanded {} Try.checked os 11 .any (Rows.fnExactSignsOfSpec.pre6 enc Try.prog Try.f11 Rows.fnExactSignsOfRow.domain false) (Rows.fnExactSignsOfSpec.post enc Try.prog Try.f11 false true false false) := by
  refine returnsInHanded_of_change_sized (C := Try.checked) own started (by kernel_rfl) Try.func11
    (ChangeSpec.witness6 (enc := enc) (C := Try.checked) false ⟨#[], #[.slice none 0 0], []⟩ 8 (by kernel_rfl) (by kernel_rfl) (by kernel_rfl) (by kernel_rfl)) ?_
  intro W base args ds gs before hval0 hW hcnd hsz0 _
  have hsz : (DataW.weightsEach Try.prog (Try.f11.params.toList ++ Rows.fnExactSignsOfSpec.plain.varTypes Try.prog) (ds ++ gs)).all (· ≤ reachBytes) = true := hsz0
  have hval : ∀ (j : Nat) t v, Try.f11.params[j]? = some t → args[j]? = some v → Value.okWide Try.prog W .any base t v := hval0
  have hW' := hW
  obtain ⟨p, q, hA0, hV, rfl, hfz, hnd⟩ := hW
  have hA : DataW.TrodAll enc Try.prog W 0 (fun _ => true) true Try.f11.params.toList args.toList ds p := hA0
  rw [Try.params11] at hA hval hsz
  obtain ⟨v0, vs0, d0, ds0, p0, q0, hargs, rfl, rfl, h0, r0⟩ := trodAll_cons hA
  obtain ⟨rfl, rfl, rfl⟩ := trodAll_nil r0
  obtain rfl : args = #[v0] := by cases args; simp_all
  obtain ⟨rfl, rfl⟩ := trodVars_none hV
  obtain ⟨a0, len0, cap0, rfl⟩ := okWide_slice Try.underlying27 (hval 0 27 v0 rfl rfl)
  have k0 := h0
  have lt0 : ∀ x ∈ p0, x.block < W.heap.size := by obtain ⟨m, hm⟩ := k0; exact DataW.trod_lt m _ _ _ hm
  obtain ⟨l0, hn0, hr0, hc0, hb0⟩ : ∃ l : List PX.S34, l.length = len0 ∧ Go.Proofs.YtikomhkkodhliaaW.PrintWords.Kd.C PX.k34 W a0 len0 l ∧ len0 ≤ cap0 ∧ len0 ≤ maxLen := by
    obtain ⟨fuel, hf⟩ := h0
    rcases Go.Deep.open_slice_pairs Try.underlying27 Try.underlying34 (by kernel_rfl) rfl rfl (by kernel_rfl) (by kernel_rfl) hf with ⟨hcs, _⟩ | ⟨x, l, c, m, n, V0, V1, D0, D1, P0, P1, hcs, _, hl, hm, hmm, _, hx⟩
    · simp [Value.cells] at hcs
      obtain ⟨rfl, rfl, rfl⟩ := hcs
      exact ⟨[], rfl, ⟨rfl, Nat.zero_le _, fun h => absurd h (Nat.lt_irrefl _)⟩, Nat.le_refl _, Nat.zero_le _⟩
    · simp [Value.cells] at hcs
      obtain ⟨rfl, rfl, rfl⟩ := hcs
      have hlm : len0 ≤ m := by rw [hmm]; split <;> omega
      obtain ⟨pl, e1, e2⟩ := pts_row hlm (Nat.le_trans (Nat.le_trans hl hm) (by decide)) (fun j hj => by
        obtain ⟨g1, g2, g3, g4⟩ := hx j hj
        obtain ⟨b1, f1, _, _⟩ := DataW.trod_int Try.underlying3 g3
        obtain ⟨b2, f2, _, _⟩ := DataW.trod_int Try.underlying3 g4
        simp only [List.cons.injEq, and_true] at f1 f2
        rw [f1] at g1
        rw [f2] at g2
        exact ⟨b1, b2, g1, g2⟩)
      exact ⟨pl, e1, e2, hl, Nat.le_trans hl hm⟩
  subst hn0
  clear hA0 hval0 hsz0 hsz
  obtain ⟨k, hP⟩ := Pure.FnExactSignsOf l0 (Nat.le_trans hb0 (by decide))
  refine (PX.laws_FnExactSignsOf.calls k _ _ l0 true W hr0 hc0 hP rfl).mono fun e W' ⟨he, bel⟩ => ?_
  subst he
  exact ⟨_, rfl, _, _, _, [], _, [], hW', trodAll_mk1 (shut_bool Try.underlying4 _), (trodAll_cons_mk (Below.trod laidOut (by kernel_rfl) (of_decide_eq_true (by kernel_rfl)) k0 bel lt0) trodAll_mk0), rfl, bel.frame _, fun h => by cases h⟩
theorem over : Rows.fnExactSignsOfRow.holds Try.pinned (OpenSpec.ofChange Rows.fnExactSignsOfSpec) :=
  OpenClaim.holds_of_wide 11 Try.f11 rfl rfl rfl rfl rfl rfl rfl ⟨rfl, rfl, rfl, rfl, rfl⟩ rfl rfl rfl rfl rfl (by kernel_rfl) Try.func11 (by kernel_rfl)
    (of_decide_eq_true (by kernel_rfl)) (by unfold Func.isWrapper; first | (rw [if_pos (by decide +kernel)]; kernel_rfl) | (rw [if_neg (by decide +kernel)]; exact ⟨rfl, rfl⟩))
    (fun os started H enc _ => lifted os started H enc)
theorem proved : Rows.FnExactSignsOfSaid := over
#print axioms proved
end Go.Proofs.Ytikomhkkodhliaa.fnExactSignsOf
namespace Go.Proofs.Ytikomhkkodhliaa
/-- The row, under a short name, for the claim. -/
theorem fnExactSignsOf_holds : Rows.FnExactSignsOfSaid := fnExactSignsOf.proved
end Go.Proofs.Ytikomhkkodhliaa
