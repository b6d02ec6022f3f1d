/- A part of proofs about signs and points: what some functions answer, and that their calls answer so. No condition. -/
import Derived.Test.YtggbekkinkggfaaProg
import Derived.Test.YtggbekkinkggfaaV1
import Derived.Test.YtggbekkinkggfaaBmrvfln1
import Derived.Test.YtggbekkinkggfaaBtpiqhs1
import Derived.Test.YtggbekkinkggfaaBngmswq1
set_option linter.unusedVariables false
set_option linter.unusedSimpArgs false
namespace Go.Proofs.Ytggbekkinkggfaa.PX
open Go.RowKit Go.Proofs.Ytggbekkinkggfaa.G Go.Proofs.YtggbekkinkggfaaW.PrintWords Go.Proofs.YtggbekkinkggfaaW.PrintLast Go.Proofs.YtggbekkinkggfaaW.PrintMore
attribute [local go_sem] max2_int min2_int max_two min_two max_three min_three max_four min_four   -- for this text's walks alone
set_option linter.unusedVariables false
set_option linter.unusedSimpArgs false
/-! ### spec_l4Reverse: function 60 -/
mutual
def spec_l4Reverse.l0 : Nat → Int → Int → Int → ByteArray → Int → ByteArray → Option (Int × ByteArray)
 | 0, _, _, _, _, _, _ => none
 | k + 1, x1, x6, x239000, x239001, x241000, x241001 => if x6 < x239000 then (spec_l4Reverse.l1 k x1 x6 (wrap64 (x6 + 1)) x239000 x239001 x241000 x241001) else (some (x241000, x241001))
def spec_l4Reverse.l1 : Nat → Int → Int → Int → Int → ByteArray → Int → ByteArray → Option (Int × ByteArray)
 | 0, _, _, _, _, _, _, _ => none
 | k + 1, x1, x6, x7, x239000, x239001, x241000, x241001 => if x7 < x239000 then (spec_l4Reverse.l2 k x1 x6 x7 (wrap64 (x7 + 1)) x239000 x239001 x241000 x241001) else (spec_l4Reverse.l0 k x1 (wrap64 (x6 + 1)) x239000 x239001 x241000 x241001)
def spec_l4Reverse.l2 : Nat → Int → Int → Int → Int → Int → ByteArray → Int → ByteArray → Option (Int × ByteArray)
 | 0, _, _, _, _, _, _, _, _ => none
 | k + 1, x1, x6, x7, x8, x239000, x239001, x241000, x241001 => if x8 < x239000 then ((spec_l3At.f k x239000 x239001 x6 x7 x8).bind fun t241 => (if 0 ≤ (IntKind.u64.wrap (x6)) then (if 0 ≤ (IntKind.u64.wrap (x7)) then (if 0 ≤ (IntKind.u64.wrap (x8)) then (if (Go.bits .and .i64 (wrap64 ((wrap64 ((shr .i64 x1 (IntKind.u64.wrap (x6))) + (shr .i64 x1 (IntKind.u64.wrap (x7))))) + (shr .i64 x1 (IntKind.u64.wrap (x8))))) 1) = 1 then ((spec_l3Byte.f (wrap64 (-t241))).bind fun t242 => (if x241001.size + t242.size ≤ 9223372036854775807 then (spec_l4Reverse.l2 k x1 x6 x7 (wrap64 (x8 + 1)) x239000 x239001 x241000 (x241001 ++ t242)) else (none))) else ((spec_l3Byte.f t241).bind fun t243 => (if x241001.size + t243.size ≤ 9223372036854775807 then (spec_l4Reverse.l2 k x1 x6 x7 (wrap64 (x8 + 1)) x239000 x239001 x241000 (x241001 ++ t243)) else (none)))) else (none)) else (none)) else (none))) else (spec_l4Reverse.l1 k x1 x6 (wrap64 (x7 + 1)) x239000 x239001 x241000 x241001)
end
def spec_l4Reverse.f (k : Nat) (a0_0 : Int) (a0_1 : ByteArray) (a1 : Int) : Option (Int × ByteArray) := spec_l4Reverse.l0 k a1 0 a0_0 a0_1 a0_0 (⟨#[]⟩ : ByteArray)
theorem spec_l4Reverse.mono_l : ∀ k, (∀ y0 y1 y2 y3 y4 y5, LeO (spec_l4Reverse.l0 k y0 y1 y2 y3 y4 y5) (spec_l4Reverse.l0 (k + 1) y0 y1 y2 y3 y4 y5)) ∧ (∀ y0 y1 y2 y3 y4 y5 y6, LeO (spec_l4Reverse.l1 k y0 y1 y2 y3 y4 y5 y6) (spec_l4Reverse.l1 (k + 1) y0 y1 y2 y3 y4 y5 y6)) ∧ (∀ y0 y1 y2 y3 y4 y5 y6 y7, LeO (spec_l4Reverse.l2 k y0 y1 y2 y3 y4 y5 y6 y7) (spec_l4Reverse.l2 (k + 1) y0 y1 y2 y3 y4 y5 y6 y7))
 | 0 => ⟨fun _ _ _ _ _ _ r h => by simp [spec_l4Reverse.l0] at h, fun _ _ _ _ _ _ _ r h => by simp [spec_l4Reverse.l1] at h, fun _ _ _ _ _ _ _ _ r h => by simp [spec_l4Reverse.l2] at h⟩
 | k + 1 => by
  obtain ⟨ih0, ih1, ih2⟩ := spec_l4Reverse.mono_l k
  refine ⟨?_, ?_, ?_⟩
  ·intro y0 y1 y2 y3 y4 y5
   unfold spec_l4Reverse.l0
   repeat' first
   | (with_reducible exact ih0 _ _ _ _ _ _)
   | (with_reducible exact ih1 _ _ _ _ _ _ _)
   | (with_reducible exact ih2 _ _ _ _ _ _ _ _)
   | (with_reducible exact spec_l3At.mono _ _ _ _ _ _)
   | (with_reducible exact LeO.refl _)
   | (with_reducible exact LeO.none _)
   | (with_reducible refine LeO.ite ?_ ?_)
   | (with_reducible refine LeO.bind ?_ (fun _ => ?_))
   | exact ih0 _ _ _ _ _ _
   | exact ih1 _ _ _ _ _ _ _
   | exact ih2 _ _ _ _ _ _ _ _
   | exact spec_l3At.mono _ _ _ _ _ _
   | exact LeO.none _
   | refine LeO.ite ?_ ?_
   | refine LeO.bind ?_ (fun _ => ?_)
  ·intro y0 y1 y2 y3 y4 y5 y6
   unfold spec_l4Reverse.l1
   repeat' first
   | (with_reducible exact ih0 _ _ _ _ _ _)
   | (with_reducible exact ih1 _ _ _ _ _ _ _)
   | (with_reducible exact ih2 _ _ _ _ _ _ _ _)
   | (with_reducible exact spec_l3At.mono _ _ _ _ _ _)
   | (with_reducible exact LeO.refl _)
   | (with_reducible exact LeO.none _)
   | (with_reducible refine LeO.ite ?_ ?_)
   | (with_reducible refine LeO.bind ?_ (fun _ => ?_))
   | exact ih0 _ _ _ _ _ _
   | exact ih1 _ _ _ _ _ _ _
   | exact ih2 _ _ _ _ _ _ _ _
   | exact spec_l3At.mono _ _ _ _ _ _
   | exact LeO.none _
   | refine LeO.ite ?_ ?_
   | refine LeO.bind ?_ (fun _ => ?_)
  ·intro y0 y1 y2 y3 y4 y5 y6 y7
   unfold spec_l4Reverse.l2
   repeat' first
   | (with_reducible exact ih0 _ _ _ _ _ _)
   | (with_reducible exact ih1 _ _ _ _ _ _ _)
   | (with_reducible exact ih2 _ _ _ _ _ _ _ _)
   | (with_reducible exact spec_l3At.mono _ _ _ _ _ _)
   | (with_reducible exact LeO.refl _)
   | (with_reducible exact LeO.none _)
   | (with_reducible refine LeO.ite ?_ ?_)
   | (with_reducible refine LeO.bind ?_ (fun _ => ?_))
   | exact ih0 _ _ _ _ _ _
   | exact ih1 _ _ _ _ _ _ _
   | exact ih2 _ _ _ _ _ _ _ _
   | exact spec_l3At.mono _ _ _ _ _ _
   | exact LeO.none _
   | refine LeO.ite ?_ ?_
   | refine LeO.bind ?_ (fun _ => ?_)
theorem spec_l4Reverse.mono : ∀ a0 a1 a2 k, LeO (spec_l4Reverse.f k a0 a1 a2) (spec_l4Reverse.f (k + 1) a0 a1 a2) := by
 intro a0 a1 a2 k
 obtain ⟨ih0, ih1, ih2⟩ := spec_l4Reverse.mono_l k
 unfold spec_l4Reverse.f
 repeat' first
   | (with_reducible exact ih0 _ _ _ _ _ _)
   | (with_reducible exact ih1 _ _ _ _ _ _ _)
   | (with_reducible exact ih2 _ _ _ _ _ _ _ _)
   | (with_reducible exact spec_l3At.mono _ _ _ _ _ _)
   | (with_reducible exact LeO.refl _)
   | (with_reducible exact LeO.none _)
   | (with_reducible refine LeO.ite ?_ ?_)
   | (with_reducible refine LeO.bind ?_ (fun _ => ?_))
   | exact ih0 _ _ _ _ _ _
   | exact ih1 _ _ _ _ _ _ _
   | exact ih2 _ _ _ _ _ _ _ _
   | exact spec_l3At.mono _ _ _ _ _ _
   | exact LeO.none _
   | refine LeO.ite ?_ ?_
   | refine LeO.bind ?_ (fun _ => ?_)
set_option maxHeartbeats 8000000 in
set_option maxRecDepth 100000 in
theorem spec_l4Reverse.calls (k : Nat) (a0_0 : Int) (a0_1 : ByteArray) (a1 : Int) (r1 : Int) (r2 : ByteArray) (w : World) (h : spec_l4Reverse.f k a0_0 a0_1 a1 = some (r1, r2)) :
  Calls Try.prog 60 #[.agg #[.int .i64 a0_0, .string a0_1], .int .i64 a1] w fun e w' => e = .returned (.agg #[.int .i64 r1, .string r2]) ∧ Below w.heap.size w w' := by
 have hu26 := Try.underlying26
 have HB := Aside0.mk (Below.refl w.heap.size w)
 have H : (spec_l4Reverse.l0 k a1 0 a0_0 a0_1 a0_0 (⟨#[]⟩ : ByteArray)) = some (r1, r2) := h
 clear h
 have H' := Aside0.mk H
 clear H
 go_enter Try.func60, Try.ntmps60
 go_wp2_with (first | ((with_reducible refine gate_dst (N := 2) rfl ?_); refine box_event ?hg (N := 2) ?hd (cs := #[.int .i64 a0_0, .string a0_1]) (t := 26) ?hr ?_; (case hd => rfl); (case hg => rfl); (case hr => first | (go_simp; done) | (go_simp; rfl)); intro gb238 hg w3 hbox hb; have n0_ := Aside0.mk (below_step zB hb); have n1_ := Aside0.mk (hbox); have n2_ := Aside0.mk ((by rw [hg]; exact (below_size zB) : w.heap.size ≤ gb238)); have n3_ := Aside0.mk ((by rw [hg]; exact (below_size zB) : w.heap.size ≤ gb238)); clear HB; have HB := n0_; have BK238 := n1_; have GW238 := n2_; have GE238 := n3_; clear n0_ n1_ n2_ n3_; clear hb hbox hg) | ((with_reducible refine gate_dst (N := 4) rfl ?_); refine box_event ?hg (N := 4) ?hd (cs := #[.int .i64 0, .string (⟨#[]⟩ : ByteArray)]) (t := 26) ?hr ?_; (case hd => rfl); (case hg => rfl); (case hr => first | (go_simp; done) | (go_simp; rfl)); intro gb239 hg w4 hbox hb; have n0_ := Aside0.mk (blk_below (g := gb238) (o := .cells #[.int .i64 a0_0, .string a0_1] 26 (0, 0)) (zK BK238.out) hb); have n1_ := Aside0.mk (below_step (zG GE238.out) hb); have n2_ := Aside0.mk (hbox); have n3_ := Aside0.mk ((by rw [hg]; exact (below_size (zG GE238.out)) : w.heap.size ≤ gb239)); have n4_ := Aside0.mk ((by rw [hg]; exact (below_size (zG GE238.out)) : w.heap.size ≤ gb239)); have n5_ := Aside0.mk ((by rw [hg]; exact Nat.ne_of_lt (blk_lt (g := gb238) (o := .cells #[.int .i64 a0_0, .string a0_1] 26 (0, 0)) (zK BK238.out)) : gb238 ≠ gb239)); have n6_ := Aside0.mk ((by rw [hg]; exact Nat.ne_of_gt (blk_lt (g := gb238) (o := .cells #[.int .i64 a0_0, .string a0_1] 26 (0, 0)) (zK BK238.out)) : gb239 ≠ gb238)); clear BK238; clear HB; have BK238 := n0_; have HB := n1_; have BK239 := n2_; have GW239 := n3_; have GE239 := n4_; have NB238_239 := n5_; have NB239_238 := n6_; clear n0_ n1_ n2_ n3_ n4_ n5_ n6_; clear hb hbox hg; have hnb5 := NB238_239.out; have hnc5 := NB239_238.out; have hcz6_0 : w4.cell? ⟨gb238, 0, none⟩ = some (.int .i64 a0_0) := (blk_cell BK238.out 0).trans rfl; have hcz6_1 : w4.cell? ⟨gb238, 1, none⟩ = some (.string a0_1) := (blk_cell BK238.out 1).trans rfl; have hfz6_0 := blk_frozen BK238.out 0; have hfz6_1 := blk_frozen BK238.out 1) | ((with_reducible refine gate_dst (N := 5) rfl ?_); refine box_event ?hg (N := 5) ?hd (cs := #[.int .i64 0, .string (⟨#[]⟩ : ByteArray)]) (t := 26) ?hr ?_; (case hd => rfl); (case hg => rfl); (case hr => first | (go_simp; done) | (go_simp; rfl)); intro gb240 hg w7 hbox hb; have n0_ := Aside0.mk (blk_below (g := gb238) (o := .cells #[.int .i64 a0_0, .string a0_1] 26 (0, 0)) (zK BK238.out) hb); have n1_ := Aside0.mk (blk_below (g := gb239) (o := .cells #[.int .i64 0, .string (⟨#[]⟩ : ByteArray)] 26 (0, 0)) (zK BK239.out) hb); have n2_ := Aside0.mk (below_step (by repeat (first | (with_reducible first | exact HB.out | apply below_alloc | apply pw_below_drewN | apply below_drew1 | refine below_set ?_ GE238.out | refine below_set ?_ GE239.out) | exact HB.out)) hb); have n3_ := Aside0.mk (hbox); have n4_ := Aside0.mk ((by rw [hg]; exact (below_size (by repeat (first | (with_reducible first | exact HB.out | apply below_alloc | apply pw_below_drewN | apply below_drew1 | refine below_set ?_ GE238.out | refine below_set ?_ GE239.out) | exact HB.out))) : w.heap.size ≤ gb240)); have n5_ := Aside0.mk ((by rw [hg]; exact (below_size (by repeat (first | (with_reducible first | exact HB.out | apply below_alloc | apply pw_below_drewN | apply below_drew1 | refine below_set ?_ GE238.out | refine below_set ?_ GE239.out) | exact HB.out))) : w.heap.size ≤ gb240)); have n6_ := Aside0.mk ((by rw [hg]; exact Nat.ne_of_lt (blk_lt (g := gb238) (o := .cells #[.int .i64 a0_0, .string a0_1] 26 (0, 0)) (zK BK238.out)) : gb238 ≠ gb240)); have n7_ := Aside0.mk ((by rw [hg]; exact Nat.ne_of_gt (blk_lt (g := gb238) (o := .cells #[.int .i64 a0_0, .string a0_1] 26 (0, 0)) (zK BK238.out)) : gb240 ≠ gb238)); have n8_ := Aside0.mk ((by rw [hg]; exact Nat.ne_of_lt (blk_lt (g := gb239) (o := .cells #[.int .i64 0, .string (⟨#[]⟩ : ByteArray)] 26 (0, 0)) (zK BK239.out)) : gb239 ≠ gb240)); have n9_ := Aside0.mk ((by rw [hg]; exact Nat.ne_of_gt (blk_lt (g := gb239) (o := .cells #[.int .i64 0, .string (⟨#[]⟩ : ByteArray)] 26 (0, 0)) (zK BK239.out)) : gb240 ≠ gb239)); clear BK238; clear BK239; clear HB; have BK238 := n0_; have BK239 := n1_; have HB := n2_; have BK240 := n3_; have GW240 := n4_; have GE240 := n5_; have NB238_240 := n6_; have NB240_238 := n7_; have NB239_240 := n8_; have NB240_239 := n9_; clear n0_ n1_ n2_ n3_ n4_ n5_ n6_ n7_ n8_ n9_; clear hb hbox hg; have hnb8 := NB240_238.out; have hnc8 := NB238_240.out; have hnb9 := NB240_239.out; have hnc9 := NB239_240.out; have hcz10_0 : w7.cell? ⟨gb240, 0, none⟩ = some (.int .i64 0) := (blk_cell BK240.out 0).trans rfl; have hcz10_1 : w7.cell? ⟨gb240, 1, none⟩ = some (.string (⟨#[]⟩ : ByteArray)) := (blk_cell BK240.out 1).trans rfl; have hfz10_0 := blk_frozen BK240.out 0; have hfz10_1 := blk_frozen BK240.out 1))
 go_loopg [6] k (fun kq v6 w' => ∃ (x6_1 : Int) (x241001_1 : ByteArray), v6 = .int .i64 x6_1 ∧ Aside0 (spec_l4Reverse.l0 kq a1 x6_1 a0_0 a0_1 a0_0 x241001_1 = some (r1, r2)) ∧ Aside0 (kq ≤ k) ∧ Aside0 (w'.heap[gb238]? = some (.cells #[.int .i64 a0_0, .string a0_1] 26 (0, 0))) ∧ Aside0 (w'.heap[gb239]? = some (.cells #[.int .i64 0, .string (⟨#[]⟩ : ByteArray)] 26 (0, 0))) ∧ Aside0 (w'.heap[gb240]? = some (.cells #[.int .i64 a0_0, .string x241001_1] 26 (0, 0))) ∧ Aside0 (Below w.heap.size w w'))
 case atStart => exact ⟨(0), ((⟨#[]⟩ : ByteArray)), zF, H', ⟨Nat.le_refl _⟩, ⟨by (with_reducible repeat (first | refine blk_drewN ?_ _ | refine blk_drew ?_ | refine blk_alloc ?_ _)); refine blk_far ?_ NB238_240.out _; (with_reducible repeat (first | refine blk_drewN ?_ _ | refine blk_drew ?_ | refine blk_alloc ?_ _)); refine blk_far ?_ NB238_240.out _; (with_reducible repeat (first | refine blk_drewN ?_ _ | refine blk_drew ?_ | refine blk_alloc ?_ _)); exact BK238.out⟩, ⟨by (with_reducible repeat (first | refine blk_drewN ?_ _ | refine blk_drew ?_ | refine blk_alloc ?_ _)); refine blk_far ?_ NB239_240.out _; (with_reducible repeat (first | refine blk_drewN ?_ _ | refine blk_drew ?_ | refine blk_alloc ?_ _)); refine blk_far ?_ NB239_240.out _; (with_reducible repeat (first | refine blk_drewN ?_ _ | refine blk_drew ?_ | refine blk_alloc ?_ _)); exact BK239.out⟩, ⟨by (with_reducible repeat (first | refine blk_drewN ?_ _ | refine blk_drew ?_ | refine blk_alloc ?_ _)); refine blk_put (cs := #[.int .i64 a0_0, .string (⟨#[]⟩ : ByteArray)]) ?_ 1 _ rfl; (with_reducible repeat (first | refine blk_drewN ?_ _ | refine blk_drew ?_ | refine blk_alloc ?_ _)); refine blk_put (cs := #[.int .i64 0, .string (⟨#[]⟩ : ByteArray)]) ?_ 0 _ rfl; (with_reducible repeat (first | refine blk_drewN ?_ _ | refine blk_drew ?_ | refine blk_alloc ?_ _)); exact BK240.out⟩, ⟨by repeat (first | (with_reducible first | exact HB.out | apply below_alloc | apply pw_below_drewN | apply below_drew1 | refine below_set ?_ GE238.out | refine below_set ?_ GE239.out | refine below_set ?_ GE240.out) | exact HB.out)⟩⟩
 case round =>
  clear H'
  try clear p2
  try clear c5
  try clear c6
  try clear c8
  try clear c9
  try clear hcz10_0
  try clear hcz10_1
  try clear hcz6_0
  try clear hcz6_1
  try clear hfz10_0
  try clear hfz10_1
  try clear hfz6_0
  try clear hfz6_1
  obtain ⟨x6_1, x241001_1, rfl, HA, HK1, BK238, BK239, BK240, HB⟩ := hrel
  cases gk with
  | zero => exact absurd HA.out (by simp [spec_l4Reverse.l0])
  | succ k1 =>
   have H := HA.out
   clear HA
   simp only [spec_l4Reverse.l0] at H
   by_cases c11 : x6_1 < a0_0
   ·rw [if_pos c11] at H
    have c11b0 : decide (x6_1 < a0_0) = true := decide_eq_true c11
    clear c11
    have H' := Aside0.mk H
    clear H
    have hnb12 := NB238_239.out
    have hnc12 := NB239_238.out
    have hnb13 := NB238_240.out
    have hnc13 := NB240_238.out
    have hcz14_0 : wr.cell? ⟨gb238, 0, none⟩ = some (.int .i64 a0_0) := (blk_cell BK238.out 0).trans rfl
    have hcz14_1 : wr.cell? ⟨gb238, 1, none⟩ = some (.string a0_1) := (blk_cell BK238.out 1).trans rfl
    have hfz14_0 := blk_frozen BK238.out 0
    have hfz14_1 := blk_frozen BK238.out 1
    go_wp2
    go_loopg [7] k1 (fun kq v7 w' => ∃ (x7_2 : Int) (x241001_2 : ByteArray), v7 = .int .i64 x7_2 ∧ Aside0 (spec_l4Reverse.l1 kq a1 x6_1 x7_2 a0_0 a0_1 a0_0 x241001_2 = some (r1, r2)) ∧ Aside0 (kq ≤ k1) ∧ Aside0 (w'.heap[gb238]? = some (.cells #[.int .i64 a0_0, .string a0_1] 26 (0, 0))) ∧ Aside0 (w'.heap[gb239]? = some (.cells #[.int .i64 0, .string (⟨#[]⟩ : ByteArray)] 26 (0, 0))) ∧ Aside0 (w'.heap[gb240]? = some (.cells #[.int .i64 a0_0, .string x241001_2] 26 (0, 0))) ∧ Aside0 (Below w.heap.size w w'))
    case atStart => exact ⟨(wrap64 (x6_1 + 1)), (x241001_1), zF, H', ⟨Nat.le_refl _⟩, ⟨zK BK238.out⟩, ⟨zK BK239.out⟩, ⟨zK BK240.out⟩, ⟨by repeat (first | (with_reducible first | exact HB.out | apply below_alloc | apply pw_below_drewN | apply below_drew1 | refine below_set ?_ GE238.out | refine below_set ?_ GE239.out | refine below_set ?_ GE240.out) | exact HB.out)⟩⟩
    case round =>
     clear H'
     try clear c1
     try clear p2
     try clear c5
     try clear c6
     try clear p6
     try clear c8
     try clear c9
     try clear c11
     try clear c11b0
     try clear c12
     try clear c13
     try clear hcz10_0
     try clear hcz10_1
     try clear hcz14_0
     try clear hcz14_1
     try clear hcz6_0
     try clear hcz6_1
     try clear hfz10_0
     try clear hfz10_1
     try clear hfz14_0
     try clear hfz14_1
     try clear hfz6_0
     try clear hfz6_1
     try clear p2
     obtain ⟨x7_2, x241001_2, rfl, HA, HK2, BK238, BK239, BK240, HB⟩ := hrel
     cases gk with
     | zero => exact absurd HA.out (by simp [spec_l4Reverse.l1])
     | succ k2 =>
      have H := HA.out
      clear HA
      simp only [spec_l4Reverse.l1] at H
      by_cases c15 : x7_2 < a0_0
      ·rw [if_pos c15] at H
       have c15b0 : decide (x7_2 < a0_0) = true := decide_eq_true c15
       clear c15
       have H' := Aside0.mk H
       clear H
       have hnb16 := NB238_239.out
       have hnc16 := NB239_238.out
       have hnb17 := NB238_240.out
       have hnc17 := NB240_238.out
       have hcz18_0 : wr.cell? ⟨gb238, 0, none⟩ = some (.int .i64 a0_0) := (blk_cell BK238.out 0).trans rfl
       have hcz18_1 : wr.cell? ⟨gb238, 1, none⟩ = some (.string a0_1) := (blk_cell BK238.out 1).trans rfl
       have hfz18_0 := blk_frozen BK238.out 0
       have hfz18_1 := blk_frozen BK238.out 1
       go_wp2
       go_loopg [8] k2 (fun kq v8 w' => ∃ (x8_3 : Int) (x241001_3 : ByteArray), v8 = .int .i64 x8_3 ∧ Aside0 (spec_l4Reverse.l2 kq a1 x6_1 x7_2 x8_3 a0_0 a0_1 a0_0 x241001_3 = some (r1, r2)) ∧ Aside0 (kq ≤ k2) ∧ Aside0 (w'.heap[gb238]? = some (.cells #[.int .i64 a0_0, .string a0_1] 26 (0, 0))) ∧ Aside0 (w'.heap[gb239]? = some (.cells #[.int .i64 0, .string (⟨#[]⟩ : ByteArray)] 26 (0, 0))) ∧ Aside0 (w'.heap[gb240]? = some (.cells #[.int .i64 a0_0, .string x241001_3] 26 (0, 0))) ∧ Aside0 (Below w.heap.size w w'))
       case atStart => exact ⟨(wrap64 (x7_2 + 1)), (x241001_2), zF, H', ⟨Nat.le_refl _⟩, ⟨zK BK238.out⟩, ⟨zK BK239.out⟩, ⟨zK BK240.out⟩, ⟨by repeat (first | (with_reducible first | exact HB.out | apply below_alloc | apply pw_below_drewN | apply below_drew1 | refine below_set ?_ GE238.out | refine below_set ?_ GE239.out | refine below_set ?_ GE240.out) | exact HB.out)⟩⟩
       case round =>
        clear H'
        try clear c1
        try clear p2
        try clear c5
        try clear c6
        try clear p6
        try clear c8
        try clear c9
        try clear c11
        try clear c11b0
        try clear c12
        try clear c13
        try clear c15
        try clear c15b0
        try clear c16
        try clear c17
        try clear hcz10_0
        try clear hcz10_1
        try clear hcz14_0
        try clear hcz14_1
        try clear hcz18_0
        try clear hcz18_1
        try clear hcz6_0
        try clear hcz6_1
        try clear hfz10_0
        try clear hfz10_1
        try clear hfz14_0
        try clear hfz14_1
        try clear hfz18_0
        try clear hfz18_1
        try clear hfz6_0
        try clear hfz6_1
        try clear p2
        try clear p6
        obtain ⟨x8_3, x241001_3, rfl, HA, HK3, BK238, BK239, BK240, HB⟩ := hrel
        cases gk with
        | zero => exact absurd HA.out (by simp [spec_l4Reverse.l2])
        | succ k3 =>
         have H := HA.out
         clear HA
         simp only [spec_l4Reverse.l2] at H
         by_cases c19 : x8_3 < a0_0
         ·rw [if_pos c19] at H
          have c19b0 : decide (x8_3 < a0_0) = true := decide_eq_true c19
          clear c19
          replace H := Option.bind_eq_some_iff.mp H
          obtain ⟨t241, A200, H⟩ := H
          replace H : (if 0 ≤ (IntKind.u64.wrap (x6_1)) then (if 0 ≤ (IntKind.u64.wrap (x7_2)) then (if 0 ≤ (IntKind.u64.wrap (x8_3)) then (if (Go.bits .and .i64 (wrap64 ((wrap64 ((shr .i64 a1 (IntKind.u64.wrap (x6_1))) + (shr .i64 a1 (IntKind.u64.wrap (x7_2))))) + (shr .i64 a1 (IntKind.u64.wrap (x8_3))))) 1) = 1 then ((spec_l3Byte.f (wrap64 (-t241))).bind fun t242 => (if x241001_3.size + t242.size ≤ 9223372036854775807 then (spec_l4Reverse.l2 k3 a1 x6_1 x7_2 (wrap64 (x8_3 + 1)) a0_0 a0_1 a0_0 (x241001_3 ++ t242)) else (none))) else ((spec_l3Byte.f t241).bind fun t243 => (if x241001_3.size + t243.size ≤ 9223372036854775807 then (spec_l4Reverse.l2 k3 a1 x6_1 x7_2 (wrap64 (x8_3 + 1)) a0_0 a0_1 a0_0 (x241001_3 ++ t243)) else (none)))) else (none)) else (none)) else (none)) = some (r1, r2) := H
          have A20 := Aside0.mk A200
          clear A200
          obtain ⟨ji21, hji21⟩ : ∃ j_ : Int, (IntKind.u64.wrap (x6_1)) = j_ := ⟨_, rfl⟩
          replace H : (if 0 ≤ (ji21) then (if 0 ≤ (IntKind.u64.wrap (x7_2)) then (if 0 ≤ (IntKind.u64.wrap (x8_3)) then (if (Go.bits .and .i64 (wrap64 ((wrap64 ((shr .i64 a1 (ji21)) + (shr .i64 a1 (IntKind.u64.wrap (x7_2))))) + (shr .i64 a1 (IntKind.u64.wrap (x8_3))))) 1) = 1 then ((spec_l3Byte.f (wrap64 (-t241))).bind fun t242 => (if x241001_3.size + t242.size ≤ 9223372036854775807 then (spec_l4Reverse.l2 k3 a1 x6_1 x7_2 (wrap64 (x8_3 + 1)) a0_0 a0_1 a0_0 (x241001_3 ++ t242)) else (none))) else ((spec_l3Byte.f t241).bind fun t243 => (if x241001_3.size + t243.size ≤ 9223372036854775807 then (spec_l4Reverse.l2 k3 a1 x6_1 x7_2 (wrap64 (x8_3 + 1)) a0_0 a0_1 a0_0 (x241001_3 ++ t243)) else (none)))) else (none)) else (none)) else (none)) = some (r1, r2) := by first | (rw [hji21] at H; exact H) | (simp only [hji21] at H ⊢; exact H)
          (try rw [hji21] at A20)
          by_cases c22 : 0 ≤ (ji21)
          ·rw [if_pos c22] at H
           have c22b0 := eq_true c22
           have c22b1 : decide (0 ≤ (ji21)) = true := decide_eq_true c22
           clear c22
           obtain ⟨ji23, hji23⟩ : ∃ j_ : Int, (shr .i64 a1 (ji21)) = j_ := ⟨_, rfl⟩
           replace H : (if 0 ≤ (IntKind.u64.wrap (x7_2)) then (if 0 ≤ (IntKind.u64.wrap (x8_3)) then (if (Go.bits .and .i64 (wrap64 ((wrap64 ((ji23) + (shr .i64 a1 (IntKind.u64.wrap (x7_2))))) + (shr .i64 a1 (IntKind.u64.wrap (x8_3))))) 1) = 1 then ((spec_l3Byte.f (wrap64 (-t241))).bind fun t242 => (if x241001_3.size + t242.size ≤ 9223372036854775807 then (spec_l4Reverse.l2 k3 a1 x6_1 x7_2 (wrap64 (x8_3 + 1)) a0_0 a0_1 a0_0 (x241001_3 ++ t242)) else (none))) else ((spec_l3Byte.f t241).bind fun t243 => (if x241001_3.size + t243.size ≤ 9223372036854775807 then (spec_l4Reverse.l2 k3 a1 x6_1 x7_2 (wrap64 (x8_3 + 1)) a0_0 a0_1 a0_0 (x241001_3 ++ t243)) else (none)))) else (none)) else (none)) = some (r1, r2) := by first | (rw [hji23] at H; exact H) | (simp only [hji23] at H ⊢; exact H)
           (try rw [hji23] at A20)
           have hji23_ : (a1 / 2 ^ min (ji21).toNat 64) = ji23 := hji23
           have hji23z : (ji21) ≤ 64 → (a1 / 2 ^ (ji21).toNat) = ji23 := shr_small hji23
           obtain ⟨ji24, hji24⟩ : ∃ j_ : Int, (IntKind.u64.wrap (x7_2)) = j_ := ⟨_, rfl⟩
           replace H : (if 0 ≤ (ji24) then (if 0 ≤ (IntKind.u64.wrap (x8_3)) then (if (Go.bits .and .i64 (wrap64 ((wrap64 ((ji23) + (shr .i64 a1 (ji24)))) + (shr .i64 a1 (IntKind.u64.wrap (x8_3))))) 1) = 1 then ((spec_l3Byte.f (wrap64 (-t241))).bind fun t242 => (if x241001_3.size + t242.size ≤ 9223372036854775807 then (spec_l4Reverse.l2 k3 a1 x6_1 x7_2 (wrap64 (x8_3 + 1)) a0_0 a0_1 a0_0 (x241001_3 ++ t242)) else (none))) else ((spec_l3Byte.f t241).bind fun t243 => (if x241001_3.size + t243.size ≤ 9223372036854775807 then (spec_l4Reverse.l2 k3 a1 x6_1 x7_2 (wrap64 (x8_3 + 1)) a0_0 a0_1 a0_0 (x241001_3 ++ t243)) else (none)))) else (none)) else (none)) = some (r1, r2) := by first | (rw [hji24] at H; exact H) | (simp only [hji24] at H ⊢; exact H)
           (try rw [hji24] at A20)
           by_cases c25 : 0 ≤ (ji24)
           ·rw [if_pos c25] at H
            have c25b0 := eq_true c25
            have c25b1 : decide (0 ≤ (ji24)) = true := decide_eq_true c25
            clear c25
            obtain ⟨ji26, hji26⟩ : ∃ j_ : Int, (shr .i64 a1 (ji24)) = j_ := ⟨_, rfl⟩
            replace H : (if 0 ≤ (IntKind.u64.wrap (x8_3)) then (if (Go.bits .and .i64 (wrap64 ((wrap64 ((ji23) + (ji26))) + (shr .i64 a1 (IntKind.u64.wrap (x8_3))))) 1) = 1 then ((spec_l3Byte.f (wrap64 (-t241))).bind fun t242 => (if x241001_3.size + t242.size ≤ 9223372036854775807 then (spec_l4Reverse.l2 k3 a1 x6_1 x7_2 (wrap64 (x8_3 + 1)) a0_0 a0_1 a0_0 (x241001_3 ++ t242)) else (none))) else ((spec_l3Byte.f t241).bind fun t243 => (if x241001_3.size + t243.size ≤ 9223372036854775807 then (spec_l4Reverse.l2 k3 a1 x6_1 x7_2 (wrap64 (x8_3 + 1)) a0_0 a0_1 a0_0 (x241001_3 ++ t243)) else (none)))) else (none)) = some (r1, r2) := by first | (rw [hji26] at H; exact H) | (simp only [hji26] at H ⊢; exact H)
            (try rw [hji26] at A20)
            have hji26_ : (a1 / 2 ^ min (ji24).toNat 64) = ji26 := hji26
            have hji26z : (ji24) ≤ 64 → (a1 / 2 ^ (ji24).toNat) = ji26 := shr_small hji26
            obtain ⟨ji27, hji27⟩ : ∃ j_ : Int, (IntKind.u64.wrap (x8_3)) = j_ := ⟨_, rfl⟩
            replace H : (if 0 ≤ (ji27) then (if (Go.bits .and .i64 (wrap64 ((wrap64 ((ji23) + (ji26))) + (shr .i64 a1 (ji27)))) 1) = 1 then ((spec_l3Byte.f (wrap64 (-t241))).bind fun t242 => (if x241001_3.size + t242.size ≤ 9223372036854775807 then (spec_l4Reverse.l2 k3 a1 x6_1 x7_2 (wrap64 (x8_3 + 1)) a0_0 a0_1 a0_0 (x241001_3 ++ t242)) else (none))) else ((spec_l3Byte.f t241).bind fun t243 => (if x241001_3.size + t243.size ≤ 9223372036854775807 then (spec_l4Reverse.l2 k3 a1 x6_1 x7_2 (wrap64 (x8_3 + 1)) a0_0 a0_1 a0_0 (x241001_3 ++ t243)) else (none)))) else (none)) = some (r1, r2) := by first | (rw [hji27] at H; exact H) | (simp only [hji27] at H ⊢; exact H)
            (try rw [hji27] at A20)
            by_cases c28 : 0 ≤ (ji27)
            ·rw [if_pos c28] at H
             have c28b0 := eq_true c28
             have c28b1 : decide (0 ≤ (ji27)) = true := decide_eq_true c28
             clear c28
             obtain ⟨ji29, hji29⟩ : ∃ j_ : Int, (shr .i64 a1 (ji27)) = j_ := ⟨_, rfl⟩
             replace H : (if (Go.bits .and .i64 (wrap64 ((wrap64 ((ji23) + (ji26))) + (ji29))) 1) = 1 then ((spec_l3Byte.f (wrap64 (-t241))).bind fun t242 => (if x241001_3.size + t242.size ≤ 9223372036854775807 then (spec_l4Reverse.l2 k3 a1 x6_1 x7_2 (wrap64 (x8_3 + 1)) a0_0 a0_1 a0_0 (x241001_3 ++ t242)) else (none))) else ((spec_l3Byte.f t241).bind fun t243 => (if x241001_3.size + t243.size ≤ 9223372036854775807 then (spec_l4Reverse.l2 k3 a1 x6_1 x7_2 (wrap64 (x8_3 + 1)) a0_0 a0_1 a0_0 (x241001_3 ++ t243)) else (none)))) = some (r1, r2) := by first | (rw [hji29] at H; exact H) | (simp only [hji29] at H ⊢; exact H)
             (try rw [hji29] at A20)
             have hji29_ : (a1 / 2 ^ min (ji27).toNat 64) = ji29 := hji29
             have hji29z : (ji27) ≤ 64 → (a1 / 2 ^ (ji27).toNat) = ji29 := shr_small hji29
             by_cases c30 : (Go.bits .and .i64 (wrap64 ((wrap64 ((ji23) + (ji26))) + (ji29))) 1) = 1
             ·rw [if_pos c30] at H
              have c30b0 : ((Go.bits .and .i64 (wrap64 ((wrap64 ((ji23) + (ji26))) + (ji29))) 1) == 1) = true := beq_iff_eq.mpr c30
              have c30b1 : ((Go.bits .and .i64 (wrap64 ((wrap64 ((ji23) + (ji26))) + (ji29))) 1) != 1) = false := bne_eq_false_iff_eq.mpr c30
              clear c30
              replace H := Option.bind_eq_some_iff.mp H
              obtain ⟨t242, A310, H⟩ := H
              replace H : (if x241001_3.size + t242.size ≤ 9223372036854775807 then (spec_l4Reverse.l2 k3 a1 x6_1 x7_2 (wrap64 (x8_3 + 1)) a0_0 a0_1 a0_0 (x241001_3 ++ t242)) else (none)) = some (r1, r2) := H
              have A31 := Aside0.mk A310
              clear A310
              by_cases c32 : x241001_3.size + t242.size ≤ 9223372036854775807
              ·rw [if_pos c32] at H
               have c32b0 := eq_true c32
               have c32b1 : decide (x241001_3.size + t242.size ≤ 9223372036854775807) = true := decide_eq_true c32
               try have c32b2 : (9223372036854775807 < x241001_3.size + t242.size) = False := eq_false (Nat.not_lt.2 c32)
               have H' := Aside0.mk H
               clear H
               have hnb33 := NB238_239.out
               have hnc33 := NB239_238.out
               have hnb34 := NB238_240.out
               have hnc34 := NB240_238.out
               have hcz35_0 : wr.cell? ⟨gb238, 0, none⟩ = some (.int .i64 a0_0) := (blk_cell BK238.out 0).trans rfl
               have hcz35_1 : wr.cell? ⟨gb238, 1, none⟩ = some (.string a0_1) := (blk_cell BK238.out 1).trans rfl
               have hfz35_0 := blk_frozen BK238.out 0
               have hfz35_1 := blk_frozen BK238.out 1
               try go_wp2_with (first | ((with_reducible refine gate_callee (f := 53) rfl ?_); refine goesL_ (some 39) rfl rfl Try.func53 (by kernel_rfl) rfl #[.agg #[.int .i64 a0_0, .string a0_1], .int .i64 x6_1, .int .i64 x7_2, .int .i64 x8_3] rfl zM ?_; (with_reducible refine (spec_l3At.calls k3 a0_0 a0_1 x6_1 x7_2 x8_3 t241 _ A20.out).mono ?_); rintro e w36 ⟨rfl, hb⟩; refine ⟨_, rfl, ?_⟩; have n0_ := Aside0.mk (blk_below (g := gb238) (o := .cells #[.int .i64 a0_0, .string a0_1] 26 (0, 0)) (zK BK238.out) hb); have n1_ := Aside0.mk (blk_below (g := gb239) (o := .cells #[.int .i64 0, .string (⟨#[]⟩ : ByteArray)] 26 (0, 0)) (zK BK239.out) hb); have n2_ := Aside0.mk (blk_below (g := gb240) (o := .cells #[.int .i64 a0_0, .string x241001_3] 26 (0, 0)) (zK BK240.out) hb); have n3_ := Aside0.mk (below_step (by repeat (first | (with_reducible first | exact HB.out | apply below_alloc | apply pw_below_drewN | apply below_drew1 | refine below_set ?_ GE238.out | refine below_set ?_ GE239.out | refine below_set ?_ GE240.out) | exact HB.out)) hb); clear BK238; clear BK239; clear BK240; clear HB; have BK238 := n0_; have BK239 := n1_; have BK240 := n2_; have HB := n3_; clear n0_ n1_ n2_ n3_; (try clear hb); (try clear hb2); (try clear hk); (try clear hi)))
               have n0_ := Aside0.mk (blk_drew BK238.out)
               have n1_ := Aside0.mk (blk_drew BK239.out)
               have n2_ := Aside0.mk (blk_drew BK240.out)
               have n3_ := Aside0.mk (below_drew1 HB.out)
               clear BK238
               clear BK239
               clear BK240
               clear HB
               have BK238 := n0_
               have BK239 := n1_
               have BK240 := n2_
               have HB := n3_
               clear n0_ n1_ n2_ n3_
               refine start_ (n := 7) (S := fun w' => w'.cell? ⟨gb240, 0, none⟩ = some (.int .i64 a0_0) ∧ w'.cell? ⟨gb240, 1, none⟩ = some (.string x241001_3)) (ds := [6]) #[false, false, false, false, false, false, false] (by kernel_rfl) rfl rfl ⟨(blk_cell BK240.out 0).trans rfl, (blk_cell BK240.out 1).trans rfl⟩ (fun hHeld => ?_)
               generalize w36.drew = w37 at BK238 BK239 BK240 HB hHeld ⊢
               refine pure_ (i := 0) (N := some 58) (v := ?_) (a' := ?_) #[true, false, false, false, false, false, false] rfl rfl (by kernel_rfl) (fun _ _ _ h => h) (Or.inl ⟨by rfl, ?_⟩) ?_ ?_
               rotate_left
               ·intro w'
                go_simp
                with_reducible rfl
               rotate_left
               ·simp only [Act.put, List.setIfInBounds_toArray, List.set_cons_zero, List.set_cons_succ, i64_w, i32_w]
                rfl
               refine pure_ (i := 2) (N := some 60) (v := ?_) (a' := ?_) #[true, false, true, false, false, false, false] rfl rfl (by kernel_rfl) (fun _ _ _ h => h) (Or.inl ⟨by rfl, ?_⟩) ?_ ?_
               rotate_left
               ·intro w'
                go_simp
                with_reducible rfl
               rotate_left
               ·simp only [Act.put, List.setIfInBounds_toArray, List.set_cons_zero, List.set_cons_succ, i64_w, i32_w]
                rfl
               refine take_ (i := 1) (N := some 59) (v := ?_) (a' := ?_) #[true, true, true, false, false, false, false] rfl rfl (by kernel_rfl) (fun _ _ _ h => h) (Or.inl ⟨by rfl, ?_⟩) hHeld ?_ ?_
               rotate_left
               ·rintro w' ⟨s0, s1⟩
                go_simp
                with_reducible rfl
               rotate_left
               ·simp only [Act.put, List.setIfInBounds_toArray, List.set_cons_zero, List.set_cons_succ, i64_w, i32_w]
                rfl
               refine one_ (i := 3) (N := some 61) #[true, true, true, true, false, false, false] rfl rfl (by kernel_rfl) (by decide) (fun K hK => ?_)
               refine goes_ Try.func50 (by kernel_rfl) rfl #[.int .i64 (wrap64 (-t241))] (by rfl) rfl rfl zM ?_
               with_reducible refine (spec_l3Byte.calls (wrap64 (-t241)) t242 _ A31.out).mono ?_
               rintro e w' ⟨rfl, ⟨nd, rfl⟩⟩
               refine ⟨_, rfl, ?_⟩
               refine hK.out _ _ ⟨(blk_cell BK240.out 0).trans rfl, (blk_cell BK240.out 1).trans rfl⟩ (fun hHeld => ?_)
               clear hK K
               refine norm_ (a' := ?_) ?_ ?_
               rotate_left
               ·show Act.put _ (some 61) _ = _
                simp only [Act.put, List.setIfInBounds_toArray, List.set_cons_zero, List.set_cons_succ, i64_w, i32_w]
                rfl
               refine pure_ (i := 4) (N := some 62) (v := ?_) (a' := ?_) #[true, true, true, true, true, false, false] rfl rfl (by kernel_rfl) (fun _ _ _ h => h) (Or.inl ⟨by rfl, ?_⟩) ?_ ?_
               rotate_left
               ·intro w'
                go_simp
                with_reducible rfl
               rotate_left
               ·simp only [Act.put, List.setIfInBounds_toArray, List.set_cons_zero, List.set_cons_succ, i64_w, i32_w]
                rfl
               refine pure_ (i := 5) (N := some 63) (v := ?_) (a' := ?_) #[true, true, true, true, true, true, false] rfl rfl (by kernel_rfl) (fun _ _ _ h => h) (Or.inl ⟨by rfl, ?_⟩) ?_ ?_
               rotate_left
               ·intro w'
                go_simp
                with_reducible rfl
               rotate_left
               ·simp only [Act.put, List.setIfInBounds_toArray, List.set_cons_zero, List.set_cons_succ, i64_w, i32_w]
                rfl
               refine last_ (i := 6) (N := none) #[true, true, true, true, true, true, true] rfl rfl (by kernel_rfl) (by decide) (fun K hK => ?_)
               have hs38 : w37.cell? ⟨gb240, 1, none⟩ = some (.string x241001_3) := (blk_cell BK240.out 1).trans rfl
               have hfs38 := blk_frozen BK240.out 1
               have hns38_0 := NB238_240.out
               have hns38_1 := NB239_240.out
               have hms38_0 := NB240_238.out
               have hms38_1 := NB240_239.out
               refine skip_ (w1 := ?_) (by rfl) rfl ?_ ?_
               rotate_left
               ·go_simp
                rfl
               refine hK.out _ _ ?_
               clear hK K
               refine done_ (by kernel_rfl) ?_
               try go_wp2
               go_roundg k3
               case measure => have := HK1.out; have := HK2.out; have := HK3.out; omega
               case rel => exact ⟨(wrap64 (x8_3 + 1)), (x241001_3 ++ t242), zF, H', ⟨by have := HK1.out; have := HK2.out; have := HK3.out; omega⟩, ⟨by (with_reducible repeat (first | refine blk_drewN ?_ _ | refine blk_drew ?_ | refine blk_alloc ?_ _)); refine blk_far ?_ NB238_240.out _; (with_reducible repeat (first | refine blk_drewN ?_ _ | refine blk_drew ?_ | refine blk_alloc ?_ _)); exact BK238.out⟩, ⟨by (with_reducible repeat (first | refine blk_drewN ?_ _ | refine blk_drew ?_ | refine blk_alloc ?_ _)); refine blk_far ?_ NB239_240.out _; (with_reducible repeat (first | refine blk_drewN ?_ _ | refine blk_drew ?_ | refine blk_alloc ?_ _)); exact BK239.out⟩, ⟨by (with_reducible repeat (first | refine blk_drewN ?_ _ | refine blk_drew ?_ | refine blk_alloc ?_ _)); refine blk_put (cs := #[.int .i64 a0_0, .string x241001_3]) ?_ 1 _ rfl; (with_reducible repeat (first | refine blk_drewN ?_ _ | refine blk_drew ?_ | refine blk_alloc ?_ _)); exact BK240.out⟩, ⟨by repeat (first | (with_reducible first | exact HB.out | apply below_alloc | apply pw_below_drewN | apply below_drew1 | refine below_set ?_ GE238.out | refine below_set ?_ GE239.out | refine below_set ?_ GE240.out) | exact HB.out)⟩⟩
              ·rw [if_neg c32] at H
               exact absurd H (by simp)
             ·rw [if_neg c30] at H
              have c30b0 : ((Go.bits .and .i64 (wrap64 ((wrap64 ((ji23) + (ji26))) + (ji29))) 1) == 1) = false := beq_eq_false_iff_ne.mpr c30
              have c30b1 : ((Go.bits .and .i64 (wrap64 ((wrap64 ((ji23) + (ji26))) + (ji29))) 1) != 1) = true := bne_iff_ne.mpr c30
              replace H := Option.bind_eq_some_iff.mp H
              obtain ⟨t243, A390, H⟩ := H
              replace H : (if x241001_3.size + t243.size ≤ 9223372036854775807 then (spec_l4Reverse.l2 k3 a1 x6_1 x7_2 (wrap64 (x8_3 + 1)) a0_0 a0_1 a0_0 (x241001_3 ++ t243)) else (none)) = some (r1, r2) := H
              have A39 := Aside0.mk A390
              clear A390
              by_cases c40 : x241001_3.size + t243.size ≤ 9223372036854775807
              ·rw [if_pos c40] at H
               have c40b0 := eq_true c40
               have c40b1 : decide (x241001_3.size + t243.size ≤ 9223372036854775807) = true := decide_eq_true c40
               try have c40b2 : (9223372036854775807 < x241001_3.size + t243.size) = False := eq_false (Nat.not_lt.2 c40)
               have H' := Aside0.mk H
               clear H
               have hnb41 := NB238_239.out
               have hnc41 := NB239_238.out
               have hnb42 := NB238_240.out
               have hnc42 := NB240_238.out
               have hcz43_0 : wr.cell? ⟨gb238, 0, none⟩ = some (.int .i64 a0_0) := (blk_cell BK238.out 0).trans rfl
               have hcz43_1 : wr.cell? ⟨gb238, 1, none⟩ = some (.string a0_1) := (blk_cell BK238.out 1).trans rfl
               have hfz43_0 := blk_frozen BK238.out 0
               have hfz43_1 := blk_frozen BK238.out 1
               try go_wp2_with (first | ((with_reducible refine gate_callee (f := 53) rfl ?_); refine goesL_ (some 39) rfl rfl Try.func53 (by kernel_rfl) rfl #[.agg #[.int .i64 a0_0, .string a0_1], .int .i64 x6_1, .int .i64 x7_2, .int .i64 x8_3] rfl zM ?_; (with_reducible refine (spec_l3At.calls k3 a0_0 a0_1 x6_1 x7_2 x8_3 t241 _ A20.out).mono ?_); rintro e w44 ⟨rfl, hb⟩; refine ⟨_, rfl, ?_⟩; have n0_ := Aside0.mk (blk_below (g := gb238) (o := .cells #[.int .i64 a0_0, .string a0_1] 26 (0, 0)) (zK BK238.out) hb); have n1_ := Aside0.mk (blk_below (g := gb239) (o := .cells #[.int .i64 0, .string (⟨#[]⟩ : ByteArray)] 26 (0, 0)) (zK BK239.out) hb); have n2_ := Aside0.mk (blk_below (g := gb240) (o := .cells #[.int .i64 a0_0, .string x241001_3] 26 (0, 0)) (zK BK240.out) hb); have n3_ := Aside0.mk (below_step (by repeat (first | (with_reducible first | exact HB.out | apply below_alloc | apply pw_below_drewN | apply below_drew1 | refine below_set ?_ GE238.out | refine below_set ?_ GE239.out | refine below_set ?_ GE240.out) | exact HB.out)) hb); clear BK238; clear BK239; clear BK240; clear HB; have BK238 := n0_; have BK239 := n1_; have BK240 := n2_; have HB := n3_; clear n0_ n1_ n2_ n3_; (try clear hb); (try clear hb2); (try clear hk); (try clear hi)))
               have n0_ := Aside0.mk (blk_drew BK238.out)
               have n1_ := Aside0.mk (blk_drew BK239.out)
               have n2_ := Aside0.mk (blk_drew BK240.out)
               have n3_ := Aside0.mk (below_drew1 HB.out)
               clear BK238
               clear BK239
               clear BK240
               clear HB
               have BK238 := n0_
               have BK239 := n1_
               have BK240 := n2_
               have HB := n3_
               clear n0_ n1_ n2_ n3_
               refine start_ (n := 7) (S := fun w' => w'.cell? ⟨gb240, 0, none⟩ = some (.int .i64 a0_0) ∧ w'.cell? ⟨gb240, 1, none⟩ = some (.string x241001_3)) (ds := [6]) #[false, false, false, false, false, false, false] (by kernel_rfl) rfl rfl ⟨(blk_cell BK240.out 0).trans rfl, (blk_cell BK240.out 1).trans rfl⟩ (fun hHeld => ?_)
               generalize w44.drew = w45 at BK238 BK239 BK240 HB hHeld ⊢
               refine pure_ (i := 0) (N := some 58) (v := ?_) (a' := ?_) #[true, false, false, false, false, false, false] rfl rfl (by kernel_rfl) (fun _ _ _ h => h) (Or.inl ⟨by rfl, ?_⟩) ?_ ?_
               rotate_left
               ·intro w'
                go_simp
                with_reducible rfl
               rotate_left
               ·simp only [Act.put, List.setIfInBounds_toArray, List.set_cons_zero, List.set_cons_succ, i64_w, i32_w]
                rfl
               refine pure_ (i := 2) (N := some 60) (v := ?_) (a' := ?_) #[true, false, true, false, false, false, false] rfl rfl (by kernel_rfl) (fun _ _ _ h => h) (Or.inl ⟨by rfl, ?_⟩) ?_ ?_
               rotate_left
               ·intro w'
                go_simp
                with_reducible rfl
               rotate_left
               ·simp only [Act.put, List.setIfInBounds_toArray, List.set_cons_zero, List.set_cons_succ, i64_w, i32_w]
                rfl
               refine take_ (i := 1) (N := some 59) (v := ?_) (a' := ?_) #[true, true, true, false, false, false, false] rfl rfl (by kernel_rfl) (fun _ _ _ h => h) (Or.inl ⟨by rfl, ?_⟩) hHeld ?_ ?_
               rotate_left
               ·rintro w' ⟨s0, s1⟩
                go_simp
                with_reducible rfl
               rotate_left
               ·simp only [Act.put, List.setIfInBounds_toArray, List.set_cons_zero, List.set_cons_succ, i64_w, i32_w]
                rfl
               refine one_ (i := 3) (N := some 61) #[true, true, true, true, false, false, false] rfl rfl (by kernel_rfl) (by decide) (fun K hK => ?_)
               refine goes_ Try.func50 (by kernel_rfl) rfl #[.int .i64 t241] (by rfl) rfl rfl zM ?_
               with_reducible refine (spec_l3Byte.calls t241 t243 _ A39.out).mono ?_
               rintro e w' ⟨rfl, ⟨nd, rfl⟩⟩
               refine ⟨_, rfl, ?_⟩
               refine hK.out _ _ ⟨(blk_cell BK240.out 0).trans rfl, (blk_cell BK240.out 1).trans rfl⟩ (fun hHeld => ?_)
               clear hK K
               refine norm_ (a' := ?_) ?_ ?_
               rotate_left
               ·show Act.put _ (some 61) _ = _
                simp only [Act.put, List.setIfInBounds_toArray, List.set_cons_zero, List.set_cons_succ, i64_w, i32_w]
                rfl
               refine pure_ (i := 4) (N := some 62) (v := ?_) (a' := ?_) #[true, true, true, true, true, false, false] rfl rfl (by kernel_rfl) (fun _ _ _ h => h) (Or.inl ⟨by rfl, ?_⟩) ?_ ?_
               rotate_left
               ·intro w'
                go_simp
                with_reducible rfl
               rotate_left
               ·simp only [Act.put, List.setIfInBounds_toArray, List.set_cons_zero, List.set_cons_succ, i64_w, i32_w]
                rfl
               refine pure_ (i := 5) (N := some 63) (v := ?_) (a' := ?_) #[true, true, true, true, true, true, false] rfl rfl (by kernel_rfl) (fun _ _ _ h => h) (Or.inl ⟨by rfl, ?_⟩) ?_ ?_
               rotate_left
               ·intro w'
                go_simp
                with_reducible rfl
               rotate_left
               ·simp only [Act.put, List.setIfInBounds_toArray, List.set_cons_zero, List.set_cons_succ, i64_w, i32_w]
                rfl
               refine last_ (i := 6) (N := none) #[true, true, true, true, true, true, true] rfl rfl (by kernel_rfl) (by decide) (fun K hK => ?_)
               have hs46 : w45.cell? ⟨gb240, 1, none⟩ = some (.string x241001_3) := (blk_cell BK240.out 1).trans rfl
               have hfs46 := blk_frozen BK240.out 1
               have hns46_0 := NB238_240.out
               have hns46_1 := NB239_240.out
               have hms46_0 := NB240_238.out
               have hms46_1 := NB240_239.out
               refine skip_ (w1 := ?_) (by rfl) rfl ?_ ?_
               rotate_left
               ·go_simp
                rfl
               refine hK.out _ _ ?_
               clear hK K
               refine done_ (by kernel_rfl) ?_
               try go_wp2
               go_roundg k3
               case measure => have := HK1.out; have := HK2.out; have := HK3.out; omega
               case rel => exact ⟨(wrap64 (x8_3 + 1)), (x241001_3 ++ t243), zF, H', ⟨by have := HK1.out; have := HK2.out; have := HK3.out; omega⟩, ⟨by (with_reducible repeat (first | refine blk_drewN ?_ _ | refine blk_drew ?_ | refine blk_alloc ?_ _)); refine blk_far ?_ NB238_240.out _; (with_reducible repeat (first | refine blk_drewN ?_ _ | refine blk_drew ?_ | refine blk_alloc ?_ _)); exact BK238.out⟩, ⟨by (with_reducible repeat (first | refine blk_drewN ?_ _ | refine blk_drew ?_ | refine blk_alloc ?_ _)); refine blk_far ?_ NB239_240.out _; (with_reducible repeat (first | refine blk_drewN ?_ _ | refine blk_drew ?_ | refine blk_alloc ?_ _)); exact BK239.out⟩, ⟨by (with_reducible repeat (first | refine blk_drewN ?_ _ | refine blk_drew ?_ | refine blk_alloc ?_ _)); refine blk_put (cs := #[.int .i64 a0_0, .string x241001_3]) ?_ 1 _ rfl; (with_reducible repeat (first | refine blk_drewN ?_ _ | refine blk_drew ?_ | refine blk_alloc ?_ _)); exact BK240.out⟩, ⟨by repeat (first | (with_reducible first | exact HB.out | apply below_alloc | apply pw_below_drewN | apply below_drew1 | refine below_set ?_ GE238.out | refine below_set ?_ GE239.out | refine below_set ?_ GE240.out) | exact HB.out)⟩⟩
              ·rw [if_neg c40] at H
               exact absurd H (by simp)
            ·rw [if_neg c28] at H
             exact absurd H (by simp)
           ·rw [if_neg c25] at H
            exact absurd H (by simp)
          ·rw [if_neg c22] at H
           exact absurd H (by simp)
         ·rw [if_neg c19] at H
          have c19b0 : decide (x8_3 < a0_0) = false := decide_eq_false c19
          clear c19
          have H' := Aside0.mk H
          clear H
          have hnb47 := NB238_239.out
          have hnc47 := NB239_238.out
          have hnb48 := NB238_240.out
          have hnc48 := NB240_238.out
          have hcz49_0 : wr.cell? ⟨gb238, 0, none⟩ = some (.int .i64 a0_0) := (blk_cell BK238.out 0).trans rfl
          have hcz49_1 : wr.cell? ⟨gb238, 1, none⟩ = some (.string a0_1) := (blk_cell BK238.out 1).trans rfl
          have hfz49_0 := blk_frozen BK238.out 0
          have hfz49_1 := blk_frozen BK238.out 1
          go_wp2
          go_roundg k3
          case measure => have := HK1.out; have := HK2.out; have := HK3.out; omega
          case rel => exact ⟨(wrap64 (x7_2 + 1)), (x241001_3), zF, H', ⟨by have := HK1.out; have := HK2.out; have := HK3.out; omega⟩, ⟨zK BK238.out⟩, ⟨zK BK239.out⟩, ⟨zK BK240.out⟩, ⟨by repeat (first | (with_reducible first | exact HB.out | apply below_alloc | apply pw_below_drewN | apply below_drew1 | refine below_set ?_ GE238.out | refine below_set ?_ GE239.out | refine below_set ?_ GE240.out) | exact HB.out)⟩⟩
      ·rw [if_neg c15] at H
       have c15b0 : decide (x7_2 < a0_0) = false := decide_eq_false c15
       clear c15
       have H' := Aside0.mk H
       clear H
       have hnb50 := NB238_239.out
       have hnc50 := NB239_238.out
       have hnb51 := NB238_240.out
       have hnc51 := NB240_238.out
       have hcz52_0 : wr.cell? ⟨gb238, 0, none⟩ = some (.int .i64 a0_0) := (blk_cell BK238.out 0).trans rfl
       have hcz52_1 : wr.cell? ⟨gb238, 1, none⟩ = some (.string a0_1) := (blk_cell BK238.out 1).trans rfl
       have hfz52_0 := blk_frozen BK238.out 0
       have hfz52_1 := blk_frozen BK238.out 1
       go_wp2
       go_roundg k2
       case measure => have := HK1.out; have := HK2.out; omega
       case rel => exact ⟨(wrap64 (x6_1 + 1)), (x241001_2), zF, H', ⟨by have := HK1.out; have := HK2.out; omega⟩, ⟨zK BK238.out⟩, ⟨zK BK239.out⟩, ⟨zK BK240.out⟩, ⟨by repeat (first | (with_reducible first | exact HB.out | apply below_alloc | apply pw_below_drewN | apply below_drew1 | refine below_set ?_ GE238.out | refine below_set ?_ GE239.out | refine below_set ?_ GE240.out) | exact HB.out)⟩⟩
   ·rw [if_neg c11] at H
    have c11b0 : decide (x6_1 < a0_0) = false := decide_eq_false c11
    clear c11
    simp only [Option.some.injEq, Prod.mk.injEq] at H
    obtain ⟨rfl, rfl⟩ := H
    have hnb53 := NB238_239.out
    have hnc53 := NB239_238.out
    have hnb54 := NB238_240.out
    have hnc54 := NB240_238.out
    have hcz55_0 : wr.cell? ⟨gb238, 0, none⟩ = some (.int .i64 a0_0) := (blk_cell BK238.out 0).trans rfl
    have hcz55_1 : wr.cell? ⟨gb238, 1, none⟩ = some (.string a0_1) := (blk_cell BK238.out 1).trans rfl
    have hfz55_0 := blk_frozen BK238.out 0
    have hfz55_1 := blk_frozen BK238.out 1
    have hnb56 := NB240_239.out
    have hnc56 := NB239_240.out
    have hcz57_0 : wr.cell? ⟨gb240, 0, none⟩ = some (.int .i64 a0_0) := (blk_cell BK240.out 0).trans rfl
    have hcz57_1 : wr.cell? ⟨gb240, 1, none⟩ = some (.string x241001_1) := (blk_cell BK240.out 1).trans rfl
    have hfz57_0 := blk_frozen BK240.out 0
    have hfz57_1 := blk_frozen BK240.out 1
    have hcz58_0 : wr.cell? ⟨gb239, 0, none⟩ = some (.int .i64 0) := (blk_cell BK239.out 0).trans rfl
    have hcz58_1 : wr.cell? ⟨gb239, 1, none⟩ = some (.string (⟨#[]⟩ : ByteArray)) := (blk_cell BK239.out 1).trans rfl
    have hfz58_0 := blk_frozen BK239.out 0
    have hfz58_1 := blk_frozen BK239.out 1
    go_wp2
    refine bodyPost_ret (results_cell_row rfl _ _ gb239 26 #[.int .i64 a0_0, .string x241001_1] (0, 0) _ rfl (by (with_reducible repeat (first | refine blk_drewN ?_ _ | refine blk_drew ?_ | refine blk_alloc ?_ _)); refine blk_put (cs := #[.int .i64 a0_0, .string (⟨#[]⟩ : ByteArray)]) ?_ 1 _ rfl; (with_reducible repeat (first | refine blk_drewN ?_ _ | refine blk_drew ?_ | refine blk_alloc ?_ _)); refine blk_put (cs := #[.int .i64 0, .string (⟨#[]⟩ : ByteArray)]) ?_ 0 _ rfl; (with_reducible repeat (first | refine blk_drewN ?_ _ | refine blk_drew ?_ | refine blk_alloc ?_ _)); exact BK239.out) Try.underlying26 rfl (by kernel_rfl)) rfl ?_
    exact ⟨zE, by repeat (first | (with_reducible first | exact HB.out | apply below_alloc | apply pw_below_drewN | apply below_drew1 | refine below_set ?_ GE238.out | refine below_set ?_ GE239.out | refine below_set ?_ GE240.out) | exact HB.out)⟩
/-! ### impl_chi_reverse: function 61 -/
def impl_chi_reverse.l0 : Nat → List Int → Int → List (S62) → Int → Int → Option (List Int)
 | 0, _, _, _, _, _ => none
 | k + 1, x0, x1, x10, x11, x12 => if x12 < x11 then (if 0 ≤ x12 then (if x12 < (x10.length : Int) then (if ((rd_T62 x10 x12).f0) = x1 then (if x0.length = 344 then (if 0 ≤ ((rd_T62 x10 x12).f0) then (if ((rd_T62 x10 x12).f0) < 7 then (if 0 ≤ ((rd_T62 x10 x12).f1) then (if ((rd_T62 x10 x12).f1) < 7 then (if 0 ≤ ((rd_T62 x10 x12).f2) then (if ((rd_T62 x10 x12).f2) < 7 then ((impl_chi_set.f x0 ((rd_T62 x10 x12).f0) ((rd_T62 x10 x12).f1) ((rd_T62 x10 x12).f2) (wrap64 (-(rd3 x0 ((rd_T62 x10 x12).f0) ((rd_T62 x10 x12).f1) ((rd_T62 x10 x12).f2))))).bind fun t257 => (impl_chi_reverse.l0 k t257 x1 x10 x11 (wrap64 (x12 + 1)))) else (none)) else (none)) else (none)) else (none)) else (none)) else (none)) else (none)) else (if ((rd_T62 x10 x12).f1) = x1 then (if x0.length = 344 then (if 0 ≤ ((rd_T62 x10 x12).f0) then (if ((rd_T62 x10 x12).f0) < 7 then (if 0 ≤ ((rd_T62 x10 x12).f1) then (if ((rd_T62 x10 x12).f1) < 7 then (if 0 ≤ ((rd_T62 x10 x12).f2) then (if ((rd_T62 x10 x12).f2) < 7 then ((impl_chi_set.f x0 ((rd_T62 x10 x12).f0) ((rd_T62 x10 x12).f1) ((rd_T62 x10 x12).f2) (wrap64 (-(rd3 x0 ((rd_T62 x10 x12).f0) ((rd_T62 x10 x12).f1) ((rd_T62 x10 x12).f2))))).bind fun t259 => (impl_chi_reverse.l0 k t259 x1 x10 x11 (wrap64 (x12 + 1)))) else (none)) else (none)) else (none)) else (none)) else (none)) else (none)) else (none)) else (if ((rd_T62 x10 x12).f2) = x1 then (if x0.length = 344 then (if 0 ≤ ((rd_T62 x10 x12).f0) then (if ((rd_T62 x10 x12).f0) < 7 then (if 0 ≤ ((rd_T62 x10 x12).f1) then (if ((rd_T62 x10 x12).f1) < 7 then (if 0 ≤ ((rd_T62 x10 x12).f2) then (if ((rd_T62 x10 x12).f2) < 7 then ((impl_chi_set.f x0 ((rd_T62 x10 x12).f0) ((rd_T62 x10 x12).f1) ((rd_T62 x10 x12).f2) (wrap64 (-(rd3 x0 ((rd_T62 x10 x12).f0) ((rd_T62 x10 x12).f1) ((rd_T62 x10 x12).f2))))).bind fun t261 => (impl_chi_reverse.l0 k t261 x1 x10 x11 (wrap64 (x12 + 1)))) else (none)) else (none)) else (none)) else (none)) else (none)) else (none)) else (none)) else (impl_chi_reverse.l0 k x0 x1 x10 x11 (wrap64 (x12 + 1)))))) else (none)) else (none)) else (some x0)
def impl_chi_reverse.f (k : Nat) (l0 : List Int) (a1 : Int) : Option (List Int) := if l0.length = 344 then ((impl_triplesOf.f k (rd l0 0)).bind fun t251 => (impl_chi_reverse.l0 k l0 a1 t251 (t251.length : Int) 0)) else (none)
theorem impl_chi_reverse.mono_l : ∀ k, (∀ y0 y1 y2 y3 y4, LeO (impl_chi_reverse.l0 k y0 y1 y2 y3 y4) (impl_chi_reverse.l0 (k + 1) y0 y1 y2 y3 y4))
 | 0 => fun _ _ _ _ _ r h => by simp [impl_chi_reverse.l0] at h
 | k + 1 => by
  have ih0 := impl_chi_reverse.mono_l k
  ·intro y0 y1 y2 y3 y4
   unfold impl_chi_reverse.l0
   repeat' first
   | (with_reducible exact ih0 _ _ _ _ _)
   | (with_reducible exact impl_triplesOf.mono _ _)
   | (with_reducible exact LeO.refl _)
   | (with_reducible exact LeO.none _)
   | (with_reducible refine LeO.ite ?_ ?_)
   | (with_reducible refine LeO.bind ?_ (fun _ => ?_))
   | exact ih0 _ _ _ _ _
   | exact impl_triplesOf.mono _ _
   | exact LeO.none _
   | refine LeO.ite ?_ ?_
   | refine LeO.bind ?_ (fun _ => ?_)
theorem impl_chi_reverse.mono : ∀ a0 a1 k, LeO (impl_chi_reverse.f k a0 a1) (impl_chi_reverse.f (k + 1) a0 a1) := by
 intro a0 a1 k
 have ih0 := impl_chi_reverse.mono_l k
 unfold impl_chi_reverse.f
 repeat' first
   | (with_reducible exact ih0 _ _ _ _ _)
   | (with_reducible exact impl_triplesOf.mono _ _)
   | (with_reducible exact LeO.refl _)
   | (with_reducible exact LeO.none _)
   | (with_reducible refine LeO.ite ?_ ?_)
   | (with_reducible refine LeO.bind ?_ (fun _ => ?_))
   | exact ih0 _ _ _ _ _
   | exact impl_triplesOf.mono _ _
   | exact LeO.none _
   | refine LeO.ite ?_ ?_
   | refine LeO.bind ?_ (fun _ => ?_)
def impl_chi_reverse.T4 : Bool × List (List Nat × List Nat) := (true, [([], []), ([], []), ([1], [1]), ([], []), ([3], [3]), ([], []), ([5], [5]), ([], []), ([], []), ([8], [8]), ([], []), ([10], [10]), ([], []), ([12], [12]), ([7], [7]), ([14], [14]), ([15, 9], [9, 15]), ([16, 11], [11, 16]), ([17, 13], [13, 17]), ([18], [18]), ([19], [19]), ([0, 2, 4, 6, 20], [0, 2, 4, 6, 20])])
def impl_chi_reverse.B4 : List Nat := [0, 0, 2, 0, 8, 0, 32, 0, 0, 256, 0, 1024, 0, 4096, 128, 16512, 50048, 118656, 262016, 524160, 1048448, 2097151]
theorem impl_chi_reverse.tab4 : rtab .any (opsOf Try.f61 4) = impl_chi_reverse.T4 := by kernel_rfl
theorem impl_chi_reverse.bits4 : waitsOk impl_chi_reverse.T4.2 impl_chi_reverse.B4 = true := by kernel_rfl
set_option maxHeartbeats 8000000 in
set_option maxRecDepth 100000 in
theorem impl_chi_reverse.calls (k : Nat) (P0_ : Nat → Prop) (u9000_ : Value) (l0 : List Int) (a1 : Int) (r : List Int) (w0 w : World) (hB : Below w0.heap.size w0 w) (ho0 : Kd.R (Kd.int .i64) 54 w w0.heap.size P0_ u9000_ l0) (h : impl_chi_reverse.f k l0 a1 = some r) :
  Calls Try.prog 61 #[ptrOf u9000_, .int .i64 a1] w fun e w' => e = .returned (.tuple #[]) ∧ Kd.R (Kd.int .i64) 54 w' w0.heap.size (fun k_ => (P0_ k_ ∨ w.heap.size ≤ k_)) u9000_ r ∧ Below w0.heap.size w0 w' ∧ Kept w w' (fun k_ => P0_ k_) := by
 have hu62 := Try.underlying62
 have hu54 := Try.underlying54
 have hu52 := Try.underlying52
 have hu51 := Try.underlying51
 have hu50 := Try.underlying50
 have HO0 := Aside0.mk (show Kd.R (Kd.int .i64) 54 w w0.heap.size (fun k_ => (P0_ k_ ∨ w.heap.size ≤ k_)) u9000_ l0 from Kd.R_mono ho0 (fun k_ hk => (.inl hk)))
 have HK := Aside0.mk (Kept.refl w (fun k_ => P0_ k_))
 have HW0 := Aside0.mk hB.size
 have HB := Aside0.mk hB
 clear hB
 have H : (if l0.length = 344 then ((impl_triplesOf.f k (rd l0 0)).bind fun t251 => (impl_chi_reverse.l0 k l0 a1 t251 (t251.length : Int) 0)) else (none)) = some r := h
 clear h
 by_cases c3 : l0.length = 344
 ·rw [if_pos c3] at H
  have c3b0 := eq_true c3
  have c3b1 : decide (l0.length = 344) = true := decide_eq_true c3
  clear c3
  replace H := Option.bind_eq_some_iff.mp H
  obtain ⟨t251, A40, H⟩ := H
  replace H : (impl_chi_reverse.l0 k l0 a1 t251 (t251.length : Int) 0) = some r := H
  have A4 := Aside0.mk A40
  clear A40
  have H' := Aside0.mk H
  clear H
  obtain ⟨go5, co5, eo5, gb5, gl5, cl5, HG5⟩ := Kd.R_form HO0.out (by have hl_ := Nat.le_of_eq (Eq.symm (zA : l0.length = 344)); omega)
  (first | cases eo5 | (injection eo5 with ea_ en_ ec_; (first | subst ea_ | (injection ea_ with ea_; subst ea_)); subst ec_; clear en_))
  have GB5 := Aside0.mk gb5
  have GG5 := Aside0.mk HG5
  clear gb5 gl5 HG5
  have HMgo5 := Aside0.mk (show (P0_ go5 ∨ w.heap.size ≤ go5) from (HO0.out.1 _ rfl))
  have hL250 := (zA : l0.length = 344)
  have dq250 : decide (0 < (l0.length : Int)) = true := decide_eq_true (by omega)
  clear hL250
  have p250 : 0 ≤ (0 : Int) := (by omega)
  have q250 : 0 < (l0.length : Int) := zA
  obtain ⟨ad250, e250, hx250_0⟩ := Kd.at_int (Kd.R_reads' HO0.out).2.2 0 p250 q250
  obtain rfl : (⟨go5, 0, none⟩ : Addr) = ad250 := (by injection e250)
  (first | simp only [add_plain] at hx250_0 | simp only [add_at] at hx250_0 | simp only [Addr.add, Nat.zero_add] at hx250_0 | skip)
  have qi250 : (0 < l0.length) = True := eq_true (by omega)
  (try rw [show ((0 : Int)).toNat = 0 from rfl] at hx250_0)
  (try rw [Addr.add_zero'] at hx250_0)
  replace p250 := eq_true p250
  replace q250 := eq_true q250
  clear dq250
  go_enter Try.func61, Try.ntmps61
  go_wp2_with (first | ((with_reducible refine gate_callee (f := 59) rfl ?_); refine goesL_ (some 10) rfl rfl Try.func59 (by kernel_rfl) rfl #[.int .i64 (rd l0 0)] rfl zM ?_; (with_reducible refine (impl_triplesOf.calls k (rd l0 0) t251 _ A4.out).mono ?_); rintro e w6 ⟨v252, rfl, ho0, hb⟩; refine ⟨_, rfl, ?_⟩; have n0_ := Aside0.mk (Kd.R_below (zR HO0.out) hb); have n1_ := Aside0.mk (Kd.R_lower (Kd.R_newM (M := fun k_ => (P0_ k_ ∨ w.heap.size ≤ k_)) ho0 (by first | exact HK.out.1 | exact (show Kept w _ (fun k_ => P0_ k_) from by repeat (first | (with_reducible first | exact HK.out | apply Kept.alloc | apply Kept.drewN | apply Kept.drew) | exact HK.out)).1) (fun k_ h_ => .inr h_)) (below_size zB)); have n2_ := Aside0.mk (Kept.below (S := (fun k_ => P0_ k_)) (by repeat (first | (with_reducible first | exact HK.out | apply Kept.alloc | apply Kept.drewN | apply Kept.drew) | exact HK.out)) hb); have n3_ := Aside0.mk (below_step zB hb); clear HO0; clear HK; clear HB; have HO0 := n0_; have HO253 := n1_; have HK := n2_; have HB := n3_; clear n0_ n1_ n2_ n3_; (try clear hb); (try clear hb2); (try clear hk); (try clear hi); (try clear ho0); obtain ⟨Ao7, co7, eo7⟩ := Kd.R_slice HO253.out; subst eo7))
  go_loopg [12] k (fun kq v12 w' => ∃ (x0_1 : List Int) (x12_1 : Int), v12 = .int .i64 x12_1 ∧ Aside0 (impl_chi_reverse.l0 kq x0_1 a1 t251 (t251.length : Int) x12_1 = some r) ∧ Aside0 (kq ≤ k) ∧ Aside0 (Kd.R (Kd.int .i64) 54 w' w0.heap.size (fun k_ => (P0_ k_ ∨ w.heap.size ≤ k_)) (.slice (some ⟨go5, 0, none⟩) l0.length co5) x0_1) ∧ Aside0 (Kd.R k62 62 w' w0.heap.size (fun k_ => (P0_ k_ ∨ w.heap.size ≤ k_)) (.slice Ao7 t251.length co7) t251) ∧ Aside0 (Kept w w' (fun k_ => P0_ k_)) ∧ Aside0 (Below w0.heap.size w0 w'))
  case atStart => exact ⟨(l0), (0), zF, H', ⟨Nat.le_refl _⟩, ⟨zR HO0.out⟩, ⟨by (with_reducible repeat (first | apply Kd.R_alloc | apply Kd.R_drewN | apply Kd.R_drew)); exact Kd.R_mono HO253.out (fun _ hk => hk.1)⟩, ⟨by repeat (first | (with_reducible first | exact HK.out | apply Kept.alloc | apply Kept.drewN | apply Kept.drew) | exact HK.out)⟩, ⟨zB⟩⟩
  case round =>
   clear H'
   try clear p2
   try clear q2
   try clear hx2
   try clear qi2
   try clear c3
   try clear c3b0
   try clear c3b1
   try clear c5
   try clear c6
   try clear hx250_0
   try clear p250
   try clear q250
   obtain ⟨x0_1, x12_1, rfl, HA, HK1, HO_0, HO_10, HK, HB⟩ := hrel
   have hl0_1 := (Kd.R_reads' HO_0.out).1
   rw [hl0_1] at HO_0
   (try simp only [hl0_1])
   (try simp only [hl0_1] at HO_10)
   cases gk with
   | zero => exact absurd HA.out (by simp [impl_chi_reverse.l0])
   | succ k1 =>
    have H := HA.out
    clear HA
    simp only [impl_chi_reverse.l0] at H
    by_cases c8 : x12_1 < (t251.length : Int)
    ·rw [if_pos c8] at H
     have c8b0 : decide (x12_1 < (t251.length : Int)) = true := decide_eq_true c8
     clear c8
     by_cases c9 : 0 ≤ x12_1
     ·rw [if_pos c9] at H
      have c9b0 : decide (0 ≤ x12_1) = true := decide_eq_true c9
      clear c9
      by_cases c10 : x12_1 < (t251.length : Int)
      ·rw [if_pos c10] at H
       have c10b0 : decide (x12_1 < (t251.length : Int)) = true := decide_eq_true c10
       clear c10
       by_cases c11 : ((rd_T62 t251 x12_1).f0) = a1
       ·rw [if_pos c11] at H
        have c11b0 : (((rd_T62 t251 x12_1).f0) == a1) = true := beq_iff_eq.mpr c11
        have c11b1 : (((rd_T62 t251 x12_1).f0) != a1) = false := bne_eq_false_iff_eq.mpr c11
        clear c11
        by_cases c12 : x0_1.length = 344
        ·rw [if_pos c12] at H
         have c12b0 := eq_true c12
         have c12b1 : decide (x0_1.length = 344) = true := decide_eq_true c12
         clear c12
         by_cases c13 : 0 ≤ ((rd_T62 t251 x12_1).f0)
         ·rw [if_pos c13] at H
          have c13b0 : decide (0 ≤ ((rd_T62 t251 x12_1).f0)) = true := decide_eq_true c13
          clear c13
          by_cases c14 : ((rd_T62 t251 x12_1).f0) < 7
          ·rw [if_pos c14] at H
           have c14b0 : decide (((rd_T62 t251 x12_1).f0) < 7) = true := decide_eq_true c14
           clear c14
           by_cases c15 : 0 ≤ ((rd_T62 t251 x12_1).f1)
           ·rw [if_pos c15] at H
            have c15b0 : decide (0 ≤ ((rd_T62 t251 x12_1).f1)) = true := decide_eq_true c15
            clear c15
            by_cases c16 : ((rd_T62 t251 x12_1).f1) < 7
            ·rw [if_pos c16] at H
             have c16b0 : decide (((rd_T62 t251 x12_1).f1) < 7) = true := decide_eq_true c16
             clear c16
             by_cases c17 : 0 ≤ ((rd_T62 t251 x12_1).f2)
             ·rw [if_pos c17] at H
              have c17b0 : decide (0 ≤ ((rd_T62 t251 x12_1).f2)) = true := decide_eq_true c17
              clear c17
              by_cases c18 : ((rd_T62 t251 x12_1).f2) < 7
              ·rw [if_pos c18] at H
               have c18b0 : decide (((rd_T62 t251 x12_1).f2) < 7) = true := decide_eq_true c18
               clear c18
               replace H := Option.bind_eq_some_iff.mp H
               obtain ⟨t257, A190, H⟩ := H
               replace H : (impl_chi_reverse.l0 k1 t257 a1 t251 (t251.length : Int) (wrap64 (x12_1 + 1))) = some r := H
               have A19 := Aside0.mk A190
               clear A190
               have H' := Aside0.mk H
               clear H
               have p254 : 0 ≤ (x12_1 : Int) := zA
               have q254 : x12_1 < (t251.length : Int) := zA
               obtain ⟨ad254, e254, hx254_0, hx254_1, hx254_2⟩ := at_T62 (Kd.R_reads' HO_10.out).2.2 x12_1 p254 q254
               cases e254
               replace p254 := eq_true p254
               replace q254 := eq_true q254
               try go_wp2_with (first | ((with_reducible refine gate_dst (N := 5) rfl ?_); refine box_event ?hg (N := 5) ?hd (cs := #[.int .i64 0, .int .i64 0, .int .i64 0]) (t := 62) ?hr ?_; (case hd => rfl); (case hg => rfl); (case hr => first | (go_simp; done) | (go_simp; rfl)); intro gb255 hg w20 hbox hb; have n0_ := Aside0.mk (Kd.R_below (zR HO_0.out) hb); have n1_ := Aside0.mk (Kd.R_below (Kd.R_elderB (zR HO_10.out) gb255 (Nat.le_of_eq hg.symm)) hb); have n2_ := Aside0.mk (Kept.below (S := (fun k_ => P0_ k_)) (by repeat (first | (with_reducible first | exact HK.out | apply Kept.alloc | apply Kept.drewN | apply Kept.drew) | exact HK.out)) hb); have n3_ := Aside0.mk (below_step zB hb); have n4_ := Aside0.mk (hbox); have n5_ := Aside0.mk ((by rw [hg]; exact (by first | exact HK.out.1 | exact (show Kept w _ (fun k_ => P0_ k_) from by repeat (first | (with_reducible first | exact HK.out | apply Kept.alloc | apply Kept.drewN | apply Kept.drew) | exact HK.out)).1) : w.heap.size ≤ gb255)); have n6_ := Aside0.mk ((by rw [hg]; exact (below_size zB) : w0.heap.size ≤ gb255)); clear HO_0; clear HO_10; clear HK; clear HB; have HO_0 := n0_; have HO_10 := n1_; have HK := n2_; have HB := n3_; have BK255 := n4_; have GW255 := n5_; have GE255 := n6_; clear n0_ n1_ n2_ n3_ n4_ n5_ n6_; clear hb hbox hg; have hcz21_0 : w20.cell? ⟨gb255, 0, none⟩ = some (.int .i64 0) := (blk_cell BK255.out 0).trans rfl; have hcz21_1 : w20.cell? ⟨gb255, 1, none⟩ = some (.int .i64 0) := (blk_cell BK255.out 1).trans rfl; have hcz21_2 : w20.cell? ⟨gb255, 2, none⟩ = some (.int .i64 0) := (blk_cell BK255.out 2).trans rfl; have hfz21_0 := blk_frozen BK255.out 0; have hfz21_1 := blk_frozen BK255.out 1; have hfz21_2 := blk_frozen BK255.out 2))
               have n0_ : Aside0 (Kd.R (Kd.int .i64) 54 (((w20.setCell ⟨gb255, 0, none⟩ (.int .i64 ((rd_T62 t251 x12_1).f0))).setCell ⟨gb255, 1, none⟩ (.int .i64 ((rd_T62 t251 x12_1).f1))).setCell ⟨gb255, 2, none⟩ (.int .i64 ((rd_T62 t251 x12_1).f2))) w0.heap.size (fun k_ => (P0_ k_ ∨ w.heap.size ≤ k_)) (.slice (some ⟨go5, 0, none⟩) x0_1.length co5) x0_1) := ⟨by (with_reducible repeat (first | apply Kd.R_alloc | apply Kd.R_drewN | apply Kd.R_drew)); exact Kd.R_mono (Kd.R_far (p := ⟨gb255, 2, none⟩) (Kd.R_far (p := ⟨gb255, 1, none⟩) (Kd.R_far (p := ⟨gb255, 0, none⟩) (Kd.R_types HO_0.out BK255.out (by decide)) (fun _ hk => hk.2) (.int .i64 ((rd_T62 t251 x12_1).f0))) (fun _ hk => hk.2) (.int .i64 ((rd_T62 t251 x12_1).f1))) (fun _ hk => hk.2) (.int .i64 ((rd_T62 t251 x12_1).f2))) (fun _ hk => hk.1)⟩
               have n1_ : Aside0 (Kd.R k62 62 (((w20.setCell ⟨gb255, 0, none⟩ (.int .i64 ((rd_T62 t251 x12_1).f0))).setCell ⟨gb255, 1, none⟩ (.int .i64 ((rd_T62 t251 x12_1).f1))).setCell ⟨gb255, 2, none⟩ (.int .i64 ((rd_T62 t251 x12_1).f2))) w0.heap.size (fun k_ => (P0_ k_ ∨ w.heap.size ≤ k_) ∧ k_ ≠ gb255) (.slice (some ad254) t251.length co7) t251) := ⟨by (with_reducible repeat (first | apply Kd.R_alloc | apply Kd.R_drewN | apply Kd.R_drew)); exact Kd.R_mono (Kd.R_far (p := ⟨gb255, 2, none⟩) (Kd.R_far (p := ⟨gb255, 1, none⟩) (Kd.R_far (p := ⟨gb255, 0, none⟩) (Kd.R_mono HO_10.out (fun k_ hk => (⟨hk, hk.2⟩ : _ ∧ k_ ≠ gb255))) (fun _ hk => hk.2) (.int .i64 ((rd_T62 t251 x12_1).f0))) (fun _ hk => hk.2) (.int .i64 ((rd_T62 t251 x12_1).f1))) (fun _ hk => hk.2) (.int .i64 ((rd_T62 t251 x12_1).f2))) (fun _ hk => ⟨hk.1.1, hk.1.2⟩)⟩
               have n2_ : Aside0 ((((w20.setCell ⟨gb255, 0, none⟩ (.int .i64 ((rd_T62 t251 x12_1).f0))).setCell ⟨gb255, 1, none⟩ (.int .i64 ((rd_T62 t251 x12_1).f1))).setCell ⟨gb255, 2, none⟩ (.int .i64 ((rd_T62 t251 x12_1).f2))).heap[gb255]? = some (.cells #[.int .i64 ((rd_T62 t251 x12_1).f0), .int .i64 ((rd_T62 t251 x12_1).f1), .int .i64 ((rd_T62 t251 x12_1).f2)] 62 (0, 0))) := ⟨by (with_reducible repeat (first | refine blk_drewN ?_ _ | refine blk_drew ?_ | refine blk_alloc ?_ _)); refine blk_put (cs := #[.int .i64 ((rd_T62 t251 x12_1).f0), .int .i64 ((rd_T62 t251 x12_1).f1), .int .i64 0]) ?_ 2 _ rfl; (with_reducible repeat (first | refine blk_drewN ?_ _ | refine blk_drew ?_ | refine blk_alloc ?_ _)); refine blk_put (cs := #[.int .i64 ((rd_T62 t251 x12_1).f0), .int .i64 0, .int .i64 0]) ?_ 1 _ rfl; (with_reducible repeat (first | refine blk_drewN ?_ _ | refine blk_drew ?_ | refine blk_alloc ?_ _)); refine blk_put (cs := #[.int .i64 0, .int .i64 0, .int .i64 0]) ?_ 0 _ rfl; (with_reducible repeat (first | refine blk_drewN ?_ _ | refine blk_drew ?_ | refine blk_alloc ?_ _)); exact BK255.out⟩
               have n3_ : Aside0 (Kept w (((w20.setCell ⟨gb255, 0, none⟩ (.int .i64 ((rd_T62 t251 x12_1).f0))).setCell ⟨gb255, 1, none⟩ (.int .i64 ((rd_T62 t251 x12_1).f1))).setCell ⟨gb255, 2, none⟩ (.int .i64 ((rd_T62 t251 x12_1).f2))) (fun k_ => P0_ k_)) := ⟨by repeat (first | (with_reducible first | exact HK.out | apply Kept.alloc | apply Kept.drewN | apply Kept.drew | refine Kept.setCell ?_ (.inr GW255.out) _) | exact HK.out)⟩
               have n4_ : Aside0 (Below w0.heap.size w0 (((w20.setCell ⟨gb255, 0, none⟩ (.int .i64 ((rd_T62 t251 x12_1).f0))).setCell ⟨gb255, 1, none⟩ (.int .i64 ((rd_T62 t251 x12_1).f1))).setCell ⟨gb255, 2, none⟩ (.int .i64 ((rd_T62 t251 x12_1).f2)))) := ⟨zG GE255.out⟩
               (try clear HO_0)
               (try clear HO_10)
               (try clear BK255)
               (try clear HK)
               (try clear HB)
               generalize (((w20.setCell ⟨gb255, 0, none⟩ (.int .i64 ((rd_T62 t251 x12_1).f0))).setCell ⟨gb255, 1, none⟩ (.int .i64 ((rd_T62 t251 x12_1).f1))).setCell ⟨gb255, 2, none⟩ (.int .i64 ((rd_T62 t251 x12_1).f2))) = w22 at n0_ n1_ n2_ n3_ n4_ ⊢
               have HO_0 := n0_
               have HO_10 := n1_
               have BK255 := n2_
               have HK := n3_
               have HB := n4_
               clear n0_ n1_ n2_ n3_ n4_
               have n0_ := Aside0.mk (Kd.R_drew HO_0.out)
               have n1_ := Aside0.mk (Kd.R_drew HO_10.out)
               have n2_ := Aside0.mk (blk_drew BK255.out)
               have n3_ := Aside0.mk (Kept.drew HK.out)
               have n4_ := Aside0.mk (below_drew1 HB.out)
               clear HO_0
               clear HO_10
               clear BK255
               clear HK
               clear HB
               have HO_0 := n0_
               have HO_10 := n1_
               have BK255 := n2_
               have HK := n3_
               have HB := n4_
               clear n0_ n1_ n2_ n3_ n4_
               have pz256_0 : 0 ≤ (((rd_T62 t251 x12_1).f0) : Int) := zA
               have pz256_1 : 0 ≤ (((rd_T62 t251 x12_1).f1) : Int) := zA
               have pz256_2 : 0 ≤ (((rd_T62 t251 x12_1).f2) : Int) := zA
               have qz256_0 : (((rd_T62 t251 x12_1).f0) : Int) < 7 := zA
               have qz256_1 : (((rd_T62 t251 x12_1).f1) : Int) < 7 := zA
               have qz256_2 : (((rd_T62 t251 x12_1).f2) : Int) < 7 := zA
               have hL256 := (zA : x0_1.length = 344)
               have dp256 : decide (0 ≤ ((1 + ((rd_T62 t251 x12_1).f0) * 49 + ((rd_T62 t251 x12_1).f1) * 7 + ((rd_T62 t251 x12_1).f2)) : Int)) = true := decide_eq_true (by omega)
               have dq256 : decide ((1 + ((rd_T62 t251 x12_1).f0) * 49 + ((rd_T62 t251 x12_1).f1) * 7 + ((rd_T62 t251 x12_1).f2)) < (x0_1.length : Int)) = true := decide_eq_true (by omega)
               clear hL256
               have p256 : 0 ≤ ((1 + ((rd_T62 t251 x12_1).f0) * 49 + ((rd_T62 t251 x12_1).f1) * 7 + ((rd_T62 t251 x12_1).f2)) : Int) := zA
               have q256 : (1 + ((rd_T62 t251 x12_1).f0) * 49 + ((rd_T62 t251 x12_1).f1) * 7 + ((rd_T62 t251 x12_1).f2)) < (x0_1.length : Int) := zA
               obtain ⟨ad256, e256, hx256_0⟩ := Kd.at_int (Kd.R_reads' HO_0.out).2.2 (1 + ((rd_T62 t251 x12_1).f0) * 49 + ((rd_T62 t251 x12_1).f1) * 7 + ((rd_T62 t251 x12_1).f2)) p256 q256
               obtain rfl : (⟨go5, 0, none⟩ : Addr) = ad256 := (by injection e256)
               (first | simp only [add_plain] at hx256_0 | simp only [add_at] at hx256_0 | simp only [Addr.add, Nat.zero_add] at hx256_0 | skip)
               replace p256 := eq_true p256
               replace q256 := eq_true q256
               have hw256_0 := hx256_0
               clear dp256 dq256
               clear p256 q256
               rw [show ((1 + ((rd_T62 t251 x12_1).f0) * 49 + ((rd_T62 t251 x12_1).f1) * 7 + ((rd_T62 t251 x12_1).f2)) : Int).toNat = 1 + (((rd_T62 t251 x12_1).f0)).toNat * 49 + (((rd_T62 t251 x12_1).f1)).toNat * 7 + (((rd_T62 t251 x12_1).f2)).toNat from by omega] at hx256_0
               change _ = some (Value.int .i64 (rd3 x0_1 ((rd_T62 t251 x12_1).f0) ((rd_T62 t251 x12_1).f1) ((rd_T62 t251 x12_1).f2))) at hx256_0
               rw [show ((1 + ((rd_T62 t251 x12_1).f0) * 49 + ((rd_T62 t251 x12_1).f1) * 7 + ((rd_T62 t251 x12_1).f2)) : Int).toNat = 1 + (((rd_T62 t251 x12_1).f0)).toNat * 49 + (((rd_T62 t251 x12_1).f1)).toNat * 7 + (((rd_T62 t251 x12_1).f2)).toNat from by omega] at hw256_0
               change _ = some (Value.int .i64 (rd3 x0_1 ((rd_T62 t251 x12_1).f0) ((rd_T62 t251 x12_1).f1) ((rd_T62 t251 x12_1).f2))) at hw256_0
               replace pz256_0 := eq_true pz256_0
               replace pz256_1 := eq_true pz256_1
               replace pz256_2 := eq_true pz256_2
               replace qz256_0 := eq_true qz256_0
               replace qz256_1 := eq_true qz256_1
               replace qz256_2 := eq_true qz256_2
               refine start_ (n := 22) (S := fun w' => w'.cell? ⟨gb255, 0, none⟩ = some (.int .i64 ((rd_T62 t251 x12_1).f0)) ∧ w'.cell? ⟨gb255, 1, none⟩ = some (.int .i64 ((rd_T62 t251 x12_1).f1)) ∧ w'.cell? ⟨gb255, 2, none⟩ = some (.int .i64 ((rd_T62 t251 x12_1).f2)) ∧ w'.cell? ⟨go5, 1 + (((rd_T62 t251 x12_1).f0)).toNat * 49 + (((rd_T62 t251 x12_1).f1)).toNat * 7 + (((rd_T62 t251 x12_1).f2)).toNat, none⟩ = some (.int .i64 (rd3 x0_1 ((rd_T62 t251 x12_1).f0) ((rd_T62 t251 x12_1).f1) ((rd_T62 t251 x12_1).f2)))) (ds := [21]) #[false, false, false, false, false, false, false, false, false, false, false, false, false, false, false, false, false, false, false, false, false, false] (by kernel_rfl) rfl rfl ⟨(blk_cell BK255.out 0).trans rfl, (blk_cell BK255.out 1).trans rfl, (blk_cell BK255.out 2).trans rfl, hx256_0⟩ (fun hHeld => ?_); refine with_tabW impl_chi_reverse.tab4 impl_chi_reverse.bits4 (fun HT_ HW_ => ?_)
               generalize w22.drew = w23 at HO_0 HO_10 BK255 HK HB hx256_0 hHeld ⊢
               refine pure_ (i := 0) (N := some 32) (v := ?_) (a' := ?_) #[true, false, false, false, false, false, false, false, false, false, false, false, false, false, false, false, false, false, false, false, false, false] rfl rfl (any_of HT_.out (by kernel_rfl)) (fun _ _ _ h => h) (Or.inl ⟨by rfl, ?_⟩) ?_ ?_
               rotate_left
               ·intro w'
                go_simp
                with_reducible rfl
               rotate_left
               ·simp only [Act.put, List.setIfInBounds_toArray, List.set_cons_zero, List.set_cons_succ, i64_w, i32_w]
                rfl
               refine pure_ (i := 1) (N := some 33) (v := ?_) (a' := ?_) #[true, true, false, false, false, false, false, false, false, false, false, false, false, false, false, false, false, false, false, false, false, false] rfl rfl (any_of HT_.out (by kernel_rfl)) (fun _ _ _ h => h) (Or.inl ⟨by rfl, ?_⟩) ?_ ?_
               rotate_left
               ·intro w'
                go_simp
                with_reducible rfl
               rotate_left
               ·simp only [Act.put, List.setIfInBounds_toArray, List.set_cons_zero, List.set_cons_succ, i64_w, i32_w]
                rfl
               refine pure_ (i := 3) (N := some 35) (v := ?_) (a' := ?_) #[true, true, false, true, false, false, false, false, false, false, false, false, false, false, false, false, false, false, false, false, false, false] rfl rfl (any_of HT_.out (by kernel_rfl)) (fun _ _ _ h => h) (Or.inl ⟨by rfl, ?_⟩) ?_ ?_
               rotate_left
               ·intro w'
                go_simp
                with_reducible rfl
               rotate_left
               ·simp only [Act.put, List.setIfInBounds_toArray, List.set_cons_zero, List.set_cons_succ, i64_w, i32_w]
                rfl
               refine pure_ (i := 5) (N := some 37) (v := ?_) (a' := ?_) #[true, true, false, true, false, true, false, false, false, false, false, false, false, false, false, false, false, false, false, false, false, false] rfl rfl (any_of HT_.out (by kernel_rfl)) (fun _ _ _ h => h) (Or.inl ⟨by rfl, ?_⟩) ?_ ?_
               rotate_left
               ·intro w'
                go_simp
                with_reducible rfl
               rotate_left
               ·simp only [Act.put, List.setIfInBounds_toArray, List.set_cons_zero, List.set_cons_succ, i64_w, i32_w]
                rfl
               refine pure_ (i := 7) (N := some 39) (v := ?_) (a' := ?_) #[true, true, false, true, false, true, false, true, false, false, false, false, false, false, false, false, false, false, false, false, false, false] rfl rfl (any_of HT_.out (by kernel_rfl)) (fun _ _ _ h => h) (Or.inl ⟨by rfl, ?_⟩) ?_ ?_
               rotate_left
               ·intro w'
                go_simp
                with_reducible rfl
               rotate_left
               ·simp only [Act.put, List.setIfInBounds_toArray, List.set_cons_zero, List.set_cons_succ, i64_w, i32_w]
                rfl
               refine pure_ (i := 8) (N := some 40) (v := ?_) (a' := ?_) #[true, true, false, true, false, true, false, true, true, false, false, false, false, false, false, false, false, false, false, false, false, false] rfl rfl (any_of HT_.out (by kernel_rfl)) (fun _ _ _ h => h) (Or.inl ⟨by rfl, ?_⟩) ?_ ?_
               rotate_left
               ·intro w'
                go_simp
                with_reducible rfl
               rotate_left
               ·simp only [Act.put, List.setIfInBounds_toArray, List.set_cons_zero, List.set_cons_succ, i64_w, i32_w]
                rfl
               refine pure_ (i := 10) (N := some 42) (v := ?_) (a' := ?_) #[true, true, false, true, false, true, false, true, true, false, true, false, false, false, false, false, false, false, false, false, false, false] rfl rfl (any_of HT_.out (by kernel_rfl)) (fun _ _ _ h => h) (Or.inl ⟨by rfl, ?_⟩) ?_ ?_
               rotate_left
               ·intro w'
                go_simp
                with_reducible rfl
               rotate_left
               ·simp only [Act.put, List.setIfInBounds_toArray, List.set_cons_zero, List.set_cons_succ, i64_w, i32_w]
                rfl
               refine pure_ (i := 12) (N := some 44) (v := ?_) (a' := ?_) #[true, true, false, true, false, true, false, true, true, false, true, false, true, false, false, false, false, false, false, false, false, false] rfl rfl (any_of HT_.out (by kernel_rfl)) (fun _ _ _ h => h) (Or.inl ⟨by rfl, ?_⟩) ?_ ?_
               rotate_left
               ·intro w'
                go_simp
                with_reducible rfl
               rotate_left
               ·simp only [Act.put, List.setIfInBounds_toArray, List.set_cons_zero, List.set_cons_succ, i64_w, i32_w]
                rfl
               refine pure_ (i := 14) (N := some 46) (v := ?_) (a' := ?_) #[true, true, false, true, false, true, false, true, true, false, true, false, true, false, true, false, false, false, false, false, false, false] rfl rfl (any_of HT_.out (by kernel_rfl)) (fun _ _ _ h => h) (Or.inl ⟨by rfl, ?_⟩) ?_ ?_
               rotate_left
               ·intro w'
                go_simp
                with_reducible rfl
               rotate_left
               ·simp only [Act.put, List.setIfInBounds_toArray, List.set_cons_zero, List.set_cons_succ, i64_w, i32_w]
                rfl
               refine pure_ (i := 15) (N := some 47) (v := ?_) (a' := ?_) #[true, true, false, true, false, true, false, true, true, false, true, false, true, false, true, true, false, false, false, false, false, false] rfl rfl (any_of HT_.out (by kernel_rfl)) (fun _ _ _ h => h) (Or.inl ⟨by rfl, ?_⟩) ?_ ?_
               rotate_left
               ·intro w'
                go_simp
                with_reducible rfl
               rotate_left
               ·simp only [Act.put, List.setIfInBounds_toArray, List.set_cons_zero, List.set_cons_succ, i64_w, i32_w]
                rfl
               refine take_ (i := 2) (N := some 34) (v := ?_) (a' := ?_) #[true, true, true, true, false, true, false, true, true, false, true, false, true, false, true, true, false, false, false, false, false, false] rfl rfl (take_ofW HT_.out HW_.out (by kernel_rfl)) (fun _ _ _ h => h) (Or.inl ⟨by rfl, ?_⟩) hHeld ?_ ?_
               rotate_left
               ·rintro w' ⟨s0, s1, s2, s3⟩
                go_simp
                with_reducible rfl
               rotate_left
               ·simp only [Act.put, List.setIfInBounds_toArray, List.set_cons_zero, List.set_cons_succ, i64_w, i32_w]
                rfl
               refine take_ (i := 4) (N := some 36) (v := ?_) (a' := ?_) #[true, true, true, true, true, true, false, true, true, false, true, false, true, false, true, true, false, false, false, false, false, false] rfl rfl (take_ofW HT_.out HW_.out (by kernel_rfl)) (fun _ _ _ h => h) (Or.inl ⟨by rfl, ?_⟩) hHeld ?_ ?_
               rotate_left
               ·rintro w' ⟨s0, s1, s2, s3⟩
                go_simp
                with_reducible rfl
               rotate_left
               ·simp only [Act.put, List.setIfInBounds_toArray, List.set_cons_zero, List.set_cons_succ, i64_w, i32_w]
                rfl
               refine take_ (i := 6) (N := some 38) (v := ?_) (a' := ?_) #[true, true, true, true, true, true, true, true, true, false, true, false, true, false, true, true, false, false, false, false, false, false] rfl rfl (take_ofW HT_.out HW_.out (by kernel_rfl)) (fun _ _ _ h => h) (Or.inl ⟨by rfl, ?_⟩) hHeld ?_ ?_
               rotate_left
               ·rintro w' ⟨s0, s1, s2, s3⟩
                go_simp
                with_reducible rfl
               rotate_left
               ·simp only [Act.put, List.setIfInBounds_toArray, List.set_cons_zero, List.set_cons_succ, i64_w, i32_w]
                rfl
               refine take_ (i := 9) (N := some 41) (v := ?_) (a' := ?_) #[true, true, true, true, true, true, true, true, true, true, true, false, true, false, true, true, false, false, false, false, false, false] rfl rfl (take_ofW HT_.out HW_.out (by kernel_rfl)) (fun _ _ _ h => h) (Or.inl ⟨by rfl, ?_⟩) hHeld ?_ ?_
               rotate_left
               ·rintro w' ⟨s0, s1, s2, s3⟩
                go_simp
                with_reducible rfl
               rotate_left
               ·simp only [Act.put, List.setIfInBounds_toArray, List.set_cons_zero, List.set_cons_succ, i64_w, i32_w]
                rfl
               refine pure_ (i := 16) (N := some 48) (v := ?_) (a' := ?_) #[true, true, true, true, true, true, true, true, true, true, true, false, true, false, true, true, true, false, false, false, false, false] rfl rfl (any_of HT_.out (by kernel_rfl)) (fun _ _ _ h => h) (Or.inl ⟨by rfl, ?_⟩) ?_ ?_
               rotate_left
               ·intro w'
                go_simp
                with_reducible rfl
               rotate_left
               ·simp only [Act.put, List.setIfInBounds_toArray, List.set_cons_zero, List.set_cons_succ, i64_w, i32_w]
                rfl
               refine take_ (i := 11) (N := some 43) (v := ?_) (a' := ?_) #[true, true, true, true, true, true, true, true, true, true, true, true, true, false, true, true, true, false, false, false, false, false] rfl rfl (take_ofW HT_.out HW_.out (by kernel_rfl)) (fun _ _ _ h => h) (Or.inl ⟨by rfl, ?_⟩) hHeld ?_ ?_
               rotate_left
               ·rintro w' ⟨s0, s1, s2, s3⟩
                go_simp
                with_reducible rfl
               rotate_left
               ·simp only [Act.put, List.setIfInBounds_toArray, List.set_cons_zero, List.set_cons_succ, i64_w, i32_w]
                rfl
               refine pure_ (i := 17) (N := some 49) (v := ?_) (a' := ?_) #[true, true, true, true, true, true, true, true, true, true, true, true, true, false, true, true, true, true, false, false, false, false] rfl rfl (any_of HT_.out (by kernel_rfl)) (fun _ _ _ h => h) (Or.inl ⟨by rfl, ?_⟩) ?_ ?_
               rotate_left
               ·intro w'
                go_simp
                with_reducible rfl
               rotate_left
               ·simp only [Act.put, List.setIfInBounds_toArray, List.set_cons_zero, List.set_cons_succ, i64_w, i32_w]
                rfl
               refine take_ (i := 13) (N := some 45) (v := ?_) (a' := ?_) #[true, true, true, true, true, true, true, true, true, true, true, true, true, true, true, true, true, true, false, false, false, false] rfl rfl (take_ofW HT_.out HW_.out (by kernel_rfl)) (fun _ _ _ h => h) (Or.inl ⟨by rfl, ?_⟩) hHeld ?_ ?_
               rotate_left
               ·rintro w' ⟨s0, s1, s2, s3⟩
                go_simp
                with_reducible rfl
               rotate_left
               ·simp only [Act.put, List.setIfInBounds_toArray, List.set_cons_zero, List.set_cons_succ, i64_w, i32_w]
                rfl
               refine pure_ (i := 18) (N := some 50) (v := ?_) (a' := ?_) #[true, true, true, true, true, true, true, true, true, true, true, true, true, true, true, true, true, true, true, false, false, false] rfl rfl (any_of HT_.out (by kernel_rfl)) (fun _ _ _ h => h) (Or.inl ⟨by rfl, ?_⟩) ?_ ?_
               rotate_left
               ·intro w'
                go_simp
                with_reducible rfl
               rotate_left
               ·simp only [Act.put, List.setIfInBounds_toArray, List.set_cons_zero, List.set_cons_succ, i64_w, i32_w]
                rfl
               refine take_ (i := 19) (N := some 51) (v := ?_) (a' := ?_) #[true, true, true, true, true, true, true, true, true, true, true, true, true, true, true, true, true, true, true, true, false, false] rfl rfl (take_ofW HT_.out HW_.out (by kernel_rfl)) (fun _ _ _ h => h) (Or.inl ⟨by rfl, ?_⟩) hHeld ?_ ?_
               rotate_left
               ·rintro w' ⟨s0, s1, s2, s3⟩
                go_simp
                with_reducible rfl
               rotate_left
               ·simp only [Act.put, List.setIfInBounds_toArray, List.set_cons_zero, List.set_cons_succ, i64_w, i32_w]
                rfl
               refine pure_ (i := 20) (N := some 52) (v := ?_) (a' := ?_) #[true, true, true, true, true, true, true, true, true, true, true, true, true, true, true, true, true, true, true, true, true, false] rfl rfl (any_of HT_.out (by kernel_rfl)) (fun _ _ _ h => h) (Or.inl ⟨by rfl, ?_⟩) ?_ ?_
               rotate_left
               ·intro w'
                go_simp
                with_reducible rfl
               rotate_left
               ·simp only [Act.put, List.setIfInBounds_toArray, List.set_cons_zero, List.set_cons_succ, i64_w, i32_w]
                rfl
               refine last_ (i := 21) (N := some 53) #[true, true, true, true, true, true, true, true, true, true, true, true, true, true, true, true, true, true, true, true, true, true] rfl rfl (one_of HT_.out (by kernel_rfl)) (by decide) (fun K hK => ?_)
               refine goes_ Try.func76 (by kernel_rfl) rfl #[.pointer (some ⟨go5, 0, none⟩), .int .i64 ((rd_T62 t251 x12_1).f0), .int .i64 ((rd_T62 t251 x12_1).f1), .int .i64 ((rd_T62 t251 x12_1).f2), .int .i64 (wrap64 (-(rd3 x0_1 ((rd_T62 t251 x12_1).f0) ((rd_T62 t251 x12_1).f1) ((rd_T62 t251 x12_1).f2))))] (by rfl) rfl rfl zM ?_
               with_reducible refine (impl_chi_set.calls (fun k_ => some k_ = (.slice (some ⟨go5, 0, none⟩) x0_1.length co5 : Value).ownBlock) (.slice (some ⟨go5, 0, none⟩) x0_1.length co5) x0_1 ((rd_T62 t251 x12_1).f0) ((rd_T62 t251 x12_1).f1) ((rd_T62 t251 x12_1).f2) (wrap64 (-(rd3 x0_1 ((rd_T62 t251 x12_1).f0) ((rd_T62 t251 x12_1).f1) ((rd_T62 t251 x12_1).f2)))) t257 w0 _ ?side1 ?side2 A19.out).mono ?_
               (case side1 => repeat (first | (with_reducible first | exact HB.out | apply below_alloc | apply pw_below_drewN | apply below_drew1 | refine below_set ?_ GE255.out) | exact HB.out))
               (case side2 => exact Kd.R_tight rfl HO_0.out)
               rintro e w26 ⟨rfl, hy0, hb, hkp⟩
               refine ⟨_, rfl, ?_⟩
               have n0_ := Aside0.mk (Kd.R_reok rfl hy0 (fun k_ e_ => HO_0.out.1 k_ e_))
               have n1_ := Aside0.mk (Kd.R_mono (ok' := fun k_ => (P0_ k_ ∨ w.heap.size ≤ k_) ∧ k_ ≠ gb255) (Kd.R_keptB ((Kd.R_apart' HO_10.out (Kd.R_typed HO_0.out) (by decide))) hkp (fun k_ hk_ hs_ => (hk_.2) hs_)) (fun k_ hk_ => ⟨hk_.1.1.1, hk_.1.1.2⟩))
               have n2_ := Aside0.mk (blk_kept (zK BK255.out) hkp (fun hs_ => (fun e_ => (Kd.R_ne HO_0.out BK255.out (by decide)) e_) hs_))
               have n3_ := Aside0.mk (Kept.then_ (S := (fun k_ => P0_ k_)) (by repeat (first | (with_reducible first | exact HK.out | apply Kept.alloc | apply Kept.drewN | apply Kept.drew | refine Kept.setCell ?_ (.inr GW255.out) _) | exact HK.out)) hkp (fun k_ hs_ => (fun e_ => (HO_0.out.1 k_ e_.symm)) hs_))
               have n4_ := Aside0.mk (hb)
               clear HO_0
               clear HO_10
               clear BK255
               clear HK
               clear HB
               have HO_0 := n0_
               have HO_10 := n1_
               have BK255 := n2_
               have HK := n3_
               have HB := n4_
               clear n0_ n1_ n2_ n3_ n4_
               (try clear hb)
               (try clear hkp)
               (try clear hy0)
               refine hK.out _ _ ?_
               clear hK K
               refine norm_ (a' := ?_) ?_ ?_
               rotate_left
               ·show Act.put _ (some 53) _ = _
                simp only [Act.put, List.setIfInBounds_toArray, List.set_cons_zero, List.set_cons_succ, i64_w, i32_w]
                rfl
               refine done_ (done_of HT_.out (by kernel_rfl)) ?_
               try go_wp2
               (try simp only [← hl0_1])
               go_roundg k1
               case measure => have := HK1.out; omega
               case rel => exact ⟨(t257), (wrap64 (x12_1 + 1)), zF, H', ⟨by have := HK1.out; omega⟩, ⟨by (try simp only [hl0_1]); (with_reducible repeat (first | apply Kd.R_alloc | apply Kd.R_drewN | apply Kd.R_drew)); exact HO_0.out⟩, ⟨by (try simp only [hl0_1]); (with_reducible repeat (first | apply Kd.R_alloc | apply Kd.R_drewN | apply Kd.R_drew)); exact Kd.R_mono HO_10.out (fun _ hk => hk.1)⟩, ⟨by repeat (first | (with_reducible first | exact HK.out | apply Kept.alloc | apply Kept.drewN | apply Kept.drew | refine Kept.setCell ?_ (.inr GW255.out) _) | exact HK.out)⟩, ⟨zG GE255.out⟩⟩
              ·rw [if_neg c18] at H
               exact absurd H (by simp)
             ·rw [if_neg c17] at H
              exact absurd H (by simp)
            ·rw [if_neg c16] at H
             exact absurd H (by simp)
           ·rw [if_neg c15] at H
            exact absurd H (by simp)
          ·rw [if_neg c14] at H
           exact absurd H (by simp)
         ·rw [if_neg c13] at H
          exact absurd H (by simp)
        ·rw [if_neg c12] at H
         exact absurd H (by simp)
       ·rw [if_neg c11] at H
        have c11b0 : (((rd_T62 t251 x12_1).f0) == a1) = false := beq_eq_false_iff_ne.mpr c11
        have c11b1 : (((rd_T62 t251 x12_1).f0) != a1) = true := bne_iff_ne.mpr c11
        by_cases c27 : ((rd_T62 t251 x12_1).f1) = a1
        ·rw [if_pos c27] at H
         have c27b0 : (((rd_T62 t251 x12_1).f1) == a1) = true := beq_iff_eq.mpr c27
         have c27b1 : (((rd_T62 t251 x12_1).f1) != a1) = false := bne_eq_false_iff_eq.mpr c27
         clear c27
         by_cases c28 : x0_1.length = 344
         ·rw [if_pos c28] at H
          have c28b0 := eq_true c28
          have c28b1 : decide (x0_1.length = 344) = true := decide_eq_true c28
          clear c28
          by_cases c29 : 0 ≤ ((rd_T62 t251 x12_1).f0)
          ·rw [if_pos c29] at H
           have c29b0 : decide (0 ≤ ((rd_T62 t251 x12_1).f0)) = true := decide_eq_true c29
           clear c29
           by_cases c30 : ((rd_T62 t251 x12_1).f0) < 7
           ·rw [if_pos c30] at H
            have c30b0 : decide (((rd_T62 t251 x12_1).f0) < 7) = true := decide_eq_true c30
            clear c30
            by_cases c31 : 0 ≤ ((rd_T62 t251 x12_1).f1)
            ·rw [if_pos c31] at H
             have c31b0 : decide (0 ≤ ((rd_T62 t251 x12_1).f1)) = true := decide_eq_true c31
             clear c31
             by_cases c32 : ((rd_T62 t251 x12_1).f1) < 7
             ·rw [if_pos c32] at H
              have c32b0 : decide (((rd_T62 t251 x12_1).f1) < 7) = true := decide_eq_true c32
              clear c32
              by_cases c33 : 0 ≤ ((rd_T62 t251 x12_1).f2)
              ·rw [if_pos c33] at H
               have c33b0 : decide (0 ≤ ((rd_T62 t251 x12_1).f2)) = true := decide_eq_true c33
               clear c33
               by_cases c34 : ((rd_T62 t251 x12_1).f2) < 7
               ·rw [if_pos c34] at H
                have c34b0 : decide (((rd_T62 t251 x12_1).f2) < 7) = true := decide_eq_true c34
                clear c34
                replace H := Option.bind_eq_some_iff.mp H
                obtain ⟨t259, A350, H⟩ := H
                replace H : (impl_chi_reverse.l0 k1 t259 a1 t251 (t251.length : Int) (wrap64 (x12_1 + 1))) = some r := H
                have A35 := Aside0.mk A350
                clear A350
                have H' := Aside0.mk H
                clear H
                have p254 : 0 ≤ (x12_1 : Int) := zA
                have q254 : x12_1 < (t251.length : Int) := zA
                obtain ⟨ad254, e254, hx254_0, hx254_1, hx254_2⟩ := at_T62 (Kd.R_reads' HO_10.out).2.2 x12_1 p254 q254
                cases e254
                replace p254 := eq_true p254
                replace q254 := eq_true q254
                try go_wp2_with (first | ((with_reducible refine gate_dst (N := 5) rfl ?_); refine box_event ?hg (N := 5) ?hd (cs := #[.int .i64 0, .int .i64 0, .int .i64 0]) (t := 62) ?hr ?_; (case hd => rfl); (case hg => rfl); (case hr => first | (go_simp; done) | (go_simp; rfl)); intro gb255 hg w36 hbox hb; have n0_ := Aside0.mk (Kd.R_below (zR HO_0.out) hb); have n1_ := Aside0.mk (Kd.R_below (Kd.R_elderB (zR HO_10.out) gb255 (Nat.le_of_eq hg.symm)) hb); have n2_ := Aside0.mk (Kept.below (S := (fun k_ => P0_ k_)) (by repeat (first | (with_reducible first | exact HK.out | apply Kept.alloc | apply Kept.drewN | apply Kept.drew) | exact HK.out)) hb); have n3_ := Aside0.mk (below_step zB hb); have n4_ := Aside0.mk (hbox); have n5_ := Aside0.mk ((by rw [hg]; exact (by first | exact HK.out.1 | exact (show Kept w _ (fun k_ => P0_ k_) from by repeat (first | (with_reducible first | exact HK.out | apply Kept.alloc | apply Kept.drewN | apply Kept.drew) | exact HK.out)).1) : w.heap.size ≤ gb255)); have n6_ := Aside0.mk ((by rw [hg]; exact (below_size zB) : w0.heap.size ≤ gb255)); clear HO_0; clear HO_10; clear HK; clear HB; have HO_0 := n0_; have HO_10 := n1_; have HK := n2_; have HB := n3_; have BK255 := n4_; have GW255 := n5_; have GE255 := n6_; clear n0_ n1_ n2_ n3_ n4_ n5_ n6_; clear hb hbox hg; have hcz37_0 : w36.cell? ⟨gb255, 0, none⟩ = some (.int .i64 0) := (blk_cell BK255.out 0).trans rfl; have hcz37_1 : w36.cell? ⟨gb255, 1, none⟩ = some (.int .i64 0) := (blk_cell BK255.out 1).trans rfl; have hcz37_2 : w36.cell? ⟨gb255, 2, none⟩ = some (.int .i64 0) := (blk_cell BK255.out 2).trans rfl; have hfz37_0 := blk_frozen BK255.out 0; have hfz37_1 := blk_frozen BK255.out 1; have hfz37_2 := blk_frozen BK255.out 2))
                have n0_ : Aside0 (Kd.R (Kd.int .i64) 54 (((w36.setCell ⟨gb255, 0, none⟩ (.int .i64 ((rd_T62 t251 x12_1).f0))).setCell ⟨gb255, 1, none⟩ (.int .i64 ((rd_T62 t251 x12_1).f1))).setCell ⟨gb255, 2, none⟩ (.int .i64 ((rd_T62 t251 x12_1).f2))) w0.heap.size (fun k_ => (P0_ k_ ∨ w.heap.size ≤ k_)) (.slice (some ⟨go5, 0, none⟩) x0_1.length co5) x0_1) := ⟨by (with_reducible repeat (first | apply Kd.R_alloc | apply Kd.R_drewN | apply Kd.R_drew)); exact Kd.R_mono (Kd.R_far (p := ⟨gb255, 2, none⟩) (Kd.R_far (p := ⟨gb255, 1, none⟩) (Kd.R_far (p := ⟨gb255, 0, none⟩) (Kd.R_types HO_0.out BK255.out (by decide)) (fun _ hk => hk.2) (.int .i64 ((rd_T62 t251 x12_1).f0))) (fun _ hk => hk.2) (.int .i64 ((rd_T62 t251 x12_1).f1))) (fun _ hk => hk.2) (.int .i64 ((rd_T62 t251 x12_1).f2))) (fun _ hk => hk.1)⟩
                have n1_ : Aside0 (Kd.R k62 62 (((w36.setCell ⟨gb255, 0, none⟩ (.int .i64 ((rd_T62 t251 x12_1).f0))).setCell ⟨gb255, 1, none⟩ (.int .i64 ((rd_T62 t251 x12_1).f1))).setCell ⟨gb255, 2, none⟩ (.int .i64 ((rd_T62 t251 x12_1).f2))) w0.heap.size (fun k_ => (P0_ k_ ∨ w.heap.size ≤ k_) ∧ k_ ≠ gb255) (.slice (some ad254) t251.length co7) t251) := ⟨by (with_reducible repeat (first | apply Kd.R_alloc | apply Kd.R_drewN | apply Kd.R_drew)); exact Kd.R_mono (Kd.R_far (p := ⟨gb255, 2, none⟩) (Kd.R_far (p := ⟨gb255, 1, none⟩) (Kd.R_far (p := ⟨gb255, 0, none⟩) (Kd.R_mono HO_10.out (fun k_ hk => (⟨hk, hk.2⟩ : _ ∧ k_ ≠ gb255))) (fun _ hk => hk.2) (.int .i64 ((rd_T62 t251 x12_1).f0))) (fun _ hk => hk.2) (.int .i64 ((rd_T62 t251 x12_1).f1))) (fun _ hk => hk.2) (.int .i64 ((rd_T62 t251 x12_1).f2))) (fun _ hk => ⟨hk.1.1, hk.1.2⟩)⟩
                have n2_ : Aside0 ((((w36.setCell ⟨gb255, 0, none⟩ (.int .i64 ((rd_T62 t251 x12_1).f0))).setCell ⟨gb255, 1, none⟩ (.int .i64 ((rd_T62 t251 x12_1).f1))).setCell ⟨gb255, 2, none⟩ (.int .i64 ((rd_T62 t251 x12_1).f2))).heap[gb255]? = some (.cells #[.int .i64 ((rd_T62 t251 x12_1).f0), .int .i64 ((rd_T62 t251 x12_1).f1), .int .i64 ((rd_T62 t251 x12_1).f2)] 62 (0, 0))) := ⟨by (with_reducible repeat (first | refine blk_drewN ?_ _ | refine blk_drew ?_ | refine blk_alloc ?_ _)); refine blk_put (cs := #[.int .i64 ((rd_T62 t251 x12_1).f0), .int .i64 ((rd_T62 t251 x12_1).f1), .int .i64 0]) ?_ 2 _ rfl; (with_reducible repeat (first | refine blk_drewN ?_ _ | refine blk_drew ?_ | refine blk_alloc ?_ _)); refine blk_put (cs := #[.int .i64 ((rd_T62 t251 x12_1).f0), .int .i64 0, .int .i64 0]) ?_ 1 _ rfl; (with_reducible repeat (first | refine blk_drewN ?_ _ | refine blk_drew ?_ | refine blk_alloc ?_ _)); refine blk_put (cs := #[.int .i64 0, .int .i64 0, .int .i64 0]) ?_ 0 _ rfl; (with_reducible repeat (first | refine blk_drewN ?_ _ | refine blk_drew ?_ | refine blk_alloc ?_ _)); exact BK255.out⟩
                have n3_ : Aside0 (Kept w (((w36.setCell ⟨gb255, 0, none⟩ (.int .i64 ((rd_T62 t251 x12_1).f0))).setCell ⟨gb255, 1, none⟩ (.int .i64 ((rd_T62 t251 x12_1).f1))).setCell ⟨gb255, 2, none⟩ (.int .i64 ((rd_T62 t251 x12_1).f2))) (fun k_ => P0_ k_)) := ⟨by repeat (first | (with_reducible first | exact HK.out | apply Kept.alloc | apply Kept.drewN | apply Kept.drew | refine Kept.setCell ?_ (.inr GW255.out) _) | exact HK.out)⟩
                have n4_ : Aside0 (Below w0.heap.size w0 (((w36.setCell ⟨gb255, 0, none⟩ (.int .i64 ((rd_T62 t251 x12_1).f0))).setCell ⟨gb255, 1, none⟩ (.int .i64 ((rd_T62 t251 x12_1).f1))).setCell ⟨gb255, 2, none⟩ (.int .i64 ((rd_T62 t251 x12_1).f2)))) := ⟨zG GE255.out⟩
                (try clear HO_0)
                (try clear HO_10)
                (try clear BK255)
                (try clear HK)
                (try clear HB)
                generalize (((w36.setCell ⟨gb255, 0, none⟩ (.int .i64 ((rd_T62 t251 x12_1).f0))).setCell ⟨gb255, 1, none⟩ (.int .i64 ((rd_T62 t251 x12_1).f1))).setCell ⟨gb255, 2, none⟩ (.int .i64 ((rd_T62 t251 x12_1).f2))) = w38 at n0_ n1_ n2_ n3_ n4_ ⊢
                have HO_0 := n0_
                have HO_10 := n1_
                have BK255 := n2_
                have HK := n3_
                have HB := n4_
                clear n0_ n1_ n2_ n3_ n4_
                have n0_ := Aside0.mk (Kd.R_drew HO_0.out)
                have n1_ := Aside0.mk (Kd.R_drew HO_10.out)
                have n2_ := Aside0.mk (blk_drew BK255.out)
                have n3_ := Aside0.mk (Kept.drew HK.out)
                have n4_ := Aside0.mk (below_drew1 HB.out)
                clear HO_0
                clear HO_10
                clear BK255
                clear HK
                clear HB
                have HO_0 := n0_
                have HO_10 := n1_
                have BK255 := n2_
                have HK := n3_
                have HB := n4_
                clear n0_ n1_ n2_ n3_ n4_
                have pz258_0 : 0 ≤ (((rd_T62 t251 x12_1).f0) : Int) := zA
                have pz258_1 : 0 ≤ (((rd_T62 t251 x12_1).f1) : Int) := zA
                have pz258_2 : 0 ≤ (((rd_T62 t251 x12_1).f2) : Int) := zA
                have qz258_0 : (((rd_T62 t251 x12_1).f0) : Int) < 7 := zA
                have qz258_1 : (((rd_T62 t251 x12_1).f1) : Int) < 7 := zA
                have qz258_2 : (((rd_T62 t251 x12_1).f2) : Int) < 7 := zA
                have hL258 := (zA : x0_1.length = 344)
                have dp258 : decide (0 ≤ ((1 + ((rd_T62 t251 x12_1).f0) * 49 + ((rd_T62 t251 x12_1).f1) * 7 + ((rd_T62 t251 x12_1).f2)) : Int)) = true := decide_eq_true (by omega)
                have dq258 : decide ((1 + ((rd_T62 t251 x12_1).f0) * 49 + ((rd_T62 t251 x12_1).f1) * 7 + ((rd_T62 t251 x12_1).f2)) < (x0_1.length : Int)) = true := decide_eq_true (by omega)
                clear hL258
                have p258 : 0 ≤ ((1 + ((rd_T62 t251 x12_1).f0) * 49 + ((rd_T62 t251 x12_1).f1) * 7 + ((rd_T62 t251 x12_1).f2)) : Int) := zA
                have q258 : (1 + ((rd_T62 t251 x12_1).f0) * 49 + ((rd_T62 t251 x12_1).f1) * 7 + ((rd_T62 t251 x12_1).f2)) < (x0_1.length : Int) := zA
                obtain ⟨ad258, e258, hx258_0⟩ := Kd.at_int (Kd.R_reads' HO_0.out).2.2 (1 + ((rd_T62 t251 x12_1).f0) * 49 + ((rd_T62 t251 x12_1).f1) * 7 + ((rd_T62 t251 x12_1).f2)) p258 q258
                obtain rfl : (⟨go5, 0, none⟩ : Addr) = ad258 := (by injection e258)
                (first | simp only [add_plain] at hx258_0 | simp only [add_at] at hx258_0 | simp only [Addr.add, Nat.zero_add] at hx258_0 | skip)
                replace p258 := eq_true p258
                replace q258 := eq_true q258
                have hw258_0 := hx258_0
                clear dp258 dq258
                clear p258 q258
                rw [show ((1 + ((rd_T62 t251 x12_1).f0) * 49 + ((rd_T62 t251 x12_1).f1) * 7 + ((rd_T62 t251 x12_1).f2)) : Int).toNat = 1 + (((rd_T62 t251 x12_1).f0)).toNat * 49 + (((rd_T62 t251 x12_1).f1)).toNat * 7 + (((rd_T62 t251 x12_1).f2)).toNat from by omega] at hx258_0
                change _ = some (Value.int .i64 (rd3 x0_1 ((rd_T62 t251 x12_1).f0) ((rd_T62 t251 x12_1).f1) ((rd_T62 t251 x12_1).f2))) at hx258_0
                rw [show ((1 + ((rd_T62 t251 x12_1).f0) * 49 + ((rd_T62 t251 x12_1).f1) * 7 + ((rd_T62 t251 x12_1).f2)) : Int).toNat = 1 + (((rd_T62 t251 x12_1).f0)).toNat * 49 + (((rd_T62 t251 x12_1).f1)).toNat * 7 + (((rd_T62 t251 x12_1).f2)).toNat from by omega] at hw258_0
                change _ = some (Value.int .i64 (rd3 x0_1 ((rd_T62 t251 x12_1).f0) ((rd_T62 t251 x12_1).f1) ((rd_T62 t251 x12_1).f2))) at hw258_0
                replace pz258_0 := eq_true pz258_0
                replace pz258_1 := eq_true pz258_1
                replace pz258_2 := eq_true pz258_2
                replace qz258_0 := eq_true qz258_0
                replace qz258_1 := eq_true qz258_1
                replace qz258_2 := eq_true qz258_2
                refine start_ (n := 22) (S := fun w' => w'.cell? ⟨gb255, 0, none⟩ = some (.int .i64 ((rd_T62 t251 x12_1).f0)) ∧ w'.cell? ⟨gb255, 1, none⟩ = some (.int .i64 ((rd_T62 t251 x12_1).f1)) ∧ w'.cell? ⟨gb255, 2, none⟩ = some (.int .i64 ((rd_T62 t251 x12_1).f2)) ∧ w'.cell? ⟨go5, 1 + (((rd_T62 t251 x12_1).f0)).toNat * 49 + (((rd_T62 t251 x12_1).f1)).toNat * 7 + (((rd_T62 t251 x12_1).f2)).toNat, none⟩ = some (.int .i64 (rd3 x0_1 ((rd_T62 t251 x12_1).f0) ((rd_T62 t251 x12_1).f1) ((rd_T62 t251 x12_1).f2)))) (ds := [21]) #[false, false, false, false, false, false, false, false, false, false, false, false, false, false, false, false, false, false, false, false, false, false] (by kernel_rfl) rfl rfl ⟨(blk_cell BK255.out 0).trans rfl, (blk_cell BK255.out 1).trans rfl, (blk_cell BK255.out 2).trans rfl, hx258_0⟩ (fun hHeld => ?_); refine with_tabW impl_chi_reverse.tab4 impl_chi_reverse.bits4 (fun HT_ HW_ => ?_)
                generalize w38.drew = w39 at HO_0 HO_10 BK255 HK HB hx258_0 hHeld ⊢
                refine pure_ (i := 0) (N := some 32) (v := ?_) (a' := ?_) #[true, false, false, false, false, false, false, false, false, false, false, false, false, false, false, false, false, false, false, false, false, false] rfl rfl (any_of HT_.out (by kernel_rfl)) (fun _ _ _ h => h) (Or.inl ⟨by rfl, ?_⟩) ?_ ?_
                rotate_left
                ·intro w'
                 go_simp
                 with_reducible rfl
                rotate_left
                ·simp only [Act.put, List.setIfInBounds_toArray, List.set_cons_zero, List.set_cons_succ, i64_w, i32_w]
                 rfl
                refine pure_ (i := 1) (N := some 33) (v := ?_) (a' := ?_) #[true, true, false, false, false, false, false, false, false, false, false, false, false, false, false, false, false, false, false, false, false, false] rfl rfl (any_of HT_.out (by kernel_rfl)) (fun _ _ _ h => h) (Or.inl ⟨by rfl, ?_⟩) ?_ ?_
                rotate_left
                ·intro w'
                 go_simp
                 with_reducible rfl
                rotate_left
                ·simp only [Act.put, List.setIfInBounds_toArray, List.set_cons_zero, List.set_cons_succ, i64_w, i32_w]
                 rfl
                refine pure_ (i := 3) (N := some 35) (v := ?_) (a' := ?_) #[true, true, false, true, false, false, false, false, false, false, false, false, false, false, false, false, false, false, false, false, false, false] rfl rfl (any_of HT_.out (by kernel_rfl)) (fun _ _ _ h => h) (Or.inl ⟨by rfl, ?_⟩) ?_ ?_
                rotate_left
                ·intro w'
                 go_simp
                 with_reducible rfl
                rotate_left
                ·simp only [Act.put, List.setIfInBounds_toArray, List.set_cons_zero, List.set_cons_succ, i64_w, i32_w]
                 rfl
                refine pure_ (i := 5) (N := some 37) (v := ?_) (a' := ?_) #[true, true, false, true, false, true, false, false, false, false, false, false, false, false, false, false, false, false, false, false, false, false] rfl rfl (any_of HT_.out (by kernel_rfl)) (fun _ _ _ h => h) (Or.inl ⟨by rfl, ?_⟩) ?_ ?_
                rotate_left
                ·intro w'
                 go_simp
                 with_reducible rfl
                rotate_left
                ·simp only [Act.put, List.setIfInBounds_toArray, List.set_cons_zero, List.set_cons_succ, i64_w, i32_w]
                 rfl
                refine pure_ (i := 7) (N := some 39) (v := ?_) (a' := ?_) #[true, true, false, true, false, true, false, true, false, false, false, false, false, false, false, false, false, false, false, false, false, false] rfl rfl (any_of HT_.out (by kernel_rfl)) (fun _ _ _ h => h) (Or.inl ⟨by rfl, ?_⟩) ?_ ?_
                rotate_left
                ·intro w'
                 go_simp
                 with_reducible rfl
                rotate_left
                ·simp only [Act.put, List.setIfInBounds_toArray, List.set_cons_zero, List.set_cons_succ, i64_w, i32_w]
                 rfl
                refine pure_ (i := 8) (N := some 40) (v := ?_) (a' := ?_) #[true, true, false, true, false, true, false, true, true, false, false, false, false, false, false, false, false, false, false, false, false, false] rfl rfl (any_of HT_.out (by kernel_rfl)) (fun _ _ _ h => h) (Or.inl ⟨by rfl, ?_⟩) ?_ ?_
                rotate_left
                ·intro w'
                 go_simp
                 with_reducible rfl
                rotate_left
                ·simp only [Act.put, List.setIfInBounds_toArray, List.set_cons_zero, List.set_cons_succ, i64_w, i32_w]
                 rfl
                refine pure_ (i := 10) (N := some 42) (v := ?_) (a' := ?_) #[true, true, false, true, false, true, false, true, true, false, true, false, false, false, false, false, false, false, false, false, false, false] rfl rfl (any_of HT_.out (by kernel_rfl)) (fun _ _ _ h => h) (Or.inl ⟨by rfl, ?_⟩) ?_ ?_
                rotate_left
                ·intro w'
                 go_simp
                 with_reducible rfl
                rotate_left
                ·simp only [Act.put, List.setIfInBounds_toArray, List.set_cons_zero, List.set_cons_succ, i64_w, i32_w]
                 rfl
                refine pure_ (i := 12) (N := some 44) (v := ?_) (a' := ?_) #[true, true, false, true, false, true, false, true, true, false, true, false, true, false, false, false, false, false, false, false, false, false] rfl rfl (any_of HT_.out (by kernel_rfl)) (fun _ _ _ h => h) (Or.inl ⟨by rfl, ?_⟩) ?_ ?_
                rotate_left
                ·intro w'
                 go_simp
                 with_reducible rfl
                rotate_left
                ·simp only [Act.put, List.setIfInBounds_toArray, List.set_cons_zero, List.set_cons_succ, i64_w, i32_w]
                 rfl
                refine pure_ (i := 14) (N := some 46) (v := ?_) (a' := ?_) #[true, true, false, true, false, true, false, true, true, false, true, false, true, false, true, false, false, false, false, false, false, false] rfl rfl (any_of HT_.out (by kernel_rfl)) (fun _ _ _ h => h) (Or.inl ⟨by rfl, ?_⟩) ?_ ?_
                rotate_left
                ·intro w'
                 go_simp
                 with_reducible rfl
                rotate_left
                ·simp only [Act.put, List.setIfInBounds_toArray, List.set_cons_zero, List.set_cons_succ, i64_w, i32_w]
                 rfl
                refine pure_ (i := 15) (N := some 47) (v := ?_) (a' := ?_) #[true, true, false, true, false, true, false, true, true, false, true, false, true, false, true, true, false, false, false, false, false, false] rfl rfl (any_of HT_.out (by kernel_rfl)) (fun _ _ _ h => h) (Or.inl ⟨by rfl, ?_⟩) ?_ ?_
                rotate_left
                ·intro w'
                 go_simp
                 with_reducible rfl
                rotate_left
                ·simp only [Act.put, List.setIfInBounds_toArray, List.set_cons_zero, List.set_cons_succ, i64_w, i32_w]
                 rfl
                refine take_ (i := 2) (N := some 34) (v := ?_) (a' := ?_) #[true, true, true, true, false, true, false, true, true, false, true, false, true, false, true, true, false, false, false, false, false, false] rfl rfl (take_ofW HT_.out HW_.out (by kernel_rfl)) (fun _ _ _ h => h) (Or.inl ⟨by rfl, ?_⟩) hHeld ?_ ?_
                rotate_left
                ·rintro w' ⟨s0, s1, s2, s3⟩
                 go_simp
                 with_reducible rfl
                rotate_left
                ·simp only [Act.put, List.setIfInBounds_toArray, List.set_cons_zero, List.set_cons_succ, i64_w, i32_w]
                 rfl
                refine take_ (i := 4) (N := some 36) (v := ?_) (a' := ?_) #[true, true, true, true, true, true, false, true, true, false, true, false, true, false, true, true, false, false, false, false, false, false] rfl rfl (take_ofW HT_.out HW_.out (by kernel_rfl)) (fun _ _ _ h => h) (Or.inl ⟨by rfl, ?_⟩) hHeld ?_ ?_
                rotate_left
                ·rintro w' ⟨s0, s1, s2, s3⟩
                 go_simp
                 with_reducible rfl
                rotate_left
                ·simp only [Act.put, List.setIfInBounds_toArray, List.set_cons_zero, List.set_cons_succ, i64_w, i32_w]
                 rfl
                refine take_ (i := 6) (N := some 38) (v := ?_) (a' := ?_) #[true, true, true, true, true, true, true, true, true, false, true, false, true, false, true, true, false, false, false, false, false, false] rfl rfl (take_ofW HT_.out HW_.out (by kernel_rfl)) (fun _ _ _ h => h) (Or.inl ⟨by rfl, ?_⟩) hHeld ?_ ?_
                rotate_left
                ·rintro w' ⟨s0, s1, s2, s3⟩
                 go_simp
                 with_reducible rfl
                rotate_left
                ·simp only [Act.put, List.setIfInBounds_toArray, List.set_cons_zero, List.set_cons_succ, i64_w, i32_w]
                 rfl
                refine take_ (i := 9) (N := some 41) (v := ?_) (a' := ?_) #[true, true, true, true, true, true, true, true, true, true, true, false, true, false, true, true, false, false, false, false, false, false] rfl rfl (take_ofW HT_.out HW_.out (by kernel_rfl)) (fun _ _ _ h => h) (Or.inl ⟨by rfl, ?_⟩) hHeld ?_ ?_
                rotate_left
                ·rintro w' ⟨s0, s1, s2, s3⟩
                 go_simp
                 with_reducible rfl
                rotate_left
                ·simp only [Act.put, List.setIfInBounds_toArray, List.set_cons_zero, List.set_cons_succ, i64_w, i32_w]
                 rfl
                refine pure_ (i := 16) (N := some 48) (v := ?_) (a' := ?_) #[true, true, true, true, true, true, true, true, true, true, true, false, true, false, true, true, true, false, false, false, false, false] rfl rfl (any_of HT_.out (by kernel_rfl)) (fun _ _ _ h => h) (Or.inl ⟨by rfl, ?_⟩) ?_ ?_
                rotate_left
                ·intro w'
                 go_simp
                 with_reducible rfl
                rotate_left
                ·simp only [Act.put, List.setIfInBounds_toArray, List.set_cons_zero, List.set_cons_succ, i64_w, i32_w]
                 rfl
                refine take_ (i := 11) (N := some 43) (v := ?_) (a' := ?_) #[true, true, true, true, true, true, true, true, true, true, true, true, true, false, true, true, true, false, false, false, false, false] rfl rfl (take_ofW HT_.out HW_.out (by kernel_rfl)) (fun _ _ _ h => h) (Or.inl ⟨by rfl, ?_⟩) hHeld ?_ ?_
                rotate_left
                ·rintro w' ⟨s0, s1, s2, s3⟩
                 go_simp
                 with_reducible rfl
                rotate_left
                ·simp only [Act.put, List.setIfInBounds_toArray, List.set_cons_zero, List.set_cons_succ, i64_w, i32_w]
                 rfl
                refine pure_ (i := 17) (N := some 49) (v := ?_) (a' := ?_) #[true, true, true, true, true, true, true, true, true, true, true, true, true, false, true, true, true, true, false, false, false, false] rfl rfl (any_of HT_.out (by kernel_rfl)) (fun _ _ _ h => h) (Or.inl ⟨by rfl, ?_⟩) ?_ ?_
                rotate_left
                ·intro w'
                 go_simp
                 with_reducible rfl
                rotate_left
                ·simp only [Act.put, List.setIfInBounds_toArray, List.set_cons_zero, List.set_cons_succ, i64_w, i32_w]
                 rfl
                refine take_ (i := 13) (N := some 45) (v := ?_) (a' := ?_) #[true, true, true, true, true, true, true, true, true, true, true, true, true, true, true, true, true, true, false, false, false, false] rfl rfl (take_ofW HT_.out HW_.out (by kernel_rfl)) (fun _ _ _ h => h) (Or.inl ⟨by rfl, ?_⟩) hHeld ?_ ?_
                rotate_left
                ·rintro w' ⟨s0, s1, s2, s3⟩
                 go_simp
                 with_reducible rfl
                rotate_left
                ·simp only [Act.put, List.setIfInBounds_toArray, List.set_cons_zero, List.set_cons_succ, i64_w, i32_w]
                 rfl
                refine pure_ (i := 18) (N := some 50) (v := ?_) (a' := ?_) #[true, true, true, true, true, true, true, true, true, true, true, true, true, true, true, true, true, true, true, false, false, false] rfl rfl (any_of HT_.out (by kernel_rfl)) (fun _ _ _ h => h) (Or.inl ⟨by rfl, ?_⟩) ?_ ?_
                rotate_left
                ·intro w'
                 go_simp
                 with_reducible rfl
                rotate_left
                ·simp only [Act.put, List.setIfInBounds_toArray, List.set_cons_zero, List.set_cons_succ, i64_w, i32_w]
                 rfl
                refine take_ (i := 19) (N := some 51) (v := ?_) (a' := ?_) #[true, true, true, true, true, true, true, true, true, true, true, true, true, true, true, true, true, true, true, true, false, false] rfl rfl (take_ofW HT_.out HW_.out (by kernel_rfl)) (fun _ _ _ h => h) (Or.inl ⟨by rfl, ?_⟩) hHeld ?_ ?_
                rotate_left
                ·rintro w' ⟨s0, s1, s2, s3⟩
                 go_simp
                 with_reducible rfl
                rotate_left
                ·simp only [Act.put, List.setIfInBounds_toArray, List.set_cons_zero, List.set_cons_succ, i64_w, i32_w]
                 rfl
                refine pure_ (i := 20) (N := some 52) (v := ?_) (a' := ?_) #[true, true, true, true, true, true, true, true, true, true, true, true, true, true, true, true, true, true, true, true, true, false] rfl rfl (any_of HT_.out (by kernel_rfl)) (fun _ _ _ h => h) (Or.inl ⟨by rfl, ?_⟩) ?_ ?_
                rotate_left
                ·intro w'
                 go_simp
                 with_reducible rfl
                rotate_left
                ·simp only [Act.put, List.setIfInBounds_toArray, List.set_cons_zero, List.set_cons_succ, i64_w, i32_w]
                 rfl
                refine last_ (i := 21) (N := some 53) #[true, true, true, true, true, true, true, true, true, true, true, true, true, true, true, true, true, true, true, true, true, true] rfl rfl (one_of HT_.out (by kernel_rfl)) (by decide) (fun K hK => ?_)
                refine goes_ Try.func76 (by kernel_rfl) rfl #[.pointer (some ⟨go5, 0, none⟩), .int .i64 ((rd_T62 t251 x12_1).f0), .int .i64 ((rd_T62 t251 x12_1).f1), .int .i64 ((rd_T62 t251 x12_1).f2), .int .i64 (wrap64 (-(rd3 x0_1 ((rd_T62 t251 x12_1).f0) ((rd_T62 t251 x12_1).f1) ((rd_T62 t251 x12_1).f2))))] (by rfl) rfl rfl zM ?_
                with_reducible refine (impl_chi_set.calls (fun k_ => some k_ = (.slice (some ⟨go5, 0, none⟩) x0_1.length co5 : Value).ownBlock) (.slice (some ⟨go5, 0, none⟩) x0_1.length co5) x0_1 ((rd_T62 t251 x12_1).f0) ((rd_T62 t251 x12_1).f1) ((rd_T62 t251 x12_1).f2) (wrap64 (-(rd3 x0_1 ((rd_T62 t251 x12_1).f0) ((rd_T62 t251 x12_1).f1) ((rd_T62 t251 x12_1).f2)))) t259 w0 _ ?side1 ?side2 A35.out).mono ?_
                (case side1 => repeat (first | (with_reducible first | exact HB.out | apply below_alloc | apply pw_below_drewN | apply below_drew1 | refine below_set ?_ GE255.out) | exact HB.out))
                (case side2 => exact Kd.R_tight rfl HO_0.out)
                rintro e w42 ⟨rfl, hy0, hb, hkp⟩
                refine ⟨_, rfl, ?_⟩
                have n0_ := Aside0.mk (Kd.R_reok rfl hy0 (fun k_ e_ => HO_0.out.1 k_ e_))
                have n1_ := Aside0.mk (Kd.R_mono (ok' := fun k_ => (P0_ k_ ∨ w.heap.size ≤ k_) ∧ k_ ≠ gb255) (Kd.R_keptB ((Kd.R_apart' HO_10.out (Kd.R_typed HO_0.out) (by decide))) hkp (fun k_ hk_ hs_ => (hk_.2) hs_)) (fun k_ hk_ => ⟨hk_.1.1.1, hk_.1.1.2⟩))
                have n2_ := Aside0.mk (blk_kept (zK BK255.out) hkp (fun hs_ => (fun e_ => (Kd.R_ne HO_0.out BK255.out (by decide)) e_) hs_))
                have n3_ := Aside0.mk (Kept.then_ (S := (fun k_ => P0_ k_)) (by repeat (first | (with_reducible first | exact HK.out | apply Kept.alloc | apply Kept.drewN | apply Kept.drew | refine Kept.setCell ?_ (.inr GW255.out) _) | exact HK.out)) hkp (fun k_ hs_ => (fun e_ => (HO_0.out.1 k_ e_.symm)) hs_))
                have n4_ := Aside0.mk (hb)
                clear HO_0
                clear HO_10
                clear BK255
                clear HK
                clear HB
                have HO_0 := n0_
                have HO_10 := n1_
                have BK255 := n2_
                have HK := n3_
                have HB := n4_
                clear n0_ n1_ n2_ n3_ n4_
                (try clear hb)
                (try clear hkp)
                (try clear hy0)
                refine hK.out _ _ ?_
                clear hK K
                refine norm_ (a' := ?_) ?_ ?_
                rotate_left
                ·show Act.put _ (some 53) _ = _
                 simp only [Act.put, List.setIfInBounds_toArray, List.set_cons_zero, List.set_cons_succ, i64_w, i32_w]
                 rfl
                refine done_ (done_of HT_.out (by kernel_rfl)) ?_
                try go_wp2
                (try simp only [← hl0_1])
                go_roundg k1
                case measure => have := HK1.out; omega
                case rel => exact ⟨(t259), (wrap64 (x12_1 + 1)), zF, H', ⟨by have := HK1.out; omega⟩, ⟨by (try simp only [hl0_1]); (with_reducible repeat (first | apply Kd.R_alloc | apply Kd.R_drewN | apply Kd.R_drew)); exact HO_0.out⟩, ⟨by (try simp only [hl0_1]); (with_reducible repeat (first | apply Kd.R_alloc | apply Kd.R_drewN | apply Kd.R_drew)); exact Kd.R_mono HO_10.out (fun _ hk => hk.1)⟩, ⟨by repeat (first | (with_reducible first | exact HK.out | apply Kept.alloc | apply Kept.drewN | apply Kept.drew | refine Kept.setCell ?_ (.inr GW255.out) _) | exact HK.out)⟩, ⟨zG GE255.out⟩⟩
               ·rw [if_neg c34] at H
                exact absurd H (by simp)
              ·rw [if_neg c33] at H
               exact absurd H (by simp)
             ·rw [if_neg c32] at H
              exact absurd H (by simp)
            ·rw [if_neg c31] at H
             exact absurd H (by simp)
           ·rw [if_neg c30] at H
            exact absurd H (by simp)
          ·rw [if_neg c29] at H
           exact absurd H (by simp)
         ·rw [if_neg c28] at H
          exact absurd H (by simp)
        ·rw [if_neg c27] at H
         have c27b0 : (((rd_T62 t251 x12_1).f1) == a1) = false := beq_eq_false_iff_ne.mpr c27
         have c27b1 : (((rd_T62 t251 x12_1).f1) != a1) = true := bne_iff_ne.mpr c27
         by_cases c43 : ((rd_T62 t251 x12_1).f2) = a1
         ·rw [if_pos c43] at H
          have c43b0 : (((rd_T62 t251 x12_1).f2) == a1) = true := beq_iff_eq.mpr c43
          have c43b1 : (((rd_T62 t251 x12_1).f2) != a1) = false := bne_eq_false_iff_eq.mpr c43
          clear c43
          by_cases c44 : x0_1.length = 344
          ·rw [if_pos c44] at H
           have c44b0 := eq_true c44
           have c44b1 : decide (x0_1.length = 344) = true := decide_eq_true c44
           clear c44
           by_cases c45 : 0 ≤ ((rd_T62 t251 x12_1).f0)
           ·rw [if_pos c45] at H
            have c45b0 : decide (0 ≤ ((rd_T62 t251 x12_1).f0)) = true := decide_eq_true c45
            clear c45
            by_cases c46 : ((rd_T62 t251 x12_1).f0) < 7
            ·rw [if_pos c46] at H
             have c46b0 : decide (((rd_T62 t251 x12_1).f0) < 7) = true := decide_eq_true c46
             clear c46
             by_cases c47 : 0 ≤ ((rd_T62 t251 x12_1).f1)
             ·rw [if_pos c47] at H
              have c47b0 : decide (0 ≤ ((rd_T62 t251 x12_1).f1)) = true := decide_eq_true c47
              clear c47
              by_cases c48 : ((rd_T62 t251 x12_1).f1) < 7
              ·rw [if_pos c48] at H
               have c48b0 : decide (((rd_T62 t251 x12_1).f1) < 7) = true := decide_eq_true c48
               clear c48
               by_cases c49 : 0 ≤ ((rd_T62 t251 x12_1).f2)
               ·rw [if_pos c49] at H
                have c49b0 : decide (0 ≤ ((rd_T62 t251 x12_1).f2)) = true := decide_eq_true c49
                clear c49
                by_cases c50 : ((rd_T62 t251 x12_1).f2) < 7
                ·rw [if_pos c50] at H
                 have c50b0 : decide (((rd_T62 t251 x12_1).f2) < 7) = true := decide_eq_true c50
                 clear c50
                 replace H := Option.bind_eq_some_iff.mp H
                 obtain ⟨t261, A510, H⟩ := H
                 replace H : (impl_chi_reverse.l0 k1 t261 a1 t251 (t251.length : Int) (wrap64 (x12_1 + 1))) = some r := H
                 have A51 := Aside0.mk A510
                 clear A510
                 have H' := Aside0.mk H
                 clear H
                 have p254 : 0 ≤ (x12_1 : Int) := zA
                 have q254 : x12_1 < (t251.length : Int) := zA
                 obtain ⟨ad254, e254, hx254_0, hx254_1, hx254_2⟩ := at_T62 (Kd.R_reads' HO_10.out).2.2 x12_1 p254 q254
                 cases e254
                 replace p254 := eq_true p254
                 replace q254 := eq_true q254
                 try go_wp2_with (first | ((with_reducible refine gate_dst (N := 5) rfl ?_); refine box_event ?hg (N := 5) ?hd (cs := #[.int .i64 0, .int .i64 0, .int .i64 0]) (t := 62) ?hr ?_; (case hd => rfl); (case hg => rfl); (case hr => first | (go_simp; done) | (go_simp; rfl)); intro gb255 hg w52 hbox hb; have n0_ := Aside0.mk (Kd.R_below (zR HO_0.out) hb); have n1_ := Aside0.mk (Kd.R_below (Kd.R_elderB (zR HO_10.out) gb255 (Nat.le_of_eq hg.symm)) hb); have n2_ := Aside0.mk (Kept.below (S := (fun k_ => P0_ k_)) (by repeat (first | (with_reducible first | exact HK.out | apply Kept.alloc | apply Kept.drewN | apply Kept.drew) | exact HK.out)) hb); have n3_ := Aside0.mk (below_step zB hb); have n4_ := Aside0.mk (hbox); have n5_ := Aside0.mk ((by rw [hg]; exact (by first | exact HK.out.1 | exact (show Kept w _ (fun k_ => P0_ k_) from by repeat (first | (with_reducible first | exact HK.out | apply Kept.alloc | apply Kept.drewN | apply Kept.drew) | exact HK.out)).1) : w.heap.size ≤ gb255)); have n6_ := Aside0.mk ((by rw [hg]; exact (below_size zB) : w0.heap.size ≤ gb255)); clear HO_0; clear HO_10; clear HK; clear HB; have HO_0 := n0_; have HO_10 := n1_; have HK := n2_; have HB := n3_; have BK255 := n4_; have GW255 := n5_; have GE255 := n6_; clear n0_ n1_ n2_ n3_ n4_ n5_ n6_; clear hb hbox hg; have hcz53_0 : w52.cell? ⟨gb255, 0, none⟩ = some (.int .i64 0) := (blk_cell BK255.out 0).trans rfl; have hcz53_1 : w52.cell? ⟨gb255, 1, none⟩ = some (.int .i64 0) := (blk_cell BK255.out 1).trans rfl; have hcz53_2 : w52.cell? ⟨gb255, 2, none⟩ = some (.int .i64 0) := (blk_cell BK255.out 2).trans rfl; have hfz53_0 := blk_frozen BK255.out 0; have hfz53_1 := blk_frozen BK255.out 1; have hfz53_2 := blk_frozen BK255.out 2))
                 have n0_ : Aside0 (Kd.R (Kd.int .i64) 54 (((w52.setCell ⟨gb255, 0, none⟩ (.int .i64 ((rd_T62 t251 x12_1).f0))).setCell ⟨gb255, 1, none⟩ (.int .i64 ((rd_T62 t251 x12_1).f1))).setCell ⟨gb255, 2, none⟩ (.int .i64 ((rd_T62 t251 x12_1).f2))) w0.heap.size (fun k_ => (P0_ k_ ∨ w.heap.size ≤ k_)) (.slice (some ⟨go5, 0, none⟩) x0_1.length co5) x0_1) := ⟨by (with_reducible repeat (first | apply Kd.R_alloc | apply Kd.R_drewN | apply Kd.R_drew)); exact Kd.R_mono (Kd.R_far (p := ⟨gb255, 2, none⟩) (Kd.R_far (p := ⟨gb255, 1, none⟩) (Kd.R_far (p := ⟨gb255, 0, none⟩) (Kd.R_types HO_0.out BK255.out (by decide)) (fun _ hk => hk.2) (.int .i64 ((rd_T62 t251 x12_1).f0))) (fun _ hk => hk.2) (.int .i64 ((rd_T62 t251 x12_1).f1))) (fun _ hk => hk.2) (.int .i64 ((rd_T62 t251 x12_1).f2))) (fun _ hk => hk.1)⟩
                 have n1_ : Aside0 (Kd.R k62 62 (((w52.setCell ⟨gb255, 0, none⟩ (.int .i64 ((rd_T62 t251 x12_1).f0))).setCell ⟨gb255, 1, none⟩ (.int .i64 ((rd_T62 t251 x12_1).f1))).setCell ⟨gb255, 2, none⟩ (.int .i64 ((rd_T62 t251 x12_1).f2))) w0.heap.size (fun k_ => (P0_ k_ ∨ w.heap.size ≤ k_) ∧ k_ ≠ gb255) (.slice (some ad254) t251.length co7) t251) := ⟨by (with_reducible repeat (first | apply Kd.R_alloc | apply Kd.R_drewN | apply Kd.R_drew)); exact Kd.R_mono (Kd.R_far (p := ⟨gb255, 2, none⟩) (Kd.R_far (p := ⟨gb255, 1, none⟩) (Kd.R_far (p := ⟨gb255, 0, none⟩) (Kd.R_mono HO_10.out (fun k_ hk => (⟨hk, hk.2⟩ : _ ∧ k_ ≠ gb255))) (fun _ hk => hk.2) (.int .i64 ((rd_T62 t251 x12_1).f0))) (fun _ hk => hk.2) (.int .i64 ((rd_T62 t251 x12_1).f1))) (fun _ hk => hk.2) (.int .i64 ((rd_T62 t251 x12_1).f2))) (fun _ hk => ⟨hk.1.1, hk.1.2⟩)⟩
                 have n2_ : Aside0 ((((w52.setCell ⟨gb255, 0, none⟩ (.int .i64 ((rd_T62 t251 x12_1).f0))).setCell ⟨gb255, 1, none⟩ (.int .i64 ((rd_T62 t251 x12_1).f1))).setCell ⟨gb255, 2, none⟩ (.int .i64 ((rd_T62 t251 x12_1).f2))).heap[gb255]? = some (.cells #[.int .i64 ((rd_T62 t251 x12_1).f0), .int .i64 ((rd_T62 t251 x12_1).f1), .int .i64 ((rd_T62 t251 x12_1).f2)] 62 (0, 0))) := ⟨by (with_reducible repeat (first | refine blk_drewN ?_ _ | refine blk_drew ?_ | refine blk_alloc ?_ _)); refine blk_put (cs := #[.int .i64 ((rd_T62 t251 x12_1).f0), .int .i64 ((rd_T62 t251 x12_1).f1), .int .i64 0]) ?_ 2 _ rfl; (with_reducible repeat (first | refine blk_drewN ?_ _ | refine blk_drew ?_ | refine blk_alloc ?_ _)); refine blk_put (cs := #[.int .i64 ((rd_T62 t251 x12_1).f0), .int .i64 0, .int .i64 0]) ?_ 1 _ rfl; (with_reducible repeat (first | refine blk_drewN ?_ _ | refine blk_drew ?_ | refine blk_alloc ?_ _)); refine blk_put (cs := #[.int .i64 0, .int .i64 0, .int .i64 0]) ?_ 0 _ rfl; (with_reducible repeat (first | refine blk_drewN ?_ _ | refine blk_drew ?_ | refine blk_alloc ?_ _)); exact BK255.out⟩
                 have n3_ : Aside0 (Kept w (((w52.setCell ⟨gb255, 0, none⟩ (.int .i64 ((rd_T62 t251 x12_1).f0))).setCell ⟨gb255, 1, none⟩ (.int .i64 ((rd_T62 t251 x12_1).f1))).setCell ⟨gb255, 2, none⟩ (.int .i64 ((rd_T62 t251 x12_1).f2))) (fun k_ => P0_ k_)) := ⟨by repeat (first | (with_reducible first | exact HK.out | apply Kept.alloc | apply Kept.drewN | apply Kept.drew | refine Kept.setCell ?_ (.inr GW255.out) _) | exact HK.out)⟩
                 have n4_ : Aside0 (Below w0.heap.size w0 (((w52.setCell ⟨gb255, 0, none⟩ (.int .i64 ((rd_T62 t251 x12_1).f0))).setCell ⟨gb255, 1, none⟩ (.int .i64 ((rd_T62 t251 x12_1).f1))).setCell ⟨gb255, 2, none⟩ (.int .i64 ((rd_T62 t251 x12_1).f2)))) := ⟨zG GE255.out⟩
                 (try clear HO_0)
                 (try clear HO_10)
                 (try clear BK255)
                 (try clear HK)
                 (try clear HB)
                 generalize (((w52.setCell ⟨gb255, 0, none⟩ (.int .i64 ((rd_T62 t251 x12_1).f0))).setCell ⟨gb255, 1, none⟩ (.int .i64 ((rd_T62 t251 x12_1).f1))).setCell ⟨gb255, 2, none⟩ (.int .i64 ((rd_T62 t251 x12_1).f2))) = w54 at n0_ n1_ n2_ n3_ n4_ ⊢
                 have HO_0 := n0_
                 have HO_10 := n1_
                 have BK255 := n2_
                 have HK := n3_
                 have HB := n4_
                 clear n0_ n1_ n2_ n3_ n4_
                 have n0_ := Aside0.mk (Kd.R_drew HO_0.out)
                 have n1_ := Aside0.mk (Kd.R_drew HO_10.out)
                 have n2_ := Aside0.mk (blk_drew BK255.out)
                 have n3_ := Aside0.mk (Kept.drew HK.out)
                 have n4_ := Aside0.mk (below_drew1 HB.out)
                 clear HO_0
                 clear HO_10
                 clear BK255
                 clear HK
                 clear HB
                 have HO_0 := n0_
                 have HO_10 := n1_
                 have BK255 := n2_
                 have HK := n3_
                 have HB := n4_
                 clear n0_ n1_ n2_ n3_ n4_
                 have pz260_0 : 0 ≤ (((rd_T62 t251 x12_1).f0) : Int) := zA
                 have pz260_1 : 0 ≤ (((rd_T62 t251 x12_1).f1) : Int) := zA
                 have pz260_2 : 0 ≤ (((rd_T62 t251 x12_1).f2) : Int) := zA
                 have qz260_0 : (((rd_T62 t251 x12_1).f0) : Int) < 7 := zA
                 have qz260_1 : (((rd_T62 t251 x12_1).f1) : Int) < 7 := zA
                 have qz260_2 : (((rd_T62 t251 x12_1).f2) : Int) < 7 := zA
                 have hL260 := (zA : x0_1.length = 344)
                 have dp260 : decide (0 ≤ ((1 + ((rd_T62 t251 x12_1).f0) * 49 + ((rd_T62 t251 x12_1).f1) * 7 + ((rd_T62 t251 x12_1).f2)) : Int)) = true := decide_eq_true (by omega)
                 have dq260 : decide ((1 + ((rd_T62 t251 x12_1).f0) * 49 + ((rd_T62 t251 x12_1).f1) * 7 + ((rd_T62 t251 x12_1).f2)) < (x0_1.length : Int)) = true := decide_eq_true (by omega)
                 clear hL260
                 have p260 : 0 ≤ ((1 + ((rd_T62 t251 x12_1).f0) * 49 + ((rd_T62 t251 x12_1).f1) * 7 + ((rd_T62 t251 x12_1).f2)) : Int) := zA
                 have q260 : (1 + ((rd_T62 t251 x12_1).f0) * 49 + ((rd_T62 t251 x12_1).f1) * 7 + ((rd_T62 t251 x12_1).f2)) < (x0_1.length : Int) := zA
                 obtain ⟨ad260, e260, hx260_0⟩ := Kd.at_int (Kd.R_reads' HO_0.out).2.2 (1 + ((rd_T62 t251 x12_1).f0) * 49 + ((rd_T62 t251 x12_1).f1) * 7 + ((rd_T62 t251 x12_1).f2)) p260 q260
                 obtain rfl : (⟨go5, 0, none⟩ : Addr) = ad260 := (by injection e260)
                 (first | simp only [add_plain] at hx260_0 | simp only [add_at] at hx260_0 | simp only [Addr.add, Nat.zero_add] at hx260_0 | skip)
                 replace p260 := eq_true p260
                 replace q260 := eq_true q260
                 have hw260_0 := hx260_0
                 clear dp260 dq260
                 clear p260 q260
                 rw [show ((1 + ((rd_T62 t251 x12_1).f0) * 49 + ((rd_T62 t251 x12_1).f1) * 7 + ((rd_T62 t251 x12_1).f2)) : Int).toNat = 1 + (((rd_T62 t251 x12_1).f0)).toNat * 49 + (((rd_T62 t251 x12_1).f1)).toNat * 7 + (((rd_T62 t251 x12_1).f2)).toNat from by omega] at hx260_0
                 change _ = some (Value.int .i64 (rd3 x0_1 ((rd_T62 t251 x12_1).f0) ((rd_T62 t251 x12_1).f1) ((rd_T62 t251 x12_1).f2))) at hx260_0
                 rw [show ((1 + ((rd_T62 t251 x12_1).f0) * 49 + ((rd_T62 t251 x12_1).f1) * 7 + ((rd_T62 t251 x12_1).f2)) : Int).toNat = 1 + (((rd_T62 t251 x12_1).f0)).toNat * 49 + (((rd_T62 t251 x12_1).f1)).toNat * 7 + (((rd_T62 t251 x12_1).f2)).toNat from by omega] at hw260_0
                 change _ = some (Value.int .i64 (rd3 x0_1 ((rd_T62 t251 x12_1).f0) ((rd_T62 t251 x12_1).f1) ((rd_T62 t251 x12_1).f2))) at hw260_0
                 replace pz260_0 := eq_true pz260_0
                 replace pz260_1 := eq_true pz260_1
                 replace pz260_2 := eq_true pz260_2
                 replace qz260_0 := eq_true qz260_0
                 replace qz260_1 := eq_true qz260_1
                 replace qz260_2 := eq_true qz260_2
                 refine start_ (n := 22) (S := fun w' => w'.cell? ⟨gb255, 0, none⟩ = some (.int .i64 ((rd_T62 t251 x12_1).f0)) ∧ w'.cell? ⟨gb255, 1, none⟩ = some (.int .i64 ((rd_T62 t251 x12_1).f1)) ∧ w'.cell? ⟨gb255, 2, none⟩ = some (.int .i64 ((rd_T62 t251 x12_1).f2)) ∧ w'.cell? ⟨go5, 1 + (((rd_T62 t251 x12_1).f0)).toNat * 49 + (((rd_T62 t251 x12_1).f1)).toNat * 7 + (((rd_T62 t251 x12_1).f2)).toNat, none⟩ = some (.int .i64 (rd3 x0_1 ((rd_T62 t251 x12_1).f0) ((rd_T62 t251 x12_1).f1) ((rd_T62 t251 x12_1).f2)))) (ds := [21]) #[false, false, false, false, false, false, false, false, false, false, false, false, false, false, false, false, false, false, false, false, false, false] (by kernel_rfl) rfl rfl ⟨(blk_cell BK255.out 0).trans rfl, (blk_cell BK255.out 1).trans rfl, (blk_cell BK255.out 2).trans rfl, hx260_0⟩ (fun hHeld => ?_); refine with_tabW impl_chi_reverse.tab4 impl_chi_reverse.bits4 (fun HT_ HW_ => ?_)
                 generalize w54.drew = w55 at HO_0 HO_10 BK255 HK HB hx260_0 hHeld ⊢
                 refine pure_ (i := 0) (N := some 32) (v := ?_) (a' := ?_) #[true, false, false, false, false, false, false, false, false, false, false, false, false, false, false, false, false, false, false, false, false, false] rfl rfl (any_of HT_.out (by kernel_rfl)) (fun _ _ _ h => h) (Or.inl ⟨by rfl, ?_⟩) ?_ ?_
                 rotate_left
                 ·intro w'
                  go_simp
                  with_reducible rfl
                 rotate_left
                 ·simp only [Act.put, List.setIfInBounds_toArray, List.set_cons_zero, List.set_cons_succ, i64_w, i32_w]
                  rfl
                 refine pure_ (i := 1) (N := some 33) (v := ?_) (a' := ?_) #[true, true, false, false, false, false, false, false, false, false, false, false, false, false, false, false, false, false, false, false, false, false] rfl rfl (any_of HT_.out (by kernel_rfl)) (fun _ _ _ h => h) (Or.inl ⟨by rfl, ?_⟩) ?_ ?_
                 rotate_left
                 ·intro w'
                  go_simp
                  with_reducible rfl
                 rotate_left
                 ·simp only [Act.put, List.setIfInBounds_toArray, List.set_cons_zero, List.set_cons_succ, i64_w, i32_w]
                  rfl
                 refine pure_ (i := 3) (N := some 35) (v := ?_) (a' := ?_) #[true, true, false, true, false, false, false, false, false, false, false, false, false, false, false, false, false, false, false, false, false, false] rfl rfl (any_of HT_.out (by kernel_rfl)) (fun _ _ _ h => h) (Or.inl ⟨by rfl, ?_⟩) ?_ ?_
                 rotate_left
                 ·intro w'
                  go_simp
                  with_reducible rfl
                 rotate_left
                 ·simp only [Act.put, List.setIfInBounds_toArray, List.set_cons_zero, List.set_cons_succ, i64_w, i32_w]
                  rfl
                 refine pure_ (i := 5) (N := some 37) (v := ?_) (a' := ?_) #[true, true, false, true, false, true, false, false, false, false, false, false, false, false, false, false, false, false, false, false, false, false] rfl rfl (any_of HT_.out (by kernel_rfl)) (fun _ _ _ h => h) (Or.inl ⟨by rfl, ?_⟩) ?_ ?_
                 rotate_left
                 ·intro w'
                  go_simp
                  with_reducible rfl
                 rotate_left
                 ·simp only [Act.put, List.setIfInBounds_toArray, List.set_cons_zero, List.set_cons_succ, i64_w, i32_w]
                  rfl
                 refine pure_ (i := 7) (N := some 39) (v := ?_) (a' := ?_) #[true, true, false, true, false, true, false, true, false, false, false, false, false, false, false, false, false, false, false, false, false, false] rfl rfl (any_of HT_.out (by kernel_rfl)) (fun _ _ _ h => h) (Or.inl ⟨by rfl, ?_⟩) ?_ ?_
                 rotate_left
                 ·intro w'
                  go_simp
                  with_reducible rfl
                 rotate_left
                 ·simp only [Act.put, List.setIfInBounds_toArray, List.set_cons_zero, List.set_cons_succ, i64_w, i32_w]
                  rfl
                 refine pure_ (i := 8) (N := some 40) (v := ?_) (a' := ?_) #[true, true, false, true, false, true, false, true, true, false, false, false, false, false, false, false, false, false, false, false, false, false] rfl rfl (any_of HT_.out (by kernel_rfl)) (fun _ _ _ h => h) (Or.inl ⟨by rfl, ?_⟩) ?_ ?_
                 rotate_left
                 ·intro w'
                  go_simp
                  with_reducible rfl
                 rotate_left
                 ·simp only [Act.put, List.setIfInBounds_toArray, List.set_cons_zero, List.set_cons_succ, i64_w, i32_w]
                  rfl
                 refine pure_ (i := 10) (N := some 42) (v := ?_) (a' := ?_) #[true, true, false, true, false, true, false, true, true, false, true, false, false, false, false, false, false, false, false, false, false, false] rfl rfl (any_of HT_.out (by kernel_rfl)) (fun _ _ _ h => h) (Or.inl ⟨by rfl, ?_⟩) ?_ ?_
                 rotate_left
                 ·intro w'
                  go_simp
                  with_reducible rfl
                 rotate_left
                 ·simp only [Act.put, List.setIfInBounds_toArray, List.set_cons_zero, List.set_cons_succ, i64_w, i32_w]
                  rfl
                 refine pure_ (i := 12) (N := some 44) (v := ?_) (a' := ?_) #[true, true, false, true, false, true, false, true, true, false, true, false, true, false, false, false, false, false, false, false, false, false] rfl rfl (any_of HT_.out (by kernel_rfl)) (fun _ _ _ h => h) (Or.inl ⟨by rfl, ?_⟩) ?_ ?_
                 rotate_left
                 ·intro w'
                  go_simp
                  with_reducible rfl
                 rotate_left
                 ·simp only [Act.put, List.setIfInBounds_toArray, List.set_cons_zero, List.set_cons_succ, i64_w, i32_w]
                  rfl
                 refine pure_ (i := 14) (N := some 46) (v := ?_) (a' := ?_) #[true, true, false, true, false, true, false, true, true, false, true, false, true, false, true, false, false, false, false, false, false, false] rfl rfl (any_of HT_.out (by kernel_rfl)) (fun _ _ _ h => h) (Or.inl ⟨by rfl, ?_⟩) ?_ ?_
                 rotate_left
                 ·intro w'
                  go_simp
                  with_reducible rfl
                 rotate_left
                 ·simp only [Act.put, List.setIfInBounds_toArray, List.set_cons_zero, List.set_cons_succ, i64_w, i32_w]
                  rfl
                 refine pure_ (i := 15) (N := some 47) (v := ?_) (a' := ?_) #[true, true, false, true, false, true, false, true, true, false, true, false, true, false, true, true, false, false, false, false, false, false] rfl rfl (any_of HT_.out (by kernel_rfl)) (fun _ _ _ h => h) (Or.inl ⟨by rfl, ?_⟩) ?_ ?_
                 rotate_left
                 ·intro w'
                  go_simp
                  with_reducible rfl
                 rotate_left
                 ·simp only [Act.put, List.setIfInBounds_toArray, List.set_cons_zero, List.set_cons_succ, i64_w, i32_w]
                  rfl
                 refine take_ (i := 2) (N := some 34) (v := ?_) (a' := ?_) #[true, true, true, true, false, true, false, true, true, false, true, false, true, false, true, true, false, false, false, false, false, false] rfl rfl (take_ofW HT_.out HW_.out (by kernel_rfl)) (fun _ _ _ h => h) (Or.inl ⟨by rfl, ?_⟩) hHeld ?_ ?_
                 rotate_left
                 ·rintro w' ⟨s0, s1, s2, s3⟩
                  go_simp
                  with_reducible rfl
                 rotate_left
                 ·simp only [Act.put, List.setIfInBounds_toArray, List.set_cons_zero, List.set_cons_succ, i64_w, i32_w]
                  rfl
                 refine take_ (i := 4) (N := some 36) (v := ?_) (a' := ?_) #[true, true, true, true, true, true, false, true, true, false, true, false, true, false, true, true, false, false, false, false, false, false] rfl rfl (take_ofW HT_.out HW_.out (by kernel_rfl)) (fun _ _ _ h => h) (Or.inl ⟨by rfl, ?_⟩) hHeld ?_ ?_
                 rotate_left
                 ·rintro w' ⟨s0, s1, s2, s3⟩
                  go_simp
                  with_reducible rfl
                 rotate_left
                 ·simp only [Act.put, List.setIfInBounds_toArray, List.set_cons_zero, List.set_cons_succ, i64_w, i32_w]
                  rfl
                 refine take_ (i := 6) (N := some 38) (v := ?_) (a' := ?_) #[true, true, true, true, true, true, true, true, true, false, true, false, true, false, true, true, false, false, false, false, false, false] rfl rfl (take_ofW HT_.out HW_.out (by kernel_rfl)) (fun _ _ _ h => h) (Or.inl ⟨by rfl, ?_⟩) hHeld ?_ ?_
                 rotate_left
                 ·rintro w' ⟨s0, s1, s2, s3⟩
                  go_simp
                  with_reducible rfl
                 rotate_left
                 ·simp only [Act.put, List.setIfInBounds_toArray, List.set_cons_zero, List.set_cons_succ, i64_w, i32_w]
                  rfl
                 refine take_ (i := 9) (N := some 41) (v := ?_) (a' := ?_) #[true, true, true, true, true, true, true, true, true, true, true, false, true, false, true, true, false, false, false, false, false, false] rfl rfl (take_ofW HT_.out HW_.out (by kernel_rfl)) (fun _ _ _ h => h) (Or.inl ⟨by rfl, ?_⟩) hHeld ?_ ?_
                 rotate_left
                 ·rintro w' ⟨s0, s1, s2, s3⟩
                  go_simp
                  with_reducible rfl
                 rotate_left
                 ·simp only [Act.put, List.setIfInBounds_toArray, List.set_cons_zero, List.set_cons_succ, i64_w, i32_w]
                  rfl
                 refine pure_ (i := 16) (N := some 48) (v := ?_) (a' := ?_) #[true, true, true, true, true, true, true, true, true, true, true, false, true, false, true, true, true, false, false, false, false, false] rfl rfl (any_of HT_.out (by kernel_rfl)) (fun _ _ _ h => h) (Or.inl ⟨by rfl, ?_⟩) ?_ ?_
                 rotate_left
                 ·intro w'
                  go_simp
                  with_reducible rfl
                 rotate_left
                 ·simp only [Act.put, List.setIfInBounds_toArray, List.set_cons_zero, List.set_cons_succ, i64_w, i32_w]
                  rfl
                 refine take_ (i := 11) (N := some 43) (v := ?_) (a' := ?_) #[true, true, true, true, true, true, true, true, true, true, true, true, true, false, true, true, true, false, false, false, false, false] rfl rfl (take_ofW HT_.out HW_.out (by kernel_rfl)) (fun _ _ _ h => h) (Or.inl ⟨by rfl, ?_⟩) hHeld ?_ ?_
                 rotate_left
                 ·rintro w' ⟨s0, s1, s2, s3⟩
                  go_simp
                  with_reducible rfl
                 rotate_left
                 ·simp only [Act.put, List.setIfInBounds_toArray, List.set_cons_zero, List.set_cons_succ, i64_w, i32_w]
                  rfl
                 refine pure_ (i := 17) (N := some 49) (v := ?_) (a' := ?_) #[true, true, true, true, true, true, true, true, true, true, true, true, true, false, true, true, true, true, false, false, false, false] rfl rfl (any_of HT_.out (by kernel_rfl)) (fun _ _ _ h => h) (Or.inl ⟨by rfl, ?_⟩) ?_ ?_
                 rotate_left
                 ·intro w'
                  go_simp
                  with_reducible rfl
                 rotate_left
                 ·simp only [Act.put, List.setIfInBounds_toArray, List.set_cons_zero, List.set_cons_succ, i64_w, i32_w]
                  rfl
                 refine take_ (i := 13) (N := some 45) (v := ?_) (a' := ?_) #[true, true, true, true, true, true, true, true, true, true, true, true, true, true, true, true, true, true, false, false, false, false] rfl rfl (take_ofW HT_.out HW_.out (by kernel_rfl)) (fun _ _ _ h => h) (Or.inl ⟨by rfl, ?_⟩) hHeld ?_ ?_
                 rotate_left
                 ·rintro w' ⟨s0, s1, s2, s3⟩
                  go_simp
                  with_reducible rfl
                 rotate_left
                 ·simp only [Act.put, List.setIfInBounds_toArray, List.set_cons_zero, List.set_cons_succ, i64_w, i32_w]
                  rfl
                 refine pure_ (i := 18) (N := some 50) (v := ?_) (a' := ?_) #[true, true, true, true, true, true, true, true, true, true, true, true, true, true, true, true, true, true, true, false, false, false] rfl rfl (any_of HT_.out (by kernel_rfl)) (fun _ _ _ h => h) (Or.inl ⟨by rfl, ?_⟩) ?_ ?_
                 rotate_left
                 ·intro w'
                  go_simp
                  with_reducible rfl
                 rotate_left
                 ·simp only [Act.put, List.setIfInBounds_toArray, List.set_cons_zero, List.set_cons_succ, i64_w, i32_w]
                  rfl
                 refine take_ (i := 19) (N := some 51) (v := ?_) (a' := ?_) #[true, true, true, true, true, true, true, true, true, true, true, true, true, true, true, true, true, true, true, true, false, false] rfl rfl (take_ofW HT_.out HW_.out (by kernel_rfl)) (fun _ _ _ h => h) (Or.inl ⟨by rfl, ?_⟩) hHeld ?_ ?_
                 rotate_left
                 ·rintro w' ⟨s0, s1, s2, s3⟩
                  go_simp
                  with_reducible rfl
                 rotate_left
                 ·simp only [Act.put, List.setIfInBounds_toArray, List.set_cons_zero, List.set_cons_succ, i64_w, i32_w]
                  rfl
                 refine pure_ (i := 20) (N := some 52) (v := ?_) (a' := ?_) #[true, true, true, true, true, true, true, true, true, true, true, true, true, true, true, true, true, true, true, true, true, false] rfl rfl (any_of HT_.out (by kernel_rfl)) (fun _ _ _ h => h) (Or.inl ⟨by rfl, ?_⟩) ?_ ?_
                 rotate_left
                 ·intro w'
                  go_simp
                  with_reducible rfl
                 rotate_left
                 ·simp only [Act.put, List.setIfInBounds_toArray, List.set_cons_zero, List.set_cons_succ, i64_w, i32_w]
                  rfl
                 refine last_ (i := 21) (N := some 53) #[true, true, true, true, true, true, true, true, true, true, true, true, true, true, true, true, true, true, true, true, true, true] rfl rfl (one_of HT_.out (by kernel_rfl)) (by decide) (fun K hK => ?_)
                 refine goes_ Try.func76 (by kernel_rfl) rfl #[.pointer (some ⟨go5, 0, none⟩), .int .i64 ((rd_T62 t251 x12_1).f0), .int .i64 ((rd_T62 t251 x12_1).f1), .int .i64 ((rd_T62 t251 x12_1).f2), .int .i64 (wrap64 (-(rd3 x0_1 ((rd_T62 t251 x12_1).f0) ((rd_T62 t251 x12_1).f1) ((rd_T62 t251 x12_1).f2))))] (by rfl) rfl rfl zM ?_
                 with_reducible refine (impl_chi_set.calls (fun k_ => some k_ = (.slice (some ⟨go5, 0, none⟩) x0_1.length co5 : Value).ownBlock) (.slice (some ⟨go5, 0, none⟩) x0_1.length co5) x0_1 ((rd_T62 t251 x12_1).f0) ((rd_T62 t251 x12_1).f1) ((rd_T62 t251 x12_1).f2) (wrap64 (-(rd3 x0_1 ((rd_T62 t251 x12_1).f0) ((rd_T62 t251 x12_1).f1) ((rd_T62 t251 x12_1).f2)))) t261 w0 _ ?side1 ?side2 A51.out).mono ?_
                 (case side1 => repeat (first | (with_reducible first | exact HB.out | apply below_alloc | apply pw_below_drewN | apply below_drew1 | refine below_set ?_ GE255.out) | exact HB.out))
                 (case side2 => exact Kd.R_tight rfl HO_0.out)
                 rintro e w58 ⟨rfl, hy0, hb, hkp⟩
                 refine ⟨_, rfl, ?_⟩
                 have n0_ := Aside0.mk (Kd.R_reok rfl hy0 (fun k_ e_ => HO_0.out.1 k_ e_))
                 have n1_ := Aside0.mk (Kd.R_mono (ok' := fun k_ => (P0_ k_ ∨ w.heap.size ≤ k_) ∧ k_ ≠ gb255) (Kd.R_keptB ((Kd.R_apart' HO_10.out (Kd.R_typed HO_0.out) (by decide))) hkp (fun k_ hk_ hs_ => (hk_.2) hs_)) (fun k_ hk_ => ⟨hk_.1.1.1, hk_.1.1.2⟩))
                 have n2_ := Aside0.mk (blk_kept (zK BK255.out) hkp (fun hs_ => (fun e_ => (Kd.R_ne HO_0.out BK255.out (by decide)) e_) hs_))
                 have n3_ := Aside0.mk (Kept.then_ (S := (fun k_ => P0_ k_)) (by repeat (first | (with_reducible first | exact HK.out | apply Kept.alloc | apply Kept.drewN | apply Kept.drew | refine Kept.setCell ?_ (.inr GW255.out) _) | exact HK.out)) hkp (fun k_ hs_ => (fun e_ => (HO_0.out.1 k_ e_.symm)) hs_))
                 have n4_ := Aside0.mk (hb)
                 clear HO_0
                 clear HO_10
                 clear BK255
                 clear HK
                 clear HB
                 have HO_0 := n0_
                 have HO_10 := n1_
                 have BK255 := n2_
                 have HK := n3_
                 have HB := n4_
                 clear n0_ n1_ n2_ n3_ n4_
                 (try clear hb)
                 (try clear hkp)
                 (try clear hy0)
                 refine hK.out _ _ ?_
                 clear hK K
                 refine norm_ (a' := ?_) ?_ ?_
                 rotate_left
                 ·show Act.put _ (some 53) _ = _
                  simp only [Act.put, List.setIfInBounds_toArray, List.set_cons_zero, List.set_cons_succ, i64_w, i32_w]
                  rfl
                 refine done_ (done_of HT_.out (by kernel_rfl)) ?_
                 try go_wp2
                 (try simp only [← hl0_1])
                 go_roundg k1
                 case measure => have := HK1.out; omega
                 case rel => exact ⟨(t261), (wrap64 (x12_1 + 1)), zF, H', ⟨by have := HK1.out; omega⟩, ⟨by (try simp only [hl0_1]); (with_reducible repeat (first | apply Kd.R_alloc | apply Kd.R_drewN | apply Kd.R_drew)); exact HO_0.out⟩, ⟨by (try simp only [hl0_1]); (with_reducible repeat (first | apply Kd.R_alloc | apply Kd.R_drewN | apply Kd.R_drew)); exact Kd.R_mono HO_10.out (fun _ hk => hk.1)⟩, ⟨by repeat (first | (with_reducible first | exact HK.out | apply Kept.alloc | apply Kept.drewN | apply Kept.drew | refine Kept.setCell ?_ (.inr GW255.out) _) | exact HK.out)⟩, ⟨zG GE255.out⟩⟩
                ·rw [if_neg c50] at H
                 exact absurd H (by simp)
               ·rw [if_neg c49] at H
                exact absurd H (by simp)
              ·rw [if_neg c48] at H
               exact absurd H (by simp)
             ·rw [if_neg c47] at H
              exact absurd H (by simp)
            ·rw [if_neg c46] at H
             exact absurd H (by simp)
           ·rw [if_neg c45] at H
            exact absurd H (by simp)
          ·rw [if_neg c44] at H
           exact absurd H (by simp)
         ·rw [if_neg c43] at H
          have c43b0 : (((rd_T62 t251 x12_1).f2) == a1) = false := beq_eq_false_iff_ne.mpr c43
          have c43b1 : (((rd_T62 t251 x12_1).f2) != a1) = true := bne_iff_ne.mpr c43
          have H' := Aside0.mk H
          clear H
          have p254 : 0 ≤ (x12_1 : Int) := zA
          have q254 : x12_1 < (t251.length : Int) := zA
          obtain ⟨ad254, e254, hx254_0, hx254_1, hx254_2⟩ := at_T62 (Kd.R_reads' HO_10.out).2.2 x12_1 p254 q254
          cases e254
          replace p254 := eq_true p254
          replace q254 := eq_true q254
          go_wp2_with (first | ((with_reducible refine gate_dst (N := 5) rfl ?_); refine box_event ?hg (N := 5) ?hd (cs := #[.int .i64 0, .int .i64 0, .int .i64 0]) (t := 62) ?hr ?_; (case hd => rfl); (case hg => rfl); (case hr => first | (go_simp; done) | (go_simp; rfl)); intro gb255 hg w59 hbox hb; have n0_ := Aside0.mk (Kd.R_below (zR HO_0.out) hb); have n1_ := Aside0.mk (Kd.R_below (Kd.R_elderB (zR HO_10.out) gb255 (Nat.le_of_eq hg.symm)) hb); have n2_ := Aside0.mk (Kept.below (S := (fun k_ => P0_ k_)) (by repeat (first | (with_reducible first | exact HK.out | apply Kept.alloc | apply Kept.drewN | apply Kept.drew) | exact HK.out)) hb); have n3_ := Aside0.mk (below_step zB hb); have n4_ := Aside0.mk (hbox); have n5_ := Aside0.mk ((by rw [hg]; exact (by first | exact HK.out.1 | exact (show Kept w _ (fun k_ => P0_ k_) from by repeat (first | (with_reducible first | exact HK.out | apply Kept.alloc | apply Kept.drewN | apply Kept.drew) | exact HK.out)).1) : w.heap.size ≤ gb255)); have n6_ := Aside0.mk ((by rw [hg]; exact (below_size zB) : w0.heap.size ≤ gb255)); clear HO_0; clear HO_10; clear HK; clear HB; have HO_0 := n0_; have HO_10 := n1_; have HK := n2_; have HB := n3_; have BK255 := n4_; have GW255 := n5_; have GE255 := n6_; clear n0_ n1_ n2_ n3_ n4_ n5_ n6_; clear hb hbox hg; have hcz60_0 : w59.cell? ⟨gb255, 0, none⟩ = some (.int .i64 0) := (blk_cell BK255.out 0).trans rfl; have hcz60_1 : w59.cell? ⟨gb255, 1, none⟩ = some (.int .i64 0) := (blk_cell BK255.out 1).trans rfl; have hcz60_2 : w59.cell? ⟨gb255, 2, none⟩ = some (.int .i64 0) := (blk_cell BK255.out 2).trans rfl; have hfz60_0 := blk_frozen BK255.out 0; have hfz60_1 := blk_frozen BK255.out 1; have hfz60_2 := blk_frozen BK255.out 2))
          (try simp only [← hl0_1])
          go_roundg k1
          case measure => have := HK1.out; omega
          case rel => exact ⟨(x0_1), (wrap64 (x12_1 + 1)), zF, H', ⟨by have := HK1.out; omega⟩, ⟨by (try simp only [hl0_1]); (with_reducible repeat (first | apply Kd.R_alloc | apply Kd.R_drewN | apply Kd.R_drew)); exact Kd.R_mono (Kd.R_far (p := ⟨gb255, 2, none⟩) (Kd.R_far (p := ⟨gb255, 1, none⟩) (Kd.R_far (p := ⟨gb255, 0, none⟩) (Kd.R_types HO_0.out BK255.out (by decide)) (fun _ hk => hk.2) (.int .i64 ((rd_T62 t251 x12_1).f0))) (fun _ hk => hk.2) (.int .i64 ((rd_T62 t251 x12_1).f1))) (fun _ hk => hk.2) (.int .i64 ((rd_T62 t251 x12_1).f2))) (fun _ hk => hk.1)⟩, ⟨by (try simp only [hl0_1]); (with_reducible repeat (first | apply Kd.R_alloc | apply Kd.R_drewN | apply Kd.R_drew)); exact Kd.R_mono (Kd.R_far (p := ⟨gb255, 2, none⟩) (Kd.R_far (p := ⟨gb255, 1, none⟩) (Kd.R_far (p := ⟨gb255, 0, none⟩) (Kd.R_mono HO_10.out (fun k_ hk => (⟨hk, hk.2⟩ : _ ∧ k_ ≠ gb255))) (fun _ hk => hk.2) (.int .i64 ((rd_T62 t251 x12_1).f0))) (fun _ hk => hk.2) (.int .i64 ((rd_T62 t251 x12_1).f1))) (fun _ hk => hk.2) (.int .i64 ((rd_T62 t251 x12_1).f2))) (fun _ hk => hk.1.1)⟩, ⟨by repeat (first | (with_reducible first | exact HK.out | apply Kept.alloc | apply Kept.drewN | apply Kept.drew | refine Kept.setCell ?_ (.inr GW255.out) _) | exact HK.out)⟩, ⟨zG GE255.out⟩⟩
      ·rw [if_neg c10] at H
       exact absurd H (by simp)
     ·rw [if_neg c9] at H
      exact absurd H (by simp)
    ·rw [if_neg c8] at H
     have c8b0 : decide (x12_1 < (t251.length : Int)) = false := decide_eq_false c8
     clear c8
     obtain rfl := Option.some.inj H
     go_wp2
     first | go_end0 | ((try simp only [Exit.inBlock, Exit.then]); refine bodyPost_ret (results_none rfl _ _ _) rfl ?_)
     exact ⟨zE, (by first | exact (zR HO_0.out) | (simp only [hl0_1]; exact (zR HO_0.out))), zB, by repeat (first | (with_reducible first | exact HK.out | apply Kept.alloc | apply Kept.drewN | apply Kept.drew) | exact HK.out)⟩
 ·rw [if_neg c3] at H
  exact absurd H (by simp)
end Go.Proofs.Ytggbekkinkggfaa.PX
namespace Go.Proofs.Ytggbekkinkggfaa.M
open Go.RowKit Go.Proofs.YtggbekkinkggfaaW.PrintWords Go.Proofs.Ytggbekkinkggfaa.PX Go.Proofs.Ytggbekkinkggfaa.G
/-- Is an element one of a place's three? -/
def hasP (n i p : Nat) : Bool := decide ((tripAt n p).f0 = i) || decide ((tripAt n p).f1 = i) || decide ((tripAt n p).f2 = i)
def revS (n i : Nat) (s : Nat → Int) : Nat → Int := fun p => if hasP n i p then -(s p) else s p
def pmS (n : Nat) (s : Nat → Int) : Prop := ∀ p, p < (tripN n).length → s p = 1 ∨ s p = -1
theorem revS_pm {n i : Nat} {s : Nat → Int} (h : pmS n s) : pmS n (revS n i s) := fun p hp => by
  unfold revS
  rcases h p hp with e | e <;> split <;> omega
theorem revStep_fold (n i : Nat) (d : Nat) : ∀ (p0 : Nat) (s : Nat → Int) (q : Nat), ((List.range' p0 d).foldl (fun s p => if hasP n i p then upd s p (-(s p)) else s) s) q = if p0 ≤ q ∧ q < p0 + d then revS n i s q else s q := by
  induction d with
  | zero =>
    intro p0 s q
    have a1 : ¬ (p0 ≤ q ∧ q < p0 + 0) := by omega
    rw [if_neg a1]; rfl
  | succ d ih =>
    intro p0 s q
    rw [List.range'_succ, List.foldl_cons, ih]
    by_cases hq : q = p0
    · subst hq
      have a1 : ¬ (q + 1 ≤ q ∧ q < q + 1 + d) := by omega
      have a2 : q ≤ q ∧ q < q + (d + 1) := by omega
      rw [if_neg a1, if_pos a2]
      unfold revS
      by_cases g : hasP n i q = true
      · rw [if_pos g, if_pos g, upd_self]
      · rw [if_neg g, if_neg g]
    · have e : (if hasP n i p0 then upd s p0 (-(s p0)) else s) q = s q := by
        split
        · exact upd_ne _ _ hq
        · rfl
      have e' : revS n i (if hasP n i p0 then upd s p0 (-(s p0)) else s) q = revS n i s q := by
        unfold revS
        rw [e]
      rw [e, e']
      by_cases g : p0 + 1 ≤ q ∧ q < p0 + 1 + d
      · have a2 : p0 ≤ q ∧ q < p0 + (d + 1) := by omega
        rw [if_pos g, if_pos a2]
      · have a2 : ¬ (p0 ≤ q ∧ q < p0 + (d + 1)) := by omega
        rw [if_neg g, if_neg a2]
theorem reverse_ev {n i : Nat} {s : Nat → Int} (h0 : 3 ≤ n) (h1 : n ≤ 7) (hs : pmS n s) : Ev (fun k => impl_chi_reverse.f k (tblS n s) (i : Int)) (tblS n (revS n i s)) := by
  unfold impl_chi_reverse.f
  refine ev_pos (tblS_length _ _) ?_
  rw [tblS_n]
  refine Ev.bind (triples_ev h0 h1) ?_
  have hl := trip_len h0 h1
  have h := loop_up' (K := fun s _ => some (tblS n s)) (L := fun p s k => impl_chi_reverse.l0 k (tblS n s) (i : Int) (tripN n) ((tripN n).length : Int) p) (lo := 0) (n := (tripN n).length)
    (fun _ s => pmS n s) (fun s p => .ok (if hasP n i p then upd s p (-(s p)) else s)) (fun s hs => ?_) (fun p _ hp s hs => ?_) (fun p _ hp s hs s' e => ?_) (by omega) s hs
  · rw [foldlM_ok] at h
    refine ev_cast (h _ (Ev.now _)) ?_
    refine tblS_congr fun p hp => ?_
    rw [revStep_fold, if_pos (by omega)]
  · refine Goes.step ?_
    simp only [impl_chi_reverse.l0]
    exact Goes.neg (by omega) (Goes.ok (K := fun s _ => some (tblS n s)) s)
  · obtain ⟨a, b, c, e, hab, hbc, hc, hlk⟩ := trip_at h0 h1 hp
    have hh : hasP n i p = (decide ((a : Int) = i) || decide ((b : Int) = i) || decide ((c : Int) = i)) := by unfold hasP; rw [tripAt_eq hp, e]
    have hset : ∀ v, v = 1 ∨ v = -1 → impl_chi_set.f (tblS n s) (a : Int) (b : Int) (c : Int) v = some (tblS n (upd s p v)) := fun v hv => by
      rw [set_some _ _ _ _ _ (tblS_length _ _) (by omega) (by omega) (by omega) hv]
      simp only [Int.toNat_natCast]
      rw [set_tblS s v h0 h1 (by omega) (by omega) hc (by omega) (by omega) (by omega) hlk]
      rfl
    have hpm := hs p hp
    have hval : wrap64 (-(rd3 (tblS n s) (a : Int) (b : Int) (c : Int))) = -(s p) := by
      rw [tblS_rd n s (by omega) (by omega) (by omega), chiS_at s hlk]
      show wrap64 (-(s p)) = _
      exact wrap_id (by omega) (by omega)
    refine Goes.step ?_
    simp only [impl_chi_reverse.l0, rd_trip hp, e]
    refine Goes.pos (by omega) (Goes.pos (by omega) (Goes.pos (by omega) ?_))
    rw [hval, wrap_id (by omega) (by omega), hh]
    have fin : Goes (ρ := List Int) (.ok (upd s p (-(s p)))) (fun s k => impl_chi_reverse.l0 k (tblS n s) (i : Int) (tripN n) ((tripN n).length : Int) ((p + 1 : Nat) : Int))
        (fun k => if (tblS n s).length = 344 then (if 0 ≤ (a : Int) then (if (a : Int) < 7 then (if 0 ≤ (b : Int) then (if (b : Int) < 7 then (if 0 ≤ (c : Int) then (if (c : Int) < 7 then ((impl_chi_set.f (tblS n s) (a : Int) (b : Int) (c : Int) (-(s p))).bind fun t => impl_chi_reverse.l0 k t (i : Int) (tripN n) ((tripN n).length : Int) ((p : Int) + 1)) else none) else none) else none) else none) else none) else none) else none) := by
      refine Goes.pos (tblS_length _ _) (Goes.pos (by omega) (Goes.pos (by omega) (Goes.pos (by omega) (Goes.pos (by omega) (Goes.pos (by omega) (Goes.pos (by omega) (Goes.call (hset _ (by omega)) ?_)))))))
      exact Goes.ok (K := fun s k => impl_chi_reverse.l0 k (tblS n s) (i : Int) (tripN n) ((tripN n).length : Int) ((p + 1 : Nat) : Int)) _
    by_cases ha : (a : Int) = i
    · rw [decide_eq_true ha]
      exact Goes.pos ha fin
    rw [decide_eq_false ha]
    refine Goes.neg ha ?_
    by_cases hb : (b : Int) = i
    · rw [decide_eq_true hb]
      exact Goes.pos hb fin
    rw [decide_eq_false hb]
    refine Goes.neg hb ?_
    by_cases hcc : (c : Int) = i
    · rw [decide_eq_true hcc]
      exact Goes.pos hcc fin
    rw [decide_eq_false hcc]
    exact Goes.neg hcc (Goes.ok (K := fun s k => impl_chi_reverse.l0 k (tblS n s) (i : Int) (tripN n) ((tripN n).length : Int) ((p + 1 : Nat) : Int)) s)
  · cases e
    intro q hq
    show (if hasP n i p = true then upd s p (-(s p)) else s) q = 1 ∨ _
    have := hs q hq
    split
    · by_cases hqp : q = p
      · subst hqp; rw [upd_self]; omega
      · rw [upd_ne _ _ hqp]; exact this
    · exact this
end Go.Proofs.Ytggbekkinkggfaa.M
namespace Go.Proofs.Ytggbekkinkggfaa.M
open Go.RowKit Go.Proofs.YtggbekkinkggfaaW.PrintWords Go.Proofs.Ytggbekkinkggfaa.PX Go.Proofs.Ytggbekkinkggfaa.G Go.Proofs.YtggbekkinkggfaaW.PrintMore
/-- Is an odd number of three elements in a set? As the reference reckons it. -/
def par (set : Int) (a b c : Nat) : Bool := decide (Go.bits .and .i64 (wrap64 ((wrap64 ((shr .i64 set (IntKind.u64.wrap (a : Int))) + (shr .i64 set (IntKind.u64.wrap (b : Int))))) + (shr .i64 set (IntKind.u64.wrap (c : Int))))) 1 = 1)
theorem u64_nat {a : Nat} (h : a ≤ 1000) : 0 ≤ IntKind.u64.wrap (a : Int) := by
  simp [IntKind.wrap, IntKind.signed, IntKind.bits]; omega
/-- The signs turned by a set of elements. -/
def revB (n : Nat) (set : Int) (s : Nat → Int) : Nat → Int := fun p => if par set (tripAt n p).f0.toNat (tripAt n p).f1.toNat (tripAt n p).f2.toNat then -(s p) else s p
theorem revB_pm {n : Nat} {set : Int} {s : Nat → Int} (h : pmS n s) : pmS n (revB n set s) := fun p hp => by
  unfold revB
  rcases h p hp with e | e <;> split <;> omega
theorem l4Reverse_ev {n : Nat} {t : ByteArray} (h : areOk n t = true) (set : Int) : Ev (fun k => spec_l4Reverse.f k (n : Int) t set) ((n : Int), txtS n (revB n set (sgB t))) := by
  obtain ⟨⟨h0, h1⟩, _, _⟩ := (areOk_iff _ _).1 h
  have h0 : 3 ≤ n := by omega
  have h1 : n ≤ 7 := by omega
  unfold spec_l4Reverse.f
  have key := loops3B (σ := List UInt8) (ρ := Int × ByteArray) (n := n) (K := fun u _ => some ((n : Int), mkB u)) (L0 := fun a u k => spec_l4Reverse.l0 k set a (n : Int) t (n : Int) (mkB u)) (L1 := fun a b u k => spec_l4Reverse.l1 k set a b (n : Int) t (n : Int) (mkB u))
    (L2 := fun a b c u k => spec_l4Reverse.l2 k set a b c (n : Int) t (n : Int) (mkB u)) h1 List.length 0 (fun u q => .ok (u ++ [sgC (if par set q.1 q.2.1 q.2.2 then -(chi n t q.1 q.2.1 q.2.2) else chi n t q.1 q.2.1 q.2.2)]))
    (foldlM_okL _ _ fun s a => by rw [List.length_append]; exact Nat.le_refl _) (fun u => ?_) (fun a ha u => ?_) (fun a ha u => ?_) (fun a b hab hb u => ?_) (fun a b hab hb u => ?_) (fun a b c hab hbc hc u hu => ?_) [] (Nat.le_refl _)
  · rw [foldlM_ok, foldl_snoc, List.nil_append] at key
    refine ev_cast (key _ (Ev.now _)) ?_
    refine Prod.ext rfl ?_
    show mkB _ = txtS n _
    unfold txtS
    congr 1
    have e := tripN_L h0 h1
    have el : (tripsL n).length = (tripN n).length := by rw [e, List.length_map]
    refine List.ext_getElem (by rw [List.length_map, List.length_map, List.length_range, el]) fun p hp1 hp2 => ?_
    rw [List.length_map, List.length_range] at hp2
    obtain ⟨a, b, c, e1, hab, hbc, hc, hlk⟩ := trip_at h0 h1 hp2
    simp only [List.getElem_map, List.getElem_range, revB, tripAt_eq hp2, e1, Int.toNat_natCast]
    have e2 : (tripsL n)[p]'(by rw [el]; exact hp2) = (a, b, c) := by
      have : (tripN n)[p] = ⟨(((tripsL n)[p]'(by rw [el]; exact hp2)).1 : Int), (((tripsL n)[p]'(by rw [el]; exact hp2)).2.1 : Int), (((tripsL n)[p]'(by rw [el]; exact hp2)).2.2 : Int)⟩ := by
        simp only [e, List.getElem_map]
      rw [e1] at this
      injection this with i1 i2 i3
      refine Prod.ext ?_ (Prod.ext ?_ ?_)
      · exact (Int.ofNat_inj.1 i1).symm
      · exact (Int.ofNat_inj.1 i2).symm
      · exact (Int.ofNat_inj.1 i3).symm
    rw [e2, chi_chiS, chiS_at _ hlk]
    rfl
  · refine Goes.step ?_
    simp only [spec_l4Reverse.l0]
    exact Goes.neg (by omega) (Goes.ok (K := fun u _ => some ((n : Int), mkB u)) u)
  · refine Goes.step ?_
    simp only [spec_l4Reverse.l0]
    refine Goes.pos (by omega) ?_
    rw [wrap_id (by omega) (by omega)]
    exact Goes.ok (K := fun u k => spec_l4Reverse.l1 k set (a : Int) ((a + 1 : Nat) : Int) (n : Int) t (n : Int) (mkB u)) u
  · refine Goes.step ?_
    simp only [spec_l4Reverse.l1]
    refine Goes.neg (by omega) ?_
    rw [wrap_id (by omega) (by omega)]
    exact Goes.ok (K := fun u k => spec_l4Reverse.l0 k set ((a + 1 : Nat) : Int) (n : Int) t (n : Int) (mkB u)) u
  · refine Goes.step ?_
    simp only [spec_l4Reverse.l1]
    refine Goes.pos (by omega) ?_
    rw [wrap_id (by omega) (by omega)]
    exact Goes.ok (K := fun u k => spec_l4Reverse.l2 k set (a : Int) (b : Int) ((b + 1 : Nat) : Int) (n : Int) t (n : Int) (mkB u)) u
  · refine Goes.step ?_
    simp only [spec_l4Reverse.l2]
    refine Goes.neg (by omega) ?_
    rw [wrap_id (by omega) (by omega)]
    exact Goes.ok (K := fun u k => spec_l4Reverse.l1 k set (a : Int) ((b + 1 : Nat) : Int) (n : Int) t (n : Int) (mkB u)) u
  · refine Goes.step ?_
    simp only [spec_l4Reverse.l2]
    refine Goes.pos (by omega) (Goes.ev (l3At_ev h (by omega) (by omega) hc (by omega) (by omega) (by omega)) (Goes.pos (u64_nat (by omega)) (Goes.pos (u64_nat (by omega)) (Goes.pos (u64_nat (by omega)) ?_))))
    have hpm := chi_pm (a := a) (b := b) (c := c) t h0 h1 (by omega) (by omega) hc (by omega) (by omega) (by omega)
    rw [wrap_id (x := (c : Int) + 1) (by omega) (by omega)]
    have fin : ∀ v, Goes (ρ := Int × ByteArray) (.ok (u ++ [sgC v])) (fun u k => spec_l4Reverse.l2 k set (a : Int) (b : Int) ((c + 1 : Nat) : Int) (n : Int) t (n : Int) (mkB u)) (fun k => if (mkB u).size + (mkB [sgC v]).size ≤ 9223372036854775807 then spec_l4Reverse.l2 k set (a : Int) (b : Int) ((c : Int) + 1) (n : Int) t (n : Int) (mkB u ++ mkB [sgC v]) else none) := fun v => by
      refine Goes.pos (by rw [mkB_size, mkB_size, List.length_cons, List.length_nil]; omega) ?_
      rw [mkB_append]
      exact Goes.ok (K := fun u k => spec_l4Reverse.l2 k set (a : Int) (b : Int) ((c + 1 : Nat) : Int) (n : Int) t (n : Int) (mkB u)) _
    by_cases g : par set a b c = true
    · refine Goes.pos (of_decide_eq_true g) (Goes.call (byte_ev _) ?_)
      rw [wrap_id (by omega) (by omega)]
      simp only [g, if_true]
      exact fin _
    · refine Goes.neg (fun e => g (decide_eq_true e)) (Goes.call (byte_ev _) ?_)
      simp only [g]
      exact fin _
end Go.Proofs.Ytggbekkinkggfaa.M
