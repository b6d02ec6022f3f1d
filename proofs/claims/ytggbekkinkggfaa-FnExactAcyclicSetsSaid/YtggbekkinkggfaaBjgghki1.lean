/- A part of proofs about signs and points: what some functions answer, and that their calls answer so. No condition. -/
import Derived.Test.YtggbekkinkggfaaProg
import Derived.Test.YtggbekkinkggfaaV1
import Derived.Test.YtggbekkinkggfaaBmrvfln1
set_option linter.unusedVariables false
set_option linter.unusedSimpArgs false
namespace Go.Proofs.Ytggbekkinkggfaa.PX
open Go.RowKit Go.Proofs.Ytggbekkinkggfaa.G Go.Proofs.YtggbekkinkggfaaW.PrintWords Go.Proofs.YtggbekkinkggfaaW.PrintLast Go.Proofs.YtggbekkinkggfaaW.PrintMore
attribute [local go_sem] max2_int min2_int max_two min_two max_three min_three max_four min_four   -- for this text's walks alone
set_option linter.unusedVariables false
set_option linter.unusedSimpArgs false
/-! ### impl_quadsOf: function 77 -/
mutual
def impl_quadsOf.l0 : Nat → Int → List (S80) → List (S62) → Int → Int → Option ((List (S80)))
 | 0, _, _, _, _, _ => none
 | k + 1, x0, x3, x8, x9, x10 => if x10 < x9 then (if 0 ≤ x10 then (if x10 < (x8.length : Int) then (impl_quadsOf.l1 k x0 x3 (wrap64 (((rd_T62 x8 x10).f2) + 1)) x8 x9 x10 ((rd_T62 x8 x10).f0) ((rd_T62 x8 x10).f1) ((rd_T62 x8 x10).f2)) else (none)) else (none)) else (some x3)
def impl_quadsOf.l1 : Nat → Int → List (S80) → Int → List (S62) → Int → Int → Int → Int → Int → Option ((List (S80)))
 | 0, _, _, _, _, _, _, _, _, _ => none
 | k + 1, x0, x3, x6, x8, x9, x10, x339000, x339001, x339002 => if x6 < x0 then (if x3.length < 4398046511104 then (impl_quadsOf.l1 k x0 (x3 ++ [(⟨x339000, x339001, x339002, x6⟩ : S80)]) (wrap64 (x6 + 1)) x8 x9 x10 x339000 x339001 x339002) else (none)) else (impl_quadsOf.l0 k x0 x3 x8 x9 (wrap64 (x10 + 1)))
end
def impl_quadsOf.f (k : Nat) (a0 : Int) : Option ((List (S80))) := (impl_triplesOf.f k a0).bind fun t334 => (impl_quadsOf.l0 k a0 ([] : List (S80)) t334 (t334.length : Int) 0)
theorem impl_quadsOf.mono_l : ∀ k, (∀ y0 y1 y2 y3 y4, LeO (impl_quadsOf.l0 k y0 y1 y2 y3 y4) (impl_quadsOf.l0 (k + 1) y0 y1 y2 y3 y4)) ∧ (∀ y0 y1 y2 y3 y4 y5 y6 y7 y8, LeO (impl_quadsOf.l1 k y0 y1 y2 y3 y4 y5 y6 y7 y8) (impl_quadsOf.l1 (k + 1) y0 y1 y2 y3 y4 y5 y6 y7 y8))
 | 0 => ⟨fun _ _ _ _ _ r h => by simp [impl_quadsOf.l0] at h, fun _ _ _ _ _ _ _ _ _ r h => by simp [impl_quadsOf.l1] at h⟩
 | k + 1 => by
  obtain ⟨ih0, ih1⟩ := impl_quadsOf.mono_l k
  refine ⟨?_, ?_⟩
  ·intro y0 y1 y2 y3 y4
   unfold impl_quadsOf.l0
   repeat' first
   | (with_reducible exact ih0 _ _ _ _ _)
   | (with_reducible exact ih1 _ _ _ _ _ _ _ _ _)
   | (with_reducible exact impl_triplesOf.mono _ _)
   | (with_reducible exact LeO.refl _)
   | (with_reducible exact LeO.none _)
   | (with_reducible refine LeO.ite ?_ ?_)
   | (with_reducible refine LeO.bind ?_ (fun _ => ?_))
   | exact ih0 _ _ _ _ _
   | exact ih1 _ _ _ _ _ _ _ _ _
   | exact impl_triplesOf.mono _ _
   | exact LeO.none _
   | refine LeO.ite ?_ ?_
   | refine LeO.bind ?_ (fun _ => ?_)
  ·intro y0 y1 y2 y3 y4 y5 y6 y7 y8
   unfold impl_quadsOf.l1
   repeat' first
   | (with_reducible exact ih0 _ _ _ _ _)
   | (with_reducible exact ih1 _ _ _ _ _ _ _ _ _)
   | (with_reducible exact impl_triplesOf.mono _ _)
   | (with_reducible exact LeO.refl _)
   | (with_reducible exact LeO.none _)
   | (with_reducible refine LeO.ite ?_ ?_)
   | (with_reducible refine LeO.bind ?_ (fun _ => ?_))
   | exact ih0 _ _ _ _ _
   | exact ih1 _ _ _ _ _ _ _ _ _
   | exact impl_triplesOf.mono _ _
   | exact LeO.none _
   | refine LeO.ite ?_ ?_
   | refine LeO.bind ?_ (fun _ => ?_)
theorem impl_quadsOf.mono : ∀ a0 k, LeO (impl_quadsOf.f k a0) (impl_quadsOf.f (k + 1) a0) := by
 intro a0 k
 obtain ⟨ih0, ih1⟩ := impl_quadsOf.mono_l k
 unfold impl_quadsOf.f
 repeat' first
   | (with_reducible exact ih0 _ _ _ _ _)
   | (with_reducible exact ih1 _ _ _ _ _ _ _ _ _)
   | (with_reducible exact impl_triplesOf.mono _ _)
   | (with_reducible exact LeO.refl _)
   | (with_reducible exact LeO.none _)
   | (with_reducible refine LeO.ite ?_ ?_)
   | (with_reducible refine LeO.bind ?_ (fun _ => ?_))
   | exact ih0 _ _ _ _ _
   | exact ih1 _ _ _ _ _ _ _ _ _
   | exact impl_triplesOf.mono _ _
   | exact LeO.none _
   | refine LeO.ite ?_ ?_
   | refine LeO.bind ?_ (fun _ => ?_)
set_option maxHeartbeats 8000000 in
set_option maxRecDepth 100000 in
theorem impl_quadsOf.calls (k : Nat) (a0 : Int) (r : List (S80)) (w : World) (h : impl_quadsOf.f k a0 = some r) :
  Calls Try.prog 77 #[.int .i64 a0] w fun e w' => ∃ v0_ : Value, e = .returned (v0_) ∧ Kd.R k80 80 w' w.heap.size (fun _ => True) v0_ r ∧ Below w.heap.size w w' := by
 have hu62 := Try.underlying62
 have hu80 := Try.underlying80
 have HB := Aside0.mk (Below.refl w.heap.size w)
 have H : ((impl_triplesOf.f k a0).bind fun t334 => (impl_quadsOf.l0 k a0 ([] : List (S80)) t334 (t334.length : Int) 0)) = some r := h
 clear h
 replace H := Option.bind_eq_some_iff.mp H
 obtain ⟨t334, A20, H⟩ := H
 replace H : (impl_quadsOf.l0 k a0 ([] : List (S80)) t334 (t334.length : Int) 0) = some r := H
 have A2 := Aside0.mk A20
 clear A20
 have H' := Aside0.mk H
 clear H
 go_enter Try.func77, Try.ntmps77
 go_wp2_with (first | ((with_reducible refine gate_callee (f := 59) rfl ?_); refine goesL_ (some 8) rfl rfl Try.func59 (by kernel_rfl) rfl #[.int .i64 a0] rfl zM ?_; (with_reducible refine (impl_triplesOf.calls k a0 t334 _ A2.out).mono ?_); rintro e w3 ⟨v335, rfl, ho0, hb⟩; refine ⟨_, rfl, ?_⟩; have n0_ := Aside0.mk (Kd.R_lower ho0 (below_size zB)); have n1_ := Aside0.mk (below_step zB hb); clear HB; have HO336 := n0_; have HB := n1_; clear n0_ n1_; (try clear hb); (try clear hb2); (try clear hk); (try clear hi); (try clear ho0); obtain ⟨Ao4, co4, eo4⟩ := Kd.R_slice HO336.out; subst eo4))
 go_loopg [3, 10] k (fun kq v3 v10 w' => ∃ (x3_1 : List (S80)) (x10_1 : Int), v10 = .int .i64 x10_1 ∧ Aside0 (impl_quadsOf.l0 kq a0 x3_1 t334 (t334.length : Int) x10_1 = some r) ∧ Aside0 (kq ≤ k) ∧ Aside0 (Kd.R k80 80 w' w.heap.size (fun _ => True) v3 x3_1) ∧ Aside0 (Kd.R k62 62 w' w.heap.size (fun _ => True) (.slice Ao4 t334.length co4) t334) ∧ Aside0 (Below w.heap.size w w'))
 case atStart => exact ⟨(([] : List (S80))), (0), zF, H', ⟨Nat.le_refl _⟩, ⟨by first | exact Kd.R_nil _ _ _ _ _ | exact Kd.N_nil _ _ _ _ _ | exact Kd.V_nil _ _ _ _ _ | exact Kd.Q_nil _ _ _ _ _ | exact Kd.S_nil _ _ _ _ _⟩, ⟨zR HO336.out⟩, ⟨zB⟩⟩
 case round =>
  clear H'
  try clear p2
  obtain ⟨x3_1, x10_1, rfl, HA, HK1, HO_3, HO_8, HB⟩ := hrel
  cases gk with
  | zero => exact absurd HA.out (by simp [impl_quadsOf.l0])
  | succ k1 =>
   have H := HA.out
   clear HA
   simp only [impl_quadsOf.l0] at H
   by_cases c5 : x10_1 < (t334.length : Int)
   ·rw [if_pos c5] at H
    have c5b0 : decide (x10_1 < (t334.length : Int)) = true := decide_eq_true c5
    clear c5
    by_cases c6 : 0 ≤ x10_1
    ·rw [if_pos c6] at H
     have c6b0 : decide (0 ≤ x10_1) = true := decide_eq_true c6
     clear c6
     by_cases c7 : x10_1 < (t334.length : Int)
     ·rw [if_pos c7] at H
      have c7b0 : decide (x10_1 < (t334.length : Int)) = true := decide_eq_true c7
      clear c7
      have H' := Aside0.mk H
      clear H
      have p337 : 0 ≤ (x10_1 : Int) := zA
      have q337 : x10_1 < (t334.length : Int) := zA
      obtain ⟨ad337, e337, hx337_0, hx337_1, hx337_2⟩ := at_T62 (Kd.R_reads' HO_8.out).2.2 x10_1 p337 q337
      cases e337
      replace p337 := eq_true p337
      replace q337 := eq_true q337
      go_wp2_with (first | ((with_reducible refine gate_dst (N := 5) rfl ?_); refine box_event ?hg (N := 5) ?hd (cs := #[.int .i64 0, .int .i64 0, .int .i64 0]) (t := 62) ?hr ?_; (case hd => rfl); (case hg => rfl); (case hr => first | (go_simp; done) | (go_simp; rfl)); intro gb338 hg w8 hbox hb; have n0_ := Aside0.mk (Kd.R_below (zR HO_3.out) hb); have n1_ := Aside0.mk (Kd.R_below (Kd.R_elderB (zR HO_8.out) gb338 (Nat.le_of_eq hg.symm)) hb); have n2_ := Aside0.mk (below_step zB hb); have n3_ := Aside0.mk (hbox); have n4_ := Aside0.mk ((by rw [hg]; exact (below_size zB) : w.heap.size ≤ gb338)); have n5_ := Aside0.mk ((by rw [hg]; exact (below_size zB) : w.heap.size ≤ gb338)); clear HO_3; clear HO_8; clear HB; have HO_3 := n0_; have HO_8 := n1_; have HB := n2_; have BK338 := n3_; have GW338 := n4_; have GE338 := n5_; clear n0_ n1_ n2_ n3_ n4_ n5_; clear hb hbox hg; have hcz9_0 : w8.cell? ⟨gb338, 0, none⟩ = some (.int .i64 0) := (blk_cell BK338.out 0).trans rfl; have hcz9_1 : w8.cell? ⟨gb338, 1, none⟩ = some (.int .i64 0) := (blk_cell BK338.out 1).trans rfl; have hcz9_2 : w8.cell? ⟨gb338, 2, none⟩ = some (.int .i64 0) := (blk_cell BK338.out 2).trans rfl; have hfz9_0 := blk_frozen BK338.out 0; have hfz9_1 := blk_frozen BK338.out 1; have hfz9_2 := blk_frozen BK338.out 2))
      go_loopg [3, 6] k1 (fun kq v3 v6 w' => ∃ (x3_2 : List (S80)) (x6_2 : Int), v6 = .int .i64 x6_2 ∧ Aside0 (impl_quadsOf.l1 kq a0 x3_2 x6_2 t334 (t334.length : Int) x10_1 ((rd_T62 t334 x10_1).f0) ((rd_T62 t334 x10_1).f1) ((rd_T62 t334 x10_1).f2) = some r) ∧ Aside0 (kq ≤ k1) ∧ Aside0 (Kd.R k80 80 w' w.heap.size (fun _ => True) v3 x3_2) ∧ Aside0 (Kd.R k62 62 w' w.heap.size (fun k_ => k_ ≠ gb338) (.slice (some ad337) t334.length co4) t334) ∧ Aside0 (w'.heap[gb338]? = some (.cells #[.int .i64 ((rd_T62 t334 x10_1).f0), .int .i64 ((rd_T62 t334 x10_1).f1), .int .i64 ((rd_T62 t334 x10_1).f2)] 62 (0, 0))) ∧ Aside0 (Below w.heap.size w w'))
      case atStart => exact ⟨(x3_1), (wrap64 (((rd_T62 t334 x10_1).f2) + 1)), zF, H', ⟨Nat.le_refl _⟩, ⟨by (with_reducible repeat (first | apply Kd.R_alloc | apply Kd.R_drewN | apply Kd.R_drew)); exact Kd.R_mono (Kd.R_far (p := ⟨gb338, 2, none⟩) (Kd.R_far (p := ⟨gb338, 1, none⟩) (Kd.R_far (p := ⟨gb338, 0, none⟩) (Kd.R_types HO_3.out BK338.out (by decide)) (fun _ hk => hk.2) (.int .i64 ((rd_T62 t334 x10_1).f0))) (fun _ hk => hk.2) (.int .i64 ((rd_T62 t334 x10_1).f1))) (fun _ hk => hk.2) (.int .i64 ((rd_T62 t334 x10_1).f2))) (fun _ hk => trivial)⟩, ⟨by (with_reducible repeat (first | apply Kd.R_alloc | apply Kd.R_drewN | apply Kd.R_drew)); exact Kd.R_mono (Kd.R_far (p := ⟨gb338, 2, none⟩) (Kd.R_far (p := ⟨gb338, 1, none⟩) (Kd.R_far (p := ⟨gb338, 0, none⟩) (Kd.R_mono HO_8.out (fun k_ hk => (⟨hk, hk.2⟩ : _ ∧ k_ ≠ gb338))) (fun _ hk => hk.2) (.int .i64 ((rd_T62 t334 x10_1).f0))) (fun _ hk => hk.2) (.int .i64 ((rd_T62 t334 x10_1).f1))) (fun _ hk => hk.2) (.int .i64 ((rd_T62 t334 x10_1).f2))) (fun _ hk => hk.1.2)⟩, ⟨by (with_reducible repeat (first | refine blk_drewN ?_ _ | refine blk_drew ?_ | refine blk_alloc ?_ _)); refine blk_put (cs := #[.int .i64 ((rd_T62 t334 x10_1).f0), .int .i64 ((rd_T62 t334 x10_1).f1), .int .i64 0]) ?_ 2 _ rfl; (with_reducible repeat (first | refine blk_drewN ?_ _ | refine blk_drew ?_ | refine blk_alloc ?_ _)); refine blk_put (cs := #[.int .i64 ((rd_T62 t334 x10_1).f0), .int .i64 0, .int .i64 0]) ?_ 1 _ rfl; (with_reducible repeat (first | refine blk_drewN ?_ _ | refine blk_drew ?_ | refine blk_alloc ?_ _)); refine blk_put (cs := #[.int .i64 0, .int .i64 0, .int .i64 0]) ?_ 0 _ rfl; (with_reducible repeat (first | refine blk_drewN ?_ _ | refine blk_drew ?_ | refine blk_alloc ?_ _)); exact BK338.out⟩, ⟨zG GE338.out⟩⟩
      case round =>
       clear H'
       try clear p2
       try clear p3
       try clear q3
       try clear hx3
       try clear c5
       try clear c5b0
       try clear c6
       try clear c6b0
       try clear p6
       try clear c7
       try clear c7b0
       try clear hcz9_0
       try clear hcz9_1
       try clear hcz9_2
       try clear hfz9_0
       try clear hfz9_1
       try clear hfz9_2
       try clear hx337_0
       try clear hx337_1
       try clear hx337_2
       try clear p2
       try clear p337
       try clear q337
       obtain ⟨x3_2, x6_2, rfl, HA, HK2, HO_3, HO_8, BK338, HB⟩ := hrel
       cases gk with
       | zero => exact absurd HA.out (by simp [impl_quadsOf.l1])
       | succ k2 =>
        have H := HA.out
        clear HA
        simp only [impl_quadsOf.l1] at H
        by_cases c10 : x6_2 < a0
        ·rw [if_pos c10] at H
         have c10b0 : decide (x6_2 < a0) = true := decide_eq_true c10
         clear c10
         by_cases c11 : x3_2.length < 4398046511104
         ·rw [if_pos c11] at H
          have LMc11 := Aside0.mk c11
          clear c11
          obtain ⟨y339, hy339⟩ : ∃ y_ : List (S80), y_ = (x3_2 ++ [(⟨((rd_T62 t334 x10_1).f0), ((rd_T62 t334 x10_1).f1), ((rd_T62 t334 x10_1).f2), x6_2⟩ : S80)]) := ⟨_, rfl⟩
          replace H : (impl_quadsOf.l1 k2 a0 y339 (wrap64 (x6_2 + 1)) t334 (t334.length : Int) x10_1 ((rd_T62 t334 x10_1).f0) ((rd_T62 t334 x10_1).f1) ((rd_T62 t334 x10_1).f2)) = some r := by first | (rw [hy339]; with_reducible exact H) | (have H2_ := (Option.bind_some _ _).symm.trans H; rw [hy339]; with_reducible exact H2_) | (have H2_ := (Option.bind_some _ _).symm.trans H; with_reducible exact H2_) | with_reducible exact H | (rw [hy339]; exact H) | exact H
          have Ny339 := Aside0.mk hy339
          clear hy339
          have H' := Aside0.mk H
          clear H
          have hcz12_0 : wr.cell? ⟨gb338, 0, none⟩ = some (.int .i64 ((rd_T62 t334 x10_1).f0)) := (blk_cell BK338.out 0).trans rfl
          have hcz12_1 : wr.cell? ⟨gb338, 1, none⟩ = some (.int .i64 ((rd_T62 t334 x10_1).f1)) := (blk_cell BK338.out 1).trans rfl
          have hcz12_2 : wr.cell? ⟨gb338, 2, none⟩ = some (.int .i64 ((rd_T62 t334 x10_1).f2)) := (blk_cell BK338.out 2).trans rfl
          have hfz12_0 := blk_frozen BK338.out 0
          have hfz12_1 := blk_frozen BK338.out 1
          have hfz12_2 := blk_frozen BK338.out 2
          go_wp2_with (first | ((with_reducible refine gate_builtin (b := .append) (xs := #[.tmp 22, .tmp 31]) rfl ?_); at_builtin; refine Kd.R_append k80 (w0 := w) w.heap.size rfl (.tmp 22) (.tmp 31) 78 80 (.agg #[(.int .i64 0), (.int .i64 0), (.int .i64 0), (.int .i64 0)]) 32 rfl Try.underlying78 info80 rfl (by decide) (by omega) u3 x3_2 (⟨((rd_T62 t334 x10_1).f0), ((rd_T62 t334 x10_1).f1), ((rd_T62 t334 x10_1).f2), x6_2⟩ : S80) [.int .i64 ((rd_T62 t334 x10_1).f0), .int .i64 ((rd_T62 t334 x10_1).f1), .int .i64 ((rd_T62 t334 x10_1).f2), .int .i64 x6_2] (fun _ => True) (fun _ => False) rfl rfl ?aP (fun _ hk => hk.elim) ?aF ?aO ?aB ?aS ?aL ?_; (case aP => exact k80_mkM _ _ _ (⟨((rd_T62 t334 x10_1).f0), ((rd_T62 t334 x10_1).f1), ((rd_T62 t334 x10_1).f2), x6_2⟩ : S80)); (case aB => exact (zG GE338.out)); (case aF => exact (fun _ _ => trivial)); (case aO => exact (zR HO_3.out)); (case aS => exact (below_size (zG GE338.out))); (case aL => have := LMc11.out; omega); intro v340 w13 ho hb hg hat; rw [← Ny339.out] at ho; have n0_ := Aside0.mk (Kd.R_over' (zR HO_8.out) (Kd.R_typed (zR HO_3.out)) (by decide) hg); have n1_ := Aside0.mk (blk_grown (g := gb338) (o := .cells #[.int .i64 ((rd_T62 t334 x10_1).f0), .int .i64 ((rd_T62 t334 x10_1).f1), .int .i64 ((rd_T62 t334 x10_1).f2)] 62 (0, 0)) (zK BK338.out) hg (Kd.R_ne HO_3.out BK338.out (by decide))); have n2_ := Aside0.mk (hb); have n3_ := Aside0.mk (ho); clear HO_8; clear BK338; clear HB; clear HO_3; have HO_8 := n0_; have BK338 := n1_; have HB := n2_; have HO341 := n3_; clear n0_ n1_ n2_ n3_; clear ho hb hg hat))
          go_roundg k2
          case measure => have := HK1.out; have := HK2.out; omega
          case rel => exact ⟨(y339), (wrap64 (x6_2 + 1)), zF, H', ⟨by have := HK1.out; have := HK2.out; omega⟩, ⟨zR HO341.out⟩, ⟨zR HO_8.out⟩, ⟨zK BK338.out⟩, ⟨zG GE338.out⟩⟩
         ·rw [if_neg c11] at H
          exact absurd H (by simp)
        ·rw [if_neg c10] at H
         have c10b0 : decide (x6_2 < a0) = false := decide_eq_false c10
         clear c10
         have H' := Aside0.mk H
         clear H
         go_wp2
         go_roundg k2
         case measure => have := HK1.out; have := HK2.out; omega
         case rel => exact ⟨(x3_2), (wrap64 (x10_1 + 1)), zF, H', ⟨by have := HK1.out; have := HK2.out; omega⟩, ⟨zR HO_3.out⟩, ⟨by (with_reducible repeat (first | apply Kd.R_alloc | apply Kd.R_drewN | apply Kd.R_drew)); exact Kd.R_mono HO_8.out (fun _ hk => trivial)⟩, ⟨zG GE338.out⟩⟩
     ·rw [if_neg c7] at H
      exact absurd H (by simp)
    ·rw [if_neg c6] at H
     exact absurd H (by simp)
   ·rw [if_neg c5] at H
    have c5b0 : decide (x10_1 < (t334.length : Int)) = false := decide_eq_false c5
    clear c5
    obtain rfl := Option.some.inj H
    go_wp2
    go_ret
    exact ⟨_, zE, zR HO_3.out, zB⟩
/-! ### impl_chi_breaks: function 78 -/
def impl_chi_breaks.f (l0 : List Int) (a1 : Int) (a2 : Int) (a3 : Int) (a4 : Int) (a5 : Int) : Option (Bool) := if 0 ≤ a1 then (if a1 < 7 then (if 0 ≤ a2 then (if a2 < 7 then (if 0 ≤ a3 then (if a3 < 7 then (if 0 ≤ a4 then (if a4 < 7 then (if 0 ≤ a5 then (if a5 < 7 then (if (wrap64 ((rd3 l0 a1 a2 a3) * (rd3 l0 a1 a4 a5))) = (wrap64 ((rd3 l0 a1 a2 a5) * (rd3 l0 a1 a3 a4))) then (some ((wrap64 ((rd3 l0 a1 a2 a5) * (rd3 l0 a1 a3 a4))) == (wrap64 ((wrap64 (-(rd3 l0 a1 a2 a4))) * (rd3 l0 a1 a3 a5))))) else (some false)) else (none)) else (none)) else (none)) else (none)) else (none)) else (none)) else (none)) else (none)) else (none)) else (none)
set_option maxHeartbeats 8000000 in
set_option maxRecDepth 100000 in
theorem impl_chi_breaks.calls (g0 : Nat) (l0 : List Int) (a1 : Int) (a2 : Int) (a3 : Int) (a4 : Int) (a5 : Int) (r : Bool) (w : World) (hr0 : Kd.C (Kd.int .i64) w (some ⟨g0, 0, none⟩) l0.length l0) (hc0 : l0.length = 344) (h : impl_chi_breaks.f l0 a1 a2 a3 a4 a5 = some r) :
  Calls Try.prog 78 #[.pointer (some ⟨g0, 0, none⟩), .int .i64 a1, .int .i64 a2, .int .i64 a3, .int .i64 a4, .int .i64 a5] w fun e w' => e = .returned (.bool r) ∧ Drawn0 w w' := by
 have hu54 := Try.underlying54
 have hu52 := Try.underlying52
 have hu51 := Try.underlying51
 have hu50 := Try.underlying50
 have HR0 := Aside0.mk hr0
 have HC0 := Aside0.mk hc0
 clear hr0 hc0
 have H : (if 0 ≤ a1 then (if a1 < 7 then (if 0 ≤ a2 then (if a2 < 7 then (if 0 ≤ a3 then (if a3 < 7 then (if 0 ≤ a4 then (if a4 < 7 then (if 0 ≤ a5 then (if a5 < 7 then (if (wrap64 ((rd3 l0 a1 a2 a3) * (rd3 l0 a1 a4 a5))) = (wrap64 ((rd3 l0 a1 a2 a5) * (rd3 l0 a1 a3 a4))) then (some ((wrap64 ((rd3 l0 a1 a2 a5) * (rd3 l0 a1 a3 a4))) == (wrap64 ((wrap64 (-(rd3 l0 a1 a2 a4))) * (rd3 l0 a1 a3 a5))))) else (some false)) else (none)) else (none)) else (none)) else (none)) else (none)) else (none)) else (none)) else (none)) else (none)) else (none)) = some r := h
 clear h
 by_cases c7 : 0 ≤ a1
 ·rw [if_pos c7] at H
  have c7b0 : decide (0 ≤ a1) = true := decide_eq_true c7
  clear c7
  by_cases c8 : a1 < 7
  ·rw [if_pos c8] at H
   have c8b0 : decide (a1 < 7) = true := decide_eq_true c8
   clear c8
   by_cases c9 : 0 ≤ a2
   ·rw [if_pos c9] at H
    have c9b0 : decide (0 ≤ a2) = true := decide_eq_true c9
    clear c9
    by_cases c10 : a2 < 7
    ·rw [if_pos c10] at H
     have c10b0 : decide (a2 < 7) = true := decide_eq_true c10
     clear c10
     by_cases c11 : 0 ≤ a3
     ·rw [if_pos c11] at H
      have c11b0 : decide (0 ≤ a3) = true := decide_eq_true c11
      clear c11
      by_cases c12 : a3 < 7
      ·rw [if_pos c12] at H
       have c12b0 : decide (a3 < 7) = true := decide_eq_true c12
       clear c12
       by_cases c13 : 0 ≤ a4
       ·rw [if_pos c13] at H
        have c13b0 : decide (0 ≤ a4) = true := decide_eq_true c13
        clear c13
        by_cases c14 : a4 < 7
        ·rw [if_pos c14] at H
         have c14b0 : decide (a4 < 7) = true := decide_eq_true c14
         clear c14
         by_cases c15 : 0 ≤ a5
         ·rw [if_pos c15] at H
          have c15b0 : decide (0 ≤ a5) = true := decide_eq_true c15
          clear c15
          by_cases c16 : a5 < 7
          ·rw [if_pos c16] at H
           have c16b0 : decide (a5 < 7) = true := decide_eq_true c16
           clear c16
           by_cases c17 : (wrap64 ((rd3 l0 a1 a2 a3) * (rd3 l0 a1 a4 a5))) = (wrap64 ((rd3 l0 a1 a2 a5) * (rd3 l0 a1 a3 a4)))
           ·rw [if_pos c17] at H
            have c17b0 : ((wrap64 ((rd3 l0 a1 a2 a3) * (rd3 l0 a1 a4 a5))) == (wrap64 ((rd3 l0 a1 a2 a5) * (rd3 l0 a1 a3 a4)))) = true := beq_iff_eq.mpr c17
            have c17b1 : ((wrap64 ((rd3 l0 a1 a2 a3) * (rd3 l0 a1 a4 a5))) != (wrap64 ((rd3 l0 a1 a2 a5) * (rd3 l0 a1 a3 a4)))) = false := bne_eq_false_iff_eq.mpr c17
            clear c17
            obtain rfl := Option.some.inj H
            have pz342_0 : 0 ≤ (a1 : Int) := zA
            have pz342_1 : 0 ≤ (a2 : Int) := zA
            have pz342_2 : 0 ≤ (a3 : Int) := zA
            have qz342_0 : (a1 : Int) < 7 := zA
            have qz342_1 : (a2 : Int) < 7 := zA
            have qz342_2 : (a3 : Int) < 7 := zA
            have hL342 := HC0.out
            have dp342 : decide (0 ≤ ((1 + a1 * 49 + a2 * 7 + a3) : Int)) = true := decide_eq_true (by omega)
            have dq342 : decide ((1 + a1 * 49 + a2 * 7 + a3) < (l0.length : Int)) = true := decide_eq_true (by omega)
            clear hL342
            have p342 : 0 ≤ ((1 + a1 * 49 + a2 * 7 + a3) : Int) := zA
            have q342 : (1 + a1 * 49 + a2 * 7 + a3) < (l0.length : Int) := zA
            obtain ⟨ad342, e342, hx342_0⟩ := Kd.at_int HR0.out (1 + a1 * 49 + a2 * 7 + a3) p342 q342
            obtain rfl : (⟨g0, 0, none⟩ : Addr) = ad342 := (by injection e342)
            (first | simp only [add_plain] at hx342_0 | simp only [add_at] at hx342_0 | simp only [Addr.add, Nat.zero_add] at hx342_0 | skip)
            replace p342 := eq_true p342
            replace q342 := eq_true q342
            clear dp342 dq342
            clear p342 q342
            rw [show ((1 + a1 * 49 + a2 * 7 + a3) : Int).toNat = 1 + (a1).toNat * 49 + (a2).toNat * 7 + (a3).toNat from by omega] at hx342_0
            change _ = some (Value.int .i64 (rd3 l0 a1 a2 a3)) at hx342_0
            replace pz342_0 := eq_true pz342_0
            replace pz342_1 := eq_true pz342_1
            replace pz342_2 := eq_true pz342_2
            replace qz342_0 := eq_true qz342_0
            replace qz342_1 := eq_true qz342_1
            replace qz342_2 := eq_true qz342_2
            have pz343_0 : 0 ≤ (a1 : Int) := zA
            have pz343_1 : 0 ≤ (a4 : Int) := zA
            have pz343_2 : 0 ≤ (a5 : Int) := zA
            have qz343_0 : (a1 : Int) < 7 := zA
            have qz343_1 : (a4 : Int) < 7 := zA
            have qz343_2 : (a5 : Int) < 7 := zA
            have hL343 := HC0.out
            have dp343 : decide (0 ≤ ((1 + a1 * 49 + a4 * 7 + a5) : Int)) = true := decide_eq_true (by omega)
            have dq343 : decide ((1 + a1 * 49 + a4 * 7 + a5) < (l0.length : Int)) = true := decide_eq_true (by omega)
            clear hL343
            have p343 : 0 ≤ ((1 + a1 * 49 + a4 * 7 + a5) : Int) := zA
            have q343 : (1 + a1 * 49 + a4 * 7 + a5) < (l0.length : Int) := zA
            obtain ⟨ad343, e343, hx343_0⟩ := Kd.at_int HR0.out (1 + a1 * 49 + a4 * 7 + a5) p343 q343
            obtain rfl : (⟨g0, 0, none⟩ : Addr) = ad343 := (by injection e343)
            (first | simp only [add_plain] at hx343_0 | simp only [add_at] at hx343_0 | simp only [Addr.add, Nat.zero_add] at hx343_0 | skip)
            replace p343 := eq_true p343
            replace q343 := eq_true q343
            clear dp343 dq343
            clear p343 q343
            rw [show ((1 + a1 * 49 + a4 * 7 + a5) : Int).toNat = 1 + (a1).toNat * 49 + (a4).toNat * 7 + (a5).toNat from by omega] at hx343_0
            change _ = some (Value.int .i64 (rd3 l0 a1 a4 a5)) at hx343_0
            replace pz343_0 := eq_true pz343_0
            replace pz343_1 := eq_true pz343_1
            replace pz343_2 := eq_true pz343_2
            replace qz343_0 := eq_true qz343_0
            replace qz343_1 := eq_true qz343_1
            replace qz343_2 := eq_true qz343_2
            have pz344_0 : 0 ≤ (a1 : Int) := zA
            have pz344_1 : 0 ≤ (a2 : Int) := zA
            have pz344_2 : 0 ≤ (a5 : Int) := zA
            have qz344_0 : (a1 : Int) < 7 := zA
            have qz344_1 : (a2 : Int) < 7 := zA
            have qz344_2 : (a5 : Int) < 7 := zA
            have hL344 := HC0.out
            have dp344 : decide (0 ≤ ((1 + a1 * 49 + a2 * 7 + a5) : Int)) = true := decide_eq_true (by omega)
            have dq344 : decide ((1 + a1 * 49 + a2 * 7 + a5) < (l0.length : Int)) = true := decide_eq_true (by omega)
            clear hL344
            have p344 : 0 ≤ ((1 + a1 * 49 + a2 * 7 + a5) : Int) := zA
            have q344 : (1 + a1 * 49 + a2 * 7 + a5) < (l0.length : Int) := zA
            obtain ⟨ad344, e344, hx344_0⟩ := Kd.at_int HR0.out (1 + a1 * 49 + a2 * 7 + a5) p344 q344
            obtain rfl : (⟨g0, 0, none⟩ : Addr) = ad344 := (by injection e344)
            (first | simp only [add_plain] at hx344_0 | simp only [add_at] at hx344_0 | simp only [Addr.add, Nat.zero_add] at hx344_0 | skip)
            replace p344 := eq_true p344
            replace q344 := eq_true q344
            clear dp344 dq344
            clear p344 q344
            rw [show ((1 + a1 * 49 + a2 * 7 + a5) : Int).toNat = 1 + (a1).toNat * 49 + (a2).toNat * 7 + (a5).toNat from by omega] at hx344_0
            change _ = some (Value.int .i64 (rd3 l0 a1 a2 a5)) at hx344_0
            replace pz344_0 := eq_true pz344_0
            replace pz344_1 := eq_true pz344_1
            replace pz344_2 := eq_true pz344_2
            replace qz344_0 := eq_true qz344_0
            replace qz344_1 := eq_true qz344_1
            replace qz344_2 := eq_true qz344_2
            have pz345_0 : 0 ≤ (a1 : Int) := zA
            have pz345_1 : 0 ≤ (a3 : Int) := zA
            have pz345_2 : 0 ≤ (a4 : Int) := zA
            have qz345_0 : (a1 : Int) < 7 := zA
            have qz345_1 : (a3 : Int) < 7 := zA
            have qz345_2 : (a4 : Int) < 7 := zA
            have hL345 := HC0.out
            have dp345 : decide (0 ≤ ((1 + a1 * 49 + a3 * 7 + a4) : Int)) = true := decide_eq_true (by omega)
            have dq345 : decide ((1 + a1 * 49 + a3 * 7 + a4) < (l0.length : Int)) = true := decide_eq_true (by omega)
            clear hL345
            have p345 : 0 ≤ ((1 + a1 * 49 + a3 * 7 + a4) : Int) := zA
            have q345 : (1 + a1 * 49 + a3 * 7 + a4) < (l0.length : Int) := zA
            obtain ⟨ad345, e345, hx345_0⟩ := Kd.at_int HR0.out (1 + a1 * 49 + a3 * 7 + a4) p345 q345
            obtain rfl : (⟨g0, 0, none⟩ : Addr) = ad345 := (by injection e345)
            (first | simp only [add_plain] at hx345_0 | simp only [add_at] at hx345_0 | simp only [Addr.add, Nat.zero_add] at hx345_0 | skip)
            replace p345 := eq_true p345
            replace q345 := eq_true q345
            clear dp345 dq345
            clear p345 q345
            rw [show ((1 + a1 * 49 + a3 * 7 + a4) : Int).toNat = 1 + (a1).toNat * 49 + (a3).toNat * 7 + (a4).toNat from by omega] at hx345_0
            change _ = some (Value.int .i64 (rd3 l0 a1 a3 a4)) at hx345_0
            replace pz345_0 := eq_true pz345_0
            replace pz345_1 := eq_true pz345_1
            replace pz345_2 := eq_true pz345_2
            replace qz345_0 := eq_true qz345_0
            replace qz345_1 := eq_true qz345_1
            replace qz345_2 := eq_true qz345_2
            have pz346_0 : 0 ≤ (a1 : Int) := zA
            have pz346_1 : 0 ≤ (a2 : Int) := zA
            have pz346_2 : 0 ≤ (a4 : Int) := zA
            have qz346_0 : (a1 : Int) < 7 := zA
            have qz346_1 : (a2 : Int) < 7 := zA
            have qz346_2 : (a4 : Int) < 7 := zA
            have hL346 := HC0.out
            have dp346 : decide (0 ≤ ((1 + a1 * 49 + a2 * 7 + a4) : Int)) = true := decide_eq_true (by omega)
            have dq346 : decide ((1 + a1 * 49 + a2 * 7 + a4) < (l0.length : Int)) = true := decide_eq_true (by omega)
            clear hL346
            have p346 : 0 ≤ ((1 + a1 * 49 + a2 * 7 + a4) : Int) := zA
            have q346 : (1 + a1 * 49 + a2 * 7 + a4) < (l0.length : Int) := zA
            obtain ⟨ad346, e346, hx346_0⟩ := Kd.at_int HR0.out (1 + a1 * 49 + a2 * 7 + a4) p346 q346
            obtain rfl : (⟨g0, 0, none⟩ : Addr) = ad346 := (by injection e346)
            (first | simp only [add_plain] at hx346_0 | simp only [add_at] at hx346_0 | simp only [Addr.add, Nat.zero_add] at hx346_0 | skip)
            replace p346 := eq_true p346
            replace q346 := eq_true q346
            clear dp346 dq346
            clear p346 q346
            rw [show ((1 + a1 * 49 + a2 * 7 + a4) : Int).toNat = 1 + (a1).toNat * 49 + (a2).toNat * 7 + (a4).toNat from by omega] at hx346_0
            change _ = some (Value.int .i64 (rd3 l0 a1 a2 a4)) at hx346_0
            replace pz346_0 := eq_true pz346_0
            replace pz346_1 := eq_true pz346_1
            replace pz346_2 := eq_true pz346_2
            replace qz346_0 := eq_true qz346_0
            replace qz346_1 := eq_true qz346_1
            replace qz346_2 := eq_true qz346_2
            have pz347_0 : 0 ≤ (a1 : Int) := zA
            have pz347_1 : 0 ≤ (a3 : Int) := zA
            have pz347_2 : 0 ≤ (a5 : Int) := zA
            have qz347_0 : (a1 : Int) < 7 := zA
            have qz347_1 : (a3 : Int) < 7 := zA
            have qz347_2 : (a5 : Int) < 7 := zA
            have hL347 := HC0.out
            have dp347 : decide (0 ≤ ((1 + a1 * 49 + a3 * 7 + a5) : Int)) = true := decide_eq_true (by omega)
            have dq347 : decide ((1 + a1 * 49 + a3 * 7 + a5) < (l0.length : Int)) = true := decide_eq_true (by omega)
            clear hL347
            have p347 : 0 ≤ ((1 + a1 * 49 + a3 * 7 + a5) : Int) := zA
            have q347 : (1 + a1 * 49 + a3 * 7 + a5) < (l0.length : Int) := zA
            obtain ⟨ad347, e347, hx347_0⟩ := Kd.at_int HR0.out (1 + a1 * 49 + a3 * 7 + a5) p347 q347
            obtain rfl : (⟨g0, 0, none⟩ : Addr) = ad347 := (by injection e347)
            (first | simp only [add_plain] at hx347_0 | simp only [add_at] at hx347_0 | simp only [Addr.add, Nat.zero_add] at hx347_0 | skip)
            replace p347 := eq_true p347
            replace q347 := eq_true q347
            clear dp347 dq347
            clear p347 q347
            rw [show ((1 + a1 * 49 + a3 * 7 + a5) : Int).toNat = 1 + (a1).toNat * 49 + (a3).toNat * 7 + (a5).toNat from by omega] at hx347_0
            change _ = some (Value.int .i64 (rd3 l0 a1 a3 a5)) at hx347_0
            replace pz347_0 := eq_true pz347_0
            replace pz347_1 := eq_true pz347_1
            replace pz347_2 := eq_true pz347_2
            replace qz347_0 := eq_true qz347_0
            replace qz347_1 := eq_true qz347_1
            replace qz347_2 := eq_true qz347_2
            go_enter Try.func78, Try.ntmps78
            go_wp2
            repeat (go_quiet (fail); try go_wp2)
            go_ret
            exact ⟨by first | rfl | (simp; done) | (simp [*]; done), by repeat (first | exact Drawn0.refl _ | apply Drawn0.step)⟩
           ·rw [if_neg c17] at H
            have c17b0 : ((wrap64 ((rd3 l0 a1 a2 a3) * (rd3 l0 a1 a4 a5))) == (wrap64 ((rd3 l0 a1 a2 a5) * (rd3 l0 a1 a3 a4)))) = false := beq_eq_false_iff_ne.mpr c17
            have c17b1 : ((wrap64 ((rd3 l0 a1 a2 a3) * (rd3 l0 a1 a4 a5))) != (wrap64 ((rd3 l0 a1 a2 a5) * (rd3 l0 a1 a3 a4)))) = true := bne_iff_ne.mpr c17
            obtain rfl := Option.some.inj H
            have pz342_0 : 0 ≤ (a1 : Int) := zA
            have pz342_1 : 0 ≤ (a2 : Int) := zA
            have pz342_2 : 0 ≤ (a3 : Int) := zA
            have qz342_0 : (a1 : Int) < 7 := zA
            have qz342_1 : (a2 : Int) < 7 := zA
            have qz342_2 : (a3 : Int) < 7 := zA
            have hL342 := HC0.out
            have dp342 : decide (0 ≤ ((1 + a1 * 49 + a2 * 7 + a3) : Int)) = true := decide_eq_true (by omega)
            have dq342 : decide ((1 + a1 * 49 + a2 * 7 + a3) < (l0.length : Int)) = true := decide_eq_true (by omega)
            clear hL342
            have p342 : 0 ≤ ((1 + a1 * 49 + a2 * 7 + a3) : Int) := zA
            have q342 : (1 + a1 * 49 + a2 * 7 + a3) < (l0.length : Int) := zA
            obtain ⟨ad342, e342, hx342_0⟩ := Kd.at_int HR0.out (1 + a1 * 49 + a2 * 7 + a3) p342 q342
            obtain rfl : (⟨g0, 0, none⟩ : Addr) = ad342 := (by injection e342)
            (first | simp only [add_plain] at hx342_0 | simp only [add_at] at hx342_0 | simp only [Addr.add, Nat.zero_add] at hx342_0 | skip)
            replace p342 := eq_true p342
            replace q342 := eq_true q342
            clear dp342 dq342
            clear p342 q342
            rw [show ((1 + a1 * 49 + a2 * 7 + a3) : Int).toNat = 1 + (a1).toNat * 49 + (a2).toNat * 7 + (a3).toNat from by omega] at hx342_0
            change _ = some (Value.int .i64 (rd3 l0 a1 a2 a3)) at hx342_0
            replace pz342_0 := eq_true pz342_0
            replace pz342_1 := eq_true pz342_1
            replace pz342_2 := eq_true pz342_2
            replace qz342_0 := eq_true qz342_0
            replace qz342_1 := eq_true qz342_1
            replace qz342_2 := eq_true qz342_2
            have pz343_0 : 0 ≤ (a1 : Int) := zA
            have pz343_1 : 0 ≤ (a4 : Int) := zA
            have pz343_2 : 0 ≤ (a5 : Int) := zA
            have qz343_0 : (a1 : Int) < 7 := zA
            have qz343_1 : (a4 : Int) < 7 := zA
            have qz343_2 : (a5 : Int) < 7 := zA
            have hL343 := HC0.out
            have dp343 : decide (0 ≤ ((1 + a1 * 49 + a4 * 7 + a5) : Int)) = true := decide_eq_true (by omega)
            have dq343 : decide ((1 + a1 * 49 + a4 * 7 + a5) < (l0.length : Int)) = true := decide_eq_true (by omega)
            clear hL343
            have p343 : 0 ≤ ((1 + a1 * 49 + a4 * 7 + a5) : Int) := zA
            have q343 : (1 + a1 * 49 + a4 * 7 + a5) < (l0.length : Int) := zA
            obtain ⟨ad343, e343, hx343_0⟩ := Kd.at_int HR0.out (1 + a1 * 49 + a4 * 7 + a5) p343 q343
            obtain rfl : (⟨g0, 0, none⟩ : Addr) = ad343 := (by injection e343)
            (first | simp only [add_plain] at hx343_0 | simp only [add_at] at hx343_0 | simp only [Addr.add, Nat.zero_add] at hx343_0 | skip)
            replace p343 := eq_true p343
            replace q343 := eq_true q343
            clear dp343 dq343
            clear p343 q343
            rw [show ((1 + a1 * 49 + a4 * 7 + a5) : Int).toNat = 1 + (a1).toNat * 49 + (a4).toNat * 7 + (a5).toNat from by omega] at hx343_0
            change _ = some (Value.int .i64 (rd3 l0 a1 a4 a5)) at hx343_0
            replace pz343_0 := eq_true pz343_0
            replace pz343_1 := eq_true pz343_1
            replace pz343_2 := eq_true pz343_2
            replace qz343_0 := eq_true qz343_0
            replace qz343_1 := eq_true qz343_1
            replace qz343_2 := eq_true qz343_2
            have pz344_0 : 0 ≤ (a1 : Int) := zA
            have pz344_1 : 0 ≤ (a2 : Int) := zA
            have pz344_2 : 0 ≤ (a5 : Int) := zA
            have qz344_0 : (a1 : Int) < 7 := zA
            have qz344_1 : (a2 : Int) < 7 := zA
            have qz344_2 : (a5 : Int) < 7 := zA
            have hL344 := HC0.out
            have dp344 : decide (0 ≤ ((1 + a1 * 49 + a2 * 7 + a5) : Int)) = true := decide_eq_true (by omega)
            have dq344 : decide ((1 + a1 * 49 + a2 * 7 + a5) < (l0.length : Int)) = true := decide_eq_true (by omega)
            clear hL344
            have p344 : 0 ≤ ((1 + a1 * 49 + a2 * 7 + a5) : Int) := zA
            have q344 : (1 + a1 * 49 + a2 * 7 + a5) < (l0.length : Int) := zA
            obtain ⟨ad344, e344, hx344_0⟩ := Kd.at_int HR0.out (1 + a1 * 49 + a2 * 7 + a5) p344 q344
            obtain rfl : (⟨g0, 0, none⟩ : Addr) = ad344 := (by injection e344)
            (first | simp only [add_plain] at hx344_0 | simp only [add_at] at hx344_0 | simp only [Addr.add, Nat.zero_add] at hx344_0 | skip)
            replace p344 := eq_true p344
            replace q344 := eq_true q344
            clear dp344 dq344
            clear p344 q344
            rw [show ((1 + a1 * 49 + a2 * 7 + a5) : Int).toNat = 1 + (a1).toNat * 49 + (a2).toNat * 7 + (a5).toNat from by omega] at hx344_0
            change _ = some (Value.int .i64 (rd3 l0 a1 a2 a5)) at hx344_0
            replace pz344_0 := eq_true pz344_0
            replace pz344_1 := eq_true pz344_1
            replace pz344_2 := eq_true pz344_2
            replace qz344_0 := eq_true qz344_0
            replace qz344_1 := eq_true qz344_1
            replace qz344_2 := eq_true qz344_2
            have pz345_0 : 0 ≤ (a1 : Int) := zA
            have pz345_1 : 0 ≤ (a3 : Int) := zA
            have pz345_2 : 0 ≤ (a4 : Int) := zA
            have qz345_0 : (a1 : Int) < 7 := zA
            have qz345_1 : (a3 : Int) < 7 := zA
            have qz345_2 : (a4 : Int) < 7 := zA
            have hL345 := HC0.out
            have dp345 : decide (0 ≤ ((1 + a1 * 49 + a3 * 7 + a4) : Int)) = true := decide_eq_true (by omega)
            have dq345 : decide ((1 + a1 * 49 + a3 * 7 + a4) < (l0.length : Int)) = true := decide_eq_true (by omega)
            clear hL345
            have p345 : 0 ≤ ((1 + a1 * 49 + a3 * 7 + a4) : Int) := zA
            have q345 : (1 + a1 * 49 + a3 * 7 + a4) < (l0.length : Int) := zA
            obtain ⟨ad345, e345, hx345_0⟩ := Kd.at_int HR0.out (1 + a1 * 49 + a3 * 7 + a4) p345 q345
            obtain rfl : (⟨g0, 0, none⟩ : Addr) = ad345 := (by injection e345)
            (first | simp only [add_plain] at hx345_0 | simp only [add_at] at hx345_0 | simp only [Addr.add, Nat.zero_add] at hx345_0 | skip)
            replace p345 := eq_true p345
            replace q345 := eq_true q345
            clear dp345 dq345
            clear p345 q345
            rw [show ((1 + a1 * 49 + a3 * 7 + a4) : Int).toNat = 1 + (a1).toNat * 49 + (a3).toNat * 7 + (a4).toNat from by omega] at hx345_0
            change _ = some (Value.int .i64 (rd3 l0 a1 a3 a4)) at hx345_0
            replace pz345_0 := eq_true pz345_0
            replace pz345_1 := eq_true pz345_1
            replace pz345_2 := eq_true pz345_2
            replace qz345_0 := eq_true qz345_0
            replace qz345_1 := eq_true qz345_1
            replace qz345_2 := eq_true qz345_2
            have pz346_0 : 0 ≤ (a1 : Int) := zA
            have pz346_1 : 0 ≤ (a2 : Int) := zA
            have pz346_2 : 0 ≤ (a4 : Int) := zA
            have qz346_0 : (a1 : Int) < 7 := zA
            have qz346_1 : (a2 : Int) < 7 := zA
            have qz346_2 : (a4 : Int) < 7 := zA
            have hL346 := HC0.out
            have dp346 : decide (0 ≤ ((1 + a1 * 49 + a2 * 7 + a4) : Int)) = true := decide_eq_true (by omega)
            have dq346 : decide ((1 + a1 * 49 + a2 * 7 + a4) < (l0.length : Int)) = true := decide_eq_true (by omega)
            clear hL346
            have p346 : 0 ≤ ((1 + a1 * 49 + a2 * 7 + a4) : Int) := zA
            have q346 : (1 + a1 * 49 + a2 * 7 + a4) < (l0.length : Int) := zA
            obtain ⟨ad346, e346, hx346_0⟩ := Kd.at_int HR0.out (1 + a1 * 49 + a2 * 7 + a4) p346 q346
            obtain rfl : (⟨g0, 0, none⟩ : Addr) = ad346 := (by injection e346)
            (first | simp only [add_plain] at hx346_0 | simp only [add_at] at hx346_0 | simp only [Addr.add, Nat.zero_add] at hx346_0 | skip)
            replace p346 := eq_true p346
            replace q346 := eq_true q346
            clear dp346 dq346
            clear p346 q346
            rw [show ((1 + a1 * 49 + a2 * 7 + a4) : Int).toNat = 1 + (a1).toNat * 49 + (a2).toNat * 7 + (a4).toNat from by omega] at hx346_0
            change _ = some (Value.int .i64 (rd3 l0 a1 a2 a4)) at hx346_0
            replace pz346_0 := eq_true pz346_0
            replace pz346_1 := eq_true pz346_1
            replace pz346_2 := eq_true pz346_2
            replace qz346_0 := eq_true qz346_0
            replace qz346_1 := eq_true qz346_1
            replace qz346_2 := eq_true qz346_2
            have pz347_0 : 0 ≤ (a1 : Int) := zA
            have pz347_1 : 0 ≤ (a3 : Int) := zA
            have pz347_2 : 0 ≤ (a5 : Int) := zA
            have qz347_0 : (a1 : Int) < 7 := zA
            have qz347_1 : (a3 : Int) < 7 := zA
            have qz347_2 : (a5 : Int) < 7 := zA
            have hL347 := HC0.out
            have dp347 : decide (0 ≤ ((1 + a1 * 49 + a3 * 7 + a5) : Int)) = true := decide_eq_true (by omega)
            have dq347 : decide ((1 + a1 * 49 + a3 * 7 + a5) < (l0.length : Int)) = true := decide_eq_true (by omega)
            clear hL347
            have p347 : 0 ≤ ((1 + a1 * 49 + a3 * 7 + a5) : Int) := zA
            have q347 : (1 + a1 * 49 + a3 * 7 + a5) < (l0.length : Int) := zA
            obtain ⟨ad347, e347, hx347_0⟩ := Kd.at_int HR0.out (1 + a1 * 49 + a3 * 7 + a5) p347 q347
            obtain rfl : (⟨g0, 0, none⟩ : Addr) = ad347 := (by injection e347)
            (first | simp only [add_plain] at hx347_0 | simp only [add_at] at hx347_0 | simp only [Addr.add, Nat.zero_add] at hx347_0 | skip)
            replace p347 := eq_true p347
            replace q347 := eq_true q347
            clear dp347 dq347
            clear p347 q347
            rw [show ((1 + a1 * 49 + a3 * 7 + a5) : Int).toNat = 1 + (a1).toNat * 49 + (a3).toNat * 7 + (a5).toNat from by omega] at hx347_0
            change _ = some (Value.int .i64 (rd3 l0 a1 a3 a5)) at hx347_0
            replace pz347_0 := eq_true pz347_0
            replace pz347_1 := eq_true pz347_1
            replace pz347_2 := eq_true pz347_2
            replace qz347_0 := eq_true qz347_0
            replace qz347_1 := eq_true qz347_1
            replace qz347_2 := eq_true qz347_2
            go_enter Try.func78, Try.ntmps78
            go_wp2
            repeat (go_quiet (fail); try go_wp2)
            go_ret
            exact ⟨by first | rfl | (simp; done) | (simp [*]; done), by repeat (first | exact Drawn0.refl _ | apply Drawn0.step)⟩
          ·rw [if_neg c16] at H
           exact absurd H (by simp)
         ·rw [if_neg c15] at H
          exact absurd H (by simp)
        ·rw [if_neg c14] at H
         exact absurd H (by simp)
       ·rw [if_neg c13] at H
        exact absurd H (by simp)
      ·rw [if_neg c12] at H
       exact absurd H (by simp)
     ·rw [if_neg c11] at H
      exact absurd H (by simp)
    ·rw [if_neg c10] at H
     exact absurd H (by simp)
   ·rw [if_neg c9] at H
    exact absurd H (by simp)
  ·rw [if_neg c8] at H
   exact absurd H (by simp)
 ·rw [if_neg c7] at H
  exact absurd H (by simp)
/-! ### impl_chi_firstBreak: function 66 -/
mutual
def impl_chi_firstBreak.l0 : Nat → List Int → Int → Option (List Int)
 | 0, _, _ => none
 | k + 1, x0, x3 => if x3 < (rd x0 0) then ((impl_quadsOf.f k (rd x0 0)).bind fun t350 => (impl_chi_firstBreak.l1 k x0 x3 t350 (t350.length : Int) 0)) else (some ([] : List Int))
def impl_chi_firstBreak.l1 : Nat → List Int → Int → List (S80) → Int → Int → Option (List Int)
 | 0, _, _, _, _, _ => none
 | k + 1, x0, x3, x18, x19, x20 => if x20 < x19 then (if 0 ≤ x20 then (if x20 < (x18.length : Int) then (if ((rd_T80 x18 x20).f0) = x3 then (impl_chi_firstBreak.l1 k x0 x3 x18 x19 (wrap64 (x20 + 1))) else (if ((rd_T80 x18 x20).f1) = x3 then (impl_chi_firstBreak.l1 k x0 x3 x18 x19 (wrap64 (x20 + 1))) else (if ((rd_T80 x18 x20).f2) = x3 then (impl_chi_firstBreak.l1 k x0 x3 x18 x19 (wrap64 (x20 + 1))) else (if ((rd_T80 x18 x20).f3) = x3 then (impl_chi_firstBreak.l1 k x0 x3 x18 x19 (wrap64 (x20 + 1))) else ((impl_chi_breaks.f x0 x3 ((rd_T80 x18 x20).f0) ((rd_T80 x18 x20).f1) ((rd_T80 x18 x20).f2) ((rd_T80 x18 x20).f3)).bind fun t355 => (if t355 = true then (some (([x3, (rd_T80 x18 x20).f0, (rd_T80 x18 x20).f1, (rd_T80 x18 x20).f2, (rd_T80 x18 x20).f3] : List Int))) else (impl_chi_firstBreak.l1 k x0 x3 x18 x19 (wrap64 (x20 + 1))))))))) else (none)) else (none)) else (impl_chi_firstBreak.l0 k x0 (wrap64 (x3 + 1)))
end
def impl_chi_firstBreak.f (k : Nat) (l0 : List Int) : Option (List Int) := impl_chi_firstBreak.l0 k l0 0
theorem impl_chi_firstBreak.mono_l : ∀ k, (∀ y0 y1, LeO (impl_chi_firstBreak.l0 k y0 y1) (impl_chi_firstBreak.l0 (k + 1) y0 y1)) ∧ (∀ y0 y1 y2 y3 y4, LeO (impl_chi_firstBreak.l1 k y0 y1 y2 y3 y4) (impl_chi_firstBreak.l1 (k + 1) y0 y1 y2 y3 y4))
 | 0 => ⟨fun _ _ r h => by simp [impl_chi_firstBreak.l0] at h, fun _ _ _ _ _ r h => by simp [impl_chi_firstBreak.l1] at h⟩
 | k + 1 => by
  obtain ⟨ih0, ih1⟩ := impl_chi_firstBreak.mono_l k
  refine ⟨?_, ?_⟩
  ·intro y0 y1
   unfold impl_chi_firstBreak.l0
   repeat' first
   | (with_reducible exact ih0 _ _)
   | (with_reducible exact ih1 _ _ _ _ _)
   | (with_reducible exact impl_quadsOf.mono _ _)
   | (with_reducible exact LeO.refl _)
   | (with_reducible exact LeO.none _)
   | (with_reducible refine LeO.ite ?_ ?_)
   | (with_reducible refine LeO.bind ?_ (fun _ => ?_))
   | exact ih0 _ _
   | exact ih1 _ _ _ _ _
   | exact impl_quadsOf.mono _ _
   | exact LeO.none _
   | refine LeO.ite ?_ ?_
   | refine LeO.bind ?_ (fun _ => ?_)
  ·intro y0 y1 y2 y3 y4
   unfold impl_chi_firstBreak.l1
   repeat' first
   | (with_reducible exact ih0 _ _)
   | (with_reducible exact ih1 _ _ _ _ _)
   | (with_reducible exact impl_quadsOf.mono _ _)
   | (with_reducible exact LeO.refl _)
   | (with_reducible exact LeO.none _)
   | (with_reducible refine LeO.ite ?_ ?_)
   | (with_reducible refine LeO.bind ?_ (fun _ => ?_))
   | exact ih0 _ _
   | exact ih1 _ _ _ _ _
   | exact impl_quadsOf.mono _ _
   | exact LeO.none _
   | refine LeO.ite ?_ ?_
   | refine LeO.bind ?_ (fun _ => ?_)
theorem impl_chi_firstBreak.mono : ∀ a0 k, LeO (impl_chi_firstBreak.f k a0) (impl_chi_firstBreak.f (k + 1) a0) := by
 intro a0 k
 obtain ⟨ih0, ih1⟩ := impl_chi_firstBreak.mono_l k
 unfold impl_chi_firstBreak.f
 repeat' first
   | (with_reducible exact ih0 _ _)
   | (with_reducible exact ih1 _ _ _ _ _)
   | (with_reducible exact impl_quadsOf.mono _ _)
   | (with_reducible exact LeO.refl _)
   | (with_reducible exact LeO.none _)
   | (with_reducible refine LeO.ite ?_ ?_)
   | (with_reducible refine LeO.bind ?_ (fun _ => ?_))
   | exact ih0 _ _
   | exact ih1 _ _ _ _ _
   | exact impl_quadsOf.mono _ _
   | exact LeO.none _
   | refine LeO.ite ?_ ?_
   | refine LeO.bind ?_ (fun _ => ?_)
set_option maxHeartbeats 8000000 in
set_option maxRecDepth 100000 in
theorem impl_chi_firstBreak.calls (k : Nat) (g0 : Nat) (l0 : List Int) (r : List Int) (w : World) (hr0 : Kd.C (Kd.int .i64) w (some ⟨g0, 0, none⟩) l0.length l0) (hc0 : l0.length = 344) (h : impl_chi_firstBreak.f k l0 = some r) :
  Calls Try.prog 66 #[.pointer (some ⟨g0, 0, none⟩)] w fun e w' => ∃ v0_ : Value, e = .returned (v0_) ∧ Kd.R (Kd.int .i64) 3 w' w.heap.size (fun _ => True) v0_ r ∧ Below w.heap.size w w' := by
 have hu80 := Try.underlying80
 have hu54 := Try.underlying54
 have HR0 := Aside0.mk hr0
 have HC0 := Aside0.mk hc0
 clear hr0 hc0
 have HB := Aside0.mk (Below.refl w.heap.size w)
 have H : (impl_chi_firstBreak.l0 k l0 0) = some r := h
 clear h
 have H' := Aside0.mk H
 clear H
 go_enter Try.func66, Try.ntmps66
 go_wp2
 go_loopg [3] k (fun kq v3 w' => ∃ (x3_1 : Int), v3 = .int .i64 x3_1 ∧ Aside0 (impl_chi_firstBreak.l0 kq l0 x3_1 = some r) ∧ Aside0 (kq ≤ k) ∧ Aside0 (Below w.heap.size w w'))
 case atStart => exact ⟨(0), zF, H', ⟨Nat.le_refl _⟩, ⟨zB⟩⟩
 case round =>
  clear H'
  obtain ⟨x3_1, rfl, HA, HK1, HB⟩ := hrel
  cases gk with
  | zero => exact absurd HA.out (by simp [impl_chi_firstBreak.l0])
  | succ k1 =>
   have H := HA.out
   clear HA
   simp only [impl_chi_firstBreak.l0] at H
   by_cases c2 : x3_1 < (rd l0 0)
   ·rw [if_pos c2] at H
    have c2b0 : decide (x3_1 < (rd l0 0)) = true := decide_eq_true c2
    clear c2
    replace H := Option.bind_eq_some_iff.mp H
    obtain ⟨t350, A30, H⟩ := H
    replace H : (impl_chi_firstBreak.l1 k1 l0 x3_1 t350 (t350.length : Int) 0) = some r := H
    have A3 := Aside0.mk A30
    clear A30
    have H' := Aside0.mk H
    clear H
    have hL348 := HC0.out
    have dq348 : decide (0 < (l0.length : Int)) = true := decide_eq_true (by omega)
    clear hL348
    have p348 : 0 ≤ (0 : Int) := (by omega)
    have q348 : 0 < (l0.length : Int) := zA
    obtain ⟨ad348, e348, hx348_0⟩ := Kd.at_int HR0.out 0 p348 q348
    obtain rfl : (⟨g0, 0, none⟩ : Addr) = ad348 := (by injection e348)
    (first | simp only [add_plain] at hx348_0 | simp only [add_at] at hx348_0 | simp only [Addr.add, Nat.zero_add] at hx348_0 | skip)
    have qi348 : (0 < l0.length) = True := eq_true (by omega)
    (try rw [show ((0 : Int)).toNat = 0 from rfl] at hx348_0)
    (try rw [Addr.add_zero'] at hx348_0)
    replace hx348_0 := (HB.out.cell (World.block_lt_of_cell? w _ hx348_0)).trans hx348_0
    replace p348 := eq_true p348
    replace q348 := eq_true q348
    clear dq348
    have hL349 := HC0.out
    have dq349 : decide (0 < (l0.length : Int)) = true := decide_eq_true (by omega)
    clear hL349
    have p349 : 0 ≤ (0 : Int) := (by omega)
    have q349 : 0 < (l0.length : Int) := zA
    obtain ⟨ad349, e349, hx349_0⟩ := Kd.at_int HR0.out 0 p349 q349
    obtain rfl : (⟨g0, 0, none⟩ : Addr) = ad349 := (by injection e349)
    (first | simp only [add_plain] at hx349_0 | simp only [add_at] at hx349_0 | simp only [Addr.add, Nat.zero_add] at hx349_0 | skip)
    have qi349 : (0 < l0.length) = True := eq_true (by omega)
    (try rw [show ((0 : Int)).toNat = 0 from rfl] at hx349_0)
    (try rw [Addr.add_zero'] at hx349_0)
    replace hx349_0 := (HB.out.cell (World.block_lt_of_cell? w _ hx349_0)).trans hx349_0
    replace p349 := eq_true p349
    replace q349 := eq_true q349
    clear dq349
    go_wp2_with (first | ((with_reducible refine gate_callee (f := 77) rfl ?_); refine goesL_ (some 18) rfl rfl Try.func77 (by kernel_rfl) rfl #[.int .i64 (rd l0 0)] rfl zM ?_; (with_reducible refine (impl_quadsOf.calls k1 (rd l0 0) t350 _ A3.out).mono ?_); rintro e w4 ⟨v351, rfl, ho0, hb⟩; refine ⟨_, rfl, ?_⟩; have n0_ := Aside0.mk (Kd.R_lower ho0 (below_size zB)); have n1_ := Aside0.mk (below_step zB hb); clear HB; have HO352 := n0_; have HB := n1_; clear n0_ n1_; (try clear hb); (try clear hb2); (try clear hk); (try clear hi); (try clear ho0); obtain ⟨Ao5, co5, eo5⟩ := Kd.R_slice HO352.out; subst eo5))
    go_loopg [20] k1 (fun kq v20 w' => ∃ (x20_2 : Int), v20 = .int .i64 x20_2 ∧ Aside0 (impl_chi_firstBreak.l1 kq l0 x3_1 t350 (t350.length : Int) x20_2 = some r) ∧ Aside0 (kq ≤ k1) ∧ Aside0 (Kd.R k80 80 w' w.heap.size (fun _ => True) (.slice Ao5 t350.length co5) t350) ∧ Aside0 (Below w.heap.size w w'))
    case atStart => exact ⟨(0), zF, H', ⟨Nat.le_refl _⟩, ⟨zR HO352.out⟩, ⟨zB⟩⟩
    case round =>
     clear H'
     try clear c2
     try clear c2b0
     try clear p2
     try clear p3
     try clear q3
     try clear hx3
     try clear qi3
     try clear hx348_0
     try clear hx349_0
     try clear p348
     try clear p349
     try clear q348
     try clear q349
     obtain ⟨x20_2, rfl, HA, HK2, HO_18, HB⟩ := hrel
     cases gk with
     | zero => exact absurd HA.out (by simp [impl_chi_firstBreak.l1])
     | succ k2 =>
      have H := HA.out
      clear HA
      simp only [impl_chi_firstBreak.l1] at H
      by_cases c6 : x20_2 < (t350.length : Int)
      ·rw [if_pos c6] at H
       have c6b0 : decide (x20_2 < (t350.length : Int)) = true := decide_eq_true c6
       clear c6
       by_cases c7 : 0 ≤ x20_2
       ·rw [if_pos c7] at H
        have c7b0 : decide (0 ≤ x20_2) = true := decide_eq_true c7
        clear c7
        by_cases c8 : x20_2 < (t350.length : Int)
        ·rw [if_pos c8] at H
         have c8b0 : decide (x20_2 < (t350.length : Int)) = true := decide_eq_true c8
         clear c8
         by_cases c9 : ((rd_T80 t350 x20_2).f0) = x3_1
         ·rw [if_pos c9] at H
          have c9b0 : (((rd_T80 t350 x20_2).f0) == x3_1) = true := beq_iff_eq.mpr c9
          have c9b1 : (((rd_T80 t350 x20_2).f0) != x3_1) = false := bne_eq_false_iff_eq.mpr c9
          clear c9
          have H' := Aside0.mk H
          clear H
          have p353 : 0 ≤ (x20_2 : Int) := zA
          have q353 : x20_2 < (t350.length : Int) := zA
          obtain ⟨ad353, e353, hx353_0, hx353_1, hx353_2, hx353_3⟩ := at_T80 (Kd.R_reads' HO_18.out).2.2 x20_2 p353 q353
          cases e353
          replace p353 := eq_true p353
          replace q353 := eq_true q353
          go_wp2_with (first | ((with_reducible refine gate_dst (N := 5) rfl ?_); refine box_event ?hg (N := 5) ?hd (cs := #[.int .i64 0, .int .i64 0, .int .i64 0, .int .i64 0]) (t := 80) ?hr ?_; (case hd => rfl); (case hg => rfl); (case hr => first | (go_simp; done) | (go_simp; rfl)); intro gb354 hg w10 hbox hb; have n0_ := Aside0.mk (Kd.R_below (Kd.R_elderB (zR HO_18.out) gb354 (Nat.le_of_eq hg.symm)) hb); have n1_ := Aside0.mk (below_step zB hb); have n2_ := Aside0.mk (hbox); have n3_ := Aside0.mk ((by rw [hg]; exact (below_size zB) : w.heap.size ≤ gb354)); have n4_ := Aside0.mk ((by rw [hg]; exact (below_size zB) : w.heap.size ≤ gb354)); clear HO_18; clear HB; have HO_18 := n0_; have HB := n1_; have BK354 := n2_; have GW354 := n3_; have GE354 := n4_; clear n0_ n1_ n2_ n3_ n4_; clear hb hbox hg; have hcz11_0 : w10.cell? ⟨gb354, 0, none⟩ = some (.int .i64 0) := (blk_cell BK354.out 0).trans rfl; have hcz11_1 : w10.cell? ⟨gb354, 1, none⟩ = some (.int .i64 0) := (blk_cell BK354.out 1).trans rfl; have hcz11_2 : w10.cell? ⟨gb354, 2, none⟩ = some (.int .i64 0) := (blk_cell BK354.out 2).trans rfl; have hcz11_3 : w10.cell? ⟨gb354, 3, none⟩ = some (.int .i64 0) := (blk_cell BK354.out 3).trans rfl; have hfz11_0 := blk_frozen BK354.out 0; have hfz11_1 := blk_frozen BK354.out 1; have hfz11_2 := blk_frozen BK354.out 2; have hfz11_3 := blk_frozen BK354.out 3))
          go_roundg k2
          case measure => have := HK1.out; have := HK2.out; omega
          case rel => exact ⟨(wrap64 (x20_2 + 1)), zF, H', ⟨by have := HK1.out; have := HK2.out; omega⟩, ⟨by (with_reducible repeat (first | apply Kd.R_alloc | apply Kd.R_drewN | apply Kd.R_drew)); exact Kd.R_mono (Kd.R_far (p := ⟨gb354, 3, none⟩) (Kd.R_far (p := ⟨gb354, 2, none⟩) (Kd.R_far (p := ⟨gb354, 1, none⟩) (Kd.R_far (p := ⟨gb354, 0, none⟩) (Kd.R_mono HO_18.out (fun k_ hk => (⟨hk, hk.2⟩ : _ ∧ k_ ≠ gb354))) (fun _ hk => hk.2) (.int .i64 ((rd_T80 t350 x20_2).f0))) (fun _ hk => hk.2) (.int .i64 ((rd_T80 t350 x20_2).f1))) (fun _ hk => hk.2) (.int .i64 ((rd_T80 t350 x20_2).f2))) (fun _ hk => hk.2) (.int .i64 ((rd_T80 t350 x20_2).f3))) (fun _ hk => trivial)⟩, ⟨zG GE354.out⟩⟩
         ·rw [if_neg c9] at H
          have c9b0 : (((rd_T80 t350 x20_2).f0) == x3_1) = false := beq_eq_false_iff_ne.mpr c9
          have c9b1 : (((rd_T80 t350 x20_2).f0) != x3_1) = true := bne_iff_ne.mpr c9
          by_cases c12 : ((rd_T80 t350 x20_2).f1) = x3_1
          ·rw [if_pos c12] at H
           have c12b0 : (((rd_T80 t350 x20_2).f1) == x3_1) = true := beq_iff_eq.mpr c12
           have c12b1 : (((rd_T80 t350 x20_2).f1) != x3_1) = false := bne_eq_false_iff_eq.mpr c12
           clear c12
           have H' := Aside0.mk H
           clear H
           have p353 : 0 ≤ (x20_2 : Int) := zA
           have q353 : x20_2 < (t350.length : Int) := zA
           obtain ⟨ad353, e353, hx353_0, hx353_1, hx353_2, hx353_3⟩ := at_T80 (Kd.R_reads' HO_18.out).2.2 x20_2 p353 q353
           cases e353
           replace p353 := eq_true p353
           replace q353 := eq_true q353
           go_wp2_with (first | ((with_reducible refine gate_dst (N := 5) rfl ?_); refine box_event ?hg (N := 5) ?hd (cs := #[.int .i64 0, .int .i64 0, .int .i64 0, .int .i64 0]) (t := 80) ?hr ?_; (case hd => rfl); (case hg => rfl); (case hr => first | (go_simp; done) | (go_simp; rfl)); intro gb354 hg w13 hbox hb; have n0_ := Aside0.mk (Kd.R_below (Kd.R_elderB (zR HO_18.out) gb354 (Nat.le_of_eq hg.symm)) hb); have n1_ := Aside0.mk (below_step zB hb); have n2_ := Aside0.mk (hbox); have n3_ := Aside0.mk ((by rw [hg]; exact (below_size zB) : w.heap.size ≤ gb354)); have n4_ := Aside0.mk ((by rw [hg]; exact (below_size zB) : w.heap.size ≤ gb354)); clear HO_18; clear HB; have HO_18 := n0_; have HB := n1_; have BK354 := n2_; have GW354 := n3_; have GE354 := n4_; clear n0_ n1_ n2_ n3_ n4_; clear hb hbox hg; have hcz14_0 : w13.cell? ⟨gb354, 0, none⟩ = some (.int .i64 0) := (blk_cell BK354.out 0).trans rfl; have hcz14_1 : w13.cell? ⟨gb354, 1, none⟩ = some (.int .i64 0) := (blk_cell BK354.out 1).trans rfl; have hcz14_2 : w13.cell? ⟨gb354, 2, none⟩ = some (.int .i64 0) := (blk_cell BK354.out 2).trans rfl; have hcz14_3 : w13.cell? ⟨gb354, 3, none⟩ = some (.int .i64 0) := (blk_cell BK354.out 3).trans rfl; have hfz14_0 := blk_frozen BK354.out 0; have hfz14_1 := blk_frozen BK354.out 1; have hfz14_2 := blk_frozen BK354.out 2; have hfz14_3 := blk_frozen BK354.out 3))
           go_roundg k2
           case measure => have := HK1.out; have := HK2.out; omega
           case rel => exact ⟨(wrap64 (x20_2 + 1)), zF, H', ⟨by have := HK1.out; have := HK2.out; omega⟩, ⟨by (with_reducible repeat (first | apply Kd.R_alloc | apply Kd.R_drewN | apply Kd.R_drew)); exact Kd.R_mono (Kd.R_far (p := ⟨gb354, 3, none⟩) (Kd.R_far (p := ⟨gb354, 2, none⟩) (Kd.R_far (p := ⟨gb354, 1, none⟩) (Kd.R_far (p := ⟨gb354, 0, none⟩) (Kd.R_mono HO_18.out (fun k_ hk => (⟨hk, hk.2⟩ : _ ∧ k_ ≠ gb354))) (fun _ hk => hk.2) (.int .i64 ((rd_T80 t350 x20_2).f0))) (fun _ hk => hk.2) (.int .i64 ((rd_T80 t350 x20_2).f1))) (fun _ hk => hk.2) (.int .i64 ((rd_T80 t350 x20_2).f2))) (fun _ hk => hk.2) (.int .i64 ((rd_T80 t350 x20_2).f3))) (fun _ hk => trivial)⟩, ⟨zG GE354.out⟩⟩
          ·rw [if_neg c12] at H
           have c12b0 : (((rd_T80 t350 x20_2).f1) == x3_1) = false := beq_eq_false_iff_ne.mpr c12
           have c12b1 : (((rd_T80 t350 x20_2).f1) != x3_1) = true := bne_iff_ne.mpr c12
           by_cases c15 : ((rd_T80 t350 x20_2).f2) = x3_1
           ·rw [if_pos c15] at H
            have c15b0 : (((rd_T80 t350 x20_2).f2) == x3_1) = true := beq_iff_eq.mpr c15
            have c15b1 : (((rd_T80 t350 x20_2).f2) != x3_1) = false := bne_eq_false_iff_eq.mpr c15
            clear c15
            have H' := Aside0.mk H
            clear H
            have p353 : 0 ≤ (x20_2 : Int) := zA
            have q353 : x20_2 < (t350.length : Int) := zA
            obtain ⟨ad353, e353, hx353_0, hx353_1, hx353_2, hx353_3⟩ := at_T80 (Kd.R_reads' HO_18.out).2.2 x20_2 p353 q353
            cases e353
            replace p353 := eq_true p353
            replace q353 := eq_true q353
            go_wp2_with (first | ((with_reducible refine gate_dst (N := 5) rfl ?_); refine box_event ?hg (N := 5) ?hd (cs := #[.int .i64 0, .int .i64 0, .int .i64 0, .int .i64 0]) (t := 80) ?hr ?_; (case hd => rfl); (case hg => rfl); (case hr => first | (go_simp; done) | (go_simp; rfl)); intro gb354 hg w16 hbox hb; have n0_ := Aside0.mk (Kd.R_below (Kd.R_elderB (zR HO_18.out) gb354 (Nat.le_of_eq hg.symm)) hb); have n1_ := Aside0.mk (below_step zB hb); have n2_ := Aside0.mk (hbox); have n3_ := Aside0.mk ((by rw [hg]; exact (below_size zB) : w.heap.size ≤ gb354)); have n4_ := Aside0.mk ((by rw [hg]; exact (below_size zB) : w.heap.size ≤ gb354)); clear HO_18; clear HB; have HO_18 := n0_; have HB := n1_; have BK354 := n2_; have GW354 := n3_; have GE354 := n4_; clear n0_ n1_ n2_ n3_ n4_; clear hb hbox hg; have hcz17_0 : w16.cell? ⟨gb354, 0, none⟩ = some (.int .i64 0) := (blk_cell BK354.out 0).trans rfl; have hcz17_1 : w16.cell? ⟨gb354, 1, none⟩ = some (.int .i64 0) := (blk_cell BK354.out 1).trans rfl; have hcz17_2 : w16.cell? ⟨gb354, 2, none⟩ = some (.int .i64 0) := (blk_cell BK354.out 2).trans rfl; have hcz17_3 : w16.cell? ⟨gb354, 3, none⟩ = some (.int .i64 0) := (blk_cell BK354.out 3).trans rfl; have hfz17_0 := blk_frozen BK354.out 0; have hfz17_1 := blk_frozen BK354.out 1; have hfz17_2 := blk_frozen BK354.out 2; have hfz17_3 := blk_frozen BK354.out 3))
            go_roundg k2
            case measure => have := HK1.out; have := HK2.out; omega
            case rel => exact ⟨(wrap64 (x20_2 + 1)), zF, H', ⟨by have := HK1.out; have := HK2.out; omega⟩, ⟨by (with_reducible repeat (first | apply Kd.R_alloc | apply Kd.R_drewN | apply Kd.R_drew)); exact Kd.R_mono (Kd.R_far (p := ⟨gb354, 3, none⟩) (Kd.R_far (p := ⟨gb354, 2, none⟩) (Kd.R_far (p := ⟨gb354, 1, none⟩) (Kd.R_far (p := ⟨gb354, 0, none⟩) (Kd.R_mono HO_18.out (fun k_ hk => (⟨hk, hk.2⟩ : _ ∧ k_ ≠ gb354))) (fun _ hk => hk.2) (.int .i64 ((rd_T80 t350 x20_2).f0))) (fun _ hk => hk.2) (.int .i64 ((rd_T80 t350 x20_2).f1))) (fun _ hk => hk.2) (.int .i64 ((rd_T80 t350 x20_2).f2))) (fun _ hk => hk.2) (.int .i64 ((rd_T80 t350 x20_2).f3))) (fun _ hk => trivial)⟩, ⟨zG GE354.out⟩⟩
           ·rw [if_neg c15] at H
            have c15b0 : (((rd_T80 t350 x20_2).f2) == x3_1) = false := beq_eq_false_iff_ne.mpr c15
            have c15b1 : (((rd_T80 t350 x20_2).f2) != x3_1) = true := bne_iff_ne.mpr c15
            by_cases c18 : ((rd_T80 t350 x20_2).f3) = x3_1
            ·rw [if_pos c18] at H
             have c18b0 : (((rd_T80 t350 x20_2).f3) == x3_1) = true := beq_iff_eq.mpr c18
             have c18b1 : (((rd_T80 t350 x20_2).f3) != x3_1) = false := bne_eq_false_iff_eq.mpr c18
             clear c18
             have H' := Aside0.mk H
             clear H
             have p353 : 0 ≤ (x20_2 : Int) := zA
             have q353 : x20_2 < (t350.length : Int) := zA
             obtain ⟨ad353, e353, hx353_0, hx353_1, hx353_2, hx353_3⟩ := at_T80 (Kd.R_reads' HO_18.out).2.2 x20_2 p353 q353
             cases e353
             replace p353 := eq_true p353
             replace q353 := eq_true q353
             go_wp2_with (first | ((with_reducible refine gate_dst (N := 5) rfl ?_); refine box_event ?hg (N := 5) ?hd (cs := #[.int .i64 0, .int .i64 0, .int .i64 0, .int .i64 0]) (t := 80) ?hr ?_; (case hd => rfl); (case hg => rfl); (case hr => first | (go_simp; done) | (go_simp; rfl)); intro gb354 hg w19 hbox hb; have n0_ := Aside0.mk (Kd.R_below (Kd.R_elderB (zR HO_18.out) gb354 (Nat.le_of_eq hg.symm)) hb); have n1_ := Aside0.mk (below_step zB hb); have n2_ := Aside0.mk (hbox); have n3_ := Aside0.mk ((by rw [hg]; exact (below_size zB) : w.heap.size ≤ gb354)); have n4_ := Aside0.mk ((by rw [hg]; exact (below_size zB) : w.heap.size ≤ gb354)); clear HO_18; clear HB; have HO_18 := n0_; have HB := n1_; have BK354 := n2_; have GW354 := n3_; have GE354 := n4_; clear n0_ n1_ n2_ n3_ n4_; clear hb hbox hg; have hcz20_0 : w19.cell? ⟨gb354, 0, none⟩ = some (.int .i64 0) := (blk_cell BK354.out 0).trans rfl; have hcz20_1 : w19.cell? ⟨gb354, 1, none⟩ = some (.int .i64 0) := (blk_cell BK354.out 1).trans rfl; have hcz20_2 : w19.cell? ⟨gb354, 2, none⟩ = some (.int .i64 0) := (blk_cell BK354.out 2).trans rfl; have hcz20_3 : w19.cell? ⟨gb354, 3, none⟩ = some (.int .i64 0) := (blk_cell BK354.out 3).trans rfl; have hfz20_0 := blk_frozen BK354.out 0; have hfz20_1 := blk_frozen BK354.out 1; have hfz20_2 := blk_frozen BK354.out 2; have hfz20_3 := blk_frozen BK354.out 3))
             go_roundg k2
             case measure => have := HK1.out; have := HK2.out; omega
             case rel => exact ⟨(wrap64 (x20_2 + 1)), zF, H', ⟨by have := HK1.out; have := HK2.out; omega⟩, ⟨by (with_reducible repeat (first | apply Kd.R_alloc | apply Kd.R_drewN | apply Kd.R_drew)); exact Kd.R_mono (Kd.R_far (p := ⟨gb354, 3, none⟩) (Kd.R_far (p := ⟨gb354, 2, none⟩) (Kd.R_far (p := ⟨gb354, 1, none⟩) (Kd.R_far (p := ⟨gb354, 0, none⟩) (Kd.R_mono HO_18.out (fun k_ hk => (⟨hk, hk.2⟩ : _ ∧ k_ ≠ gb354))) (fun _ hk => hk.2) (.int .i64 ((rd_T80 t350 x20_2).f0))) (fun _ hk => hk.2) (.int .i64 ((rd_T80 t350 x20_2).f1))) (fun _ hk => hk.2) (.int .i64 ((rd_T80 t350 x20_2).f2))) (fun _ hk => hk.2) (.int .i64 ((rd_T80 t350 x20_2).f3))) (fun _ hk => trivial)⟩, ⟨zG GE354.out⟩⟩
            ·rw [if_neg c18] at H
             have c18b0 : (((rd_T80 t350 x20_2).f3) == x3_1) = false := beq_eq_false_iff_ne.mpr c18
             have c18b1 : (((rd_T80 t350 x20_2).f3) != x3_1) = true := bne_iff_ne.mpr c18
             replace H := Option.bind_eq_some_iff.mp H
             obtain ⟨t355, A210, H⟩ := H
             replace H : (if t355 = true then (some (([x3_1, (rd_T80 t350 x20_2).f0, (rd_T80 t350 x20_2).f1, (rd_T80 t350 x20_2).f2, (rd_T80 t350 x20_2).f3] : List Int))) else (impl_chi_firstBreak.l1 k2 l0 x3_1 t350 (t350.length : Int) (wrap64 (x20_2 + 1)))) = some r := H
             have A21 := Aside0.mk A210
             clear A210
             by_cases c22 : t355 = true
             ·subst c22
              have H1 : (some (([x3_1, (rd_T80 t350 x20_2).f0, (rd_T80 t350 x20_2).f1, (rd_T80 t350 x20_2).f2, (rd_T80 t350 x20_2).f3] : List Int))) = some r := by rw [if_pos rfl] at H; exact H
              clear H
              have H := H1
              clear H1
              obtain ⟨y356, hy356⟩ : ∃ y_ : List Int, y_ = (([x3_1, (rd_T80 t350 x20_2).f0, (rd_T80 t350 x20_2).f1, (rd_T80 t350 x20_2).f2, (rd_T80 t350 x20_2).f3] : List Int)) := ⟨_, rfl⟩
              replace H : (some y356) = some r := by first | (rw [hy356]; with_reducible exact H) | (have H2_ := (Option.bind_some _ _).symm.trans H; rw [hy356]; with_reducible exact H2_) | (have H2_ := (Option.bind_some _ _).symm.trans H; with_reducible exact H2_) | with_reducible exact H | (rw [hy356]; exact H) | exact H
              have Ny356 := Aside0.mk hy356
              clear hy356
              obtain rfl := Option.some.inj H
              have p353 : 0 ≤ (x20_2 : Int) := zA
              have q353 : x20_2 < (t350.length : Int) := zA
              obtain ⟨ad353, e353, hx353_0, hx353_1, hx353_2, hx353_3⟩ := at_T80 (Kd.R_reads' HO_18.out).2.2 x20_2 p353 q353
              cases e353
              replace p353 := eq_true p353
              replace q353 := eq_true q353
              go_wp2_with (first | ((with_reducible refine gate_dst (N := 5) rfl ?_); refine box_event ?hg (N := 5) ?hd (cs := #[.int .i64 0, .int .i64 0, .int .i64 0, .int .i64 0]) (t := 80) ?hr ?_; (case hd => rfl); (case hg => rfl); (case hr => first | (go_simp; done) | (go_simp; rfl)); intro gb354 hg w23 hbox hb; have n0_ := Aside0.mk (Kd.R_below (Kd.R_elderB (zR HO_18.out) gb354 (Nat.le_of_eq hg.symm)) hb); have n1_ := Aside0.mk (below_step zB hb); have n2_ := Aside0.mk (hbox); have n3_ := Aside0.mk ((by rw [hg]; exact (below_size zB) : w.heap.size ≤ gb354)); have n4_ := Aside0.mk ((by rw [hg]; exact (below_size zB) : w.heap.size ≤ gb354)); clear HO_18; clear HB; have HO_18 := n0_; have HB := n1_; have BK354 := n2_; have GW354 := n3_; have GE354 := n4_; clear n0_ n1_ n2_ n3_ n4_; clear hb hbox hg; have hcz24_0 : w23.cell? ⟨gb354, 0, none⟩ = some (.int .i64 0) := (blk_cell BK354.out 0).trans rfl; have hcz24_1 : w23.cell? ⟨gb354, 1, none⟩ = some (.int .i64 0) := (blk_cell BK354.out 1).trans rfl; have hcz24_2 : w23.cell? ⟨gb354, 2, none⟩ = some (.int .i64 0) := (blk_cell BK354.out 2).trans rfl; have hcz24_3 : w23.cell? ⟨gb354, 3, none⟩ = some (.int .i64 0) := (blk_cell BK354.out 3).trans rfl; have hfz24_0 := blk_frozen BK354.out 0; have hfz24_1 := blk_frozen BK354.out 1; have hfz24_2 := blk_frozen BK354.out 2; have hfz24_3 := blk_frozen BK354.out 3) | (go_at_call 78; (with_reducible refine (impl_chi_breaks.calls _ l0 x3_1 ((rd_T80 t350 x20_2).f0) ((rd_T80 t350 x20_2).f1) ((rd_T80 t350 x20_2).f2) ((rd_T80 t350 x20_2).f3) true _ ?side1 ?side2 A21.out).mono ?_); (case side1 => exact Kd.C_below HR0.out (zG GE354.out)); (case side2 => exact HC0.out); rintro e w' ⟨rfl, ⟨nd, rfl⟩⟩) | ((with_reducible refine gate_dst (N := 68) rfl ?_); refine Kd.R_lit (Kd.int .i64) _ 3 ?hg (N := 68) ?hd (xs := ([x3_1, (rd_T80 t350 x20_2).f0, (rd_T80 t350 x20_2).f1, (rd_T80 t350 x20_2).f2, (rd_T80 t350 x20_2).f3] : List Int)) (inner := [.int .i64 x3_1, .int .i64 ((rd_T80 t350 x20_2).f0), .int .i64 ((rd_T80 t350 x20_2).f1), .int .i64 ((rd_T80 t350 x20_2).f2), .int .i64 ((rd_T80 t350 x20_2).f3)]) (ok := fun _ => True) (okp := fun _ => True) ?hr ?hp (fun _ hk => hk) trivial (Below.refl _ _) (Nat.le_refl _) (by simp) ?_; (case hd => rfl); (case hg => rfl); (case hr => first | (go_simp; done) | (go_simp; rfl)); (case hp => exact (Reps.one (show Kd.M (Kd.int .i64) _ _ _ x3_1 [.int .i64 x3_1] from rfl) (Reps.one (show Kd.M (Kd.int .i64) _ _ _ ((rd_T80 t350 x20_2).f0) [.int .i64 ((rd_T80 t350 x20_2).f0)] from rfl) (Reps.one (show Kd.M (Kd.int .i64) _ _ _ ((rd_T80 t350 x20_2).f1) [.int .i64 ((rd_T80 t350 x20_2).f1)] from rfl) (Reps.one (show Kd.M (Kd.int .i64) _ _ _ ((rd_T80 t350 x20_2).f2) [.int .i64 ((rd_T80 t350 x20_2).f2)] from rfl) (Reps.one (show Kd.M (Kd.int .i64) _ _ _ ((rd_T80 t350 x20_2).f3) [.int .i64 ((rd_T80 t350 x20_2).f3)] from rfl) (Reps.none _ _))))))); intro v357 w25 ho26 hb hg_ hnew_; clear hg_ hnew_; (first | rw [← Ny356.out] at ho26 | (simp only [Int.reduceToNat] at ho26; rw [← Ny356.out] at ho26)); have n0_ := Aside0.mk (Kd.R_below (by (with_reducible repeat (first | apply Kd.R_alloc | apply Kd.R_drewN | apply Kd.R_drew)); exact (Kd.R_mono (Kd.R_far (p := ⟨gb354, 3, none⟩) (Kd.R_far (p := ⟨gb354, 2, none⟩) (Kd.R_far (p := ⟨gb354, 1, none⟩) (Kd.R_far (p := ⟨gb354, 0, none⟩) (Kd.R_mono HO_18.out (fun k_ hk => (⟨hk, hk.2⟩ : _ ∧ k_ ≠ gb354))) (fun _ hk => hk.2) (.int .i64 ((rd_T80 t350 x20_2).f0))) (fun _ hk => hk.2) (.int .i64 ((rd_T80 t350 x20_2).f1))) (fun _ hk => hk.2) (.int .i64 ((rd_T80 t350 x20_2).f2))) (fun _ hk => hk.2) (.int .i64 ((rd_T80 t350 x20_2).f3))) (fun _ h_ => h_.1))) hb); have n1_ := Aside0.mk (Kd.R_lower ho26 (below_size (zG GE354.out))); have n2_ := Aside0.mk (blk_below (g := gb354) (o := .cells #[.int .i64 ((rd_T80 t350 x20_2).f0), .int .i64 ((rd_T80 t350 x20_2).f1), .int .i64 ((rd_T80 t350 x20_2).f2), .int .i64 ((rd_T80 t350 x20_2).f3)] 80 (0, 0)) (by (with_reducible repeat (first | refine blk_drewN ?_ _ | refine blk_drew ?_ | refine blk_alloc ?_ _)); refine blk_put (cs := #[.int .i64 ((rd_T80 t350 x20_2).f0), .int .i64 ((rd_T80 t350 x20_2).f1), .int .i64 ((rd_T80 t350 x20_2).f2), .int .i64 0]) ?_ 3 _ rfl; (with_reducible repeat (first | refine blk_drewN ?_ _ | refine blk_drew ?_ | refine blk_alloc ?_ _)); refine blk_put (cs := #[.int .i64 ((rd_T80 t350 x20_2).f0), .int .i64 ((rd_T80 t350 x20_2).f1), .int .i64 0, .int .i64 0]) ?_ 2 _ rfl; (with_reducible repeat (first | refine blk_drewN ?_ _ | refine blk_drew ?_ | refine blk_alloc ?_ _)); refine blk_put (cs := #[.int .i64 ((rd_T80 t350 x20_2).f0), .int .i64 0, .int .i64 0, .int .i64 0]) ?_ 1 _ rfl; (with_reducible repeat (first | refine blk_drewN ?_ _ | refine blk_drew ?_ | refine blk_alloc ?_ _)); refine blk_put (cs := #[.int .i64 0, .int .i64 0, .int .i64 0, .int .i64 0]) ?_ 0 _ rfl; (with_reducible repeat (first | refine blk_drewN ?_ _ | refine blk_drew ?_ | refine blk_alloc ?_ _)); exact BK354.out) hb); have n3_ := Aside0.mk (below_step (zG GE354.out) hb); clear HO_18; clear BK354; clear HB; have HO_18 := n0_; have HO358 := n1_; have BK354 := n2_; have HB := n3_; clear n0_ n1_ n2_ n3_; clear hb ho26))
              go_ret
              exact ⟨_, zE, zR HO358.out, zG GE354.out⟩
             ·replace c22 := Bool.eq_false_iff.mpr c22
              subst c22
              have H1 : (impl_chi_firstBreak.l1 k2 l0 x3_1 t350 (t350.length : Int) (wrap64 (x20_2 + 1))) = some r := by rw [if_neg (show ¬ (false = true) by decide)] at H; exact H
              clear H
              have H := H1
              clear H1
              have H' := Aside0.mk H
              clear H
              have p353 : 0 ≤ (x20_2 : Int) := zA
              have q353 : x20_2 < (t350.length : Int) := zA
              obtain ⟨ad353, e353, hx353_0, hx353_1, hx353_2, hx353_3⟩ := at_T80 (Kd.R_reads' HO_18.out).2.2 x20_2 p353 q353
              cases e353
              replace p353 := eq_true p353
              replace q353 := eq_true q353
              go_wp2_with (first | ((with_reducible refine gate_dst (N := 5) rfl ?_); refine box_event ?hg (N := 5) ?hd (cs := #[.int .i64 0, .int .i64 0, .int .i64 0, .int .i64 0]) (t := 80) ?hr ?_; (case hd => rfl); (case hg => rfl); (case hr => first | (go_simp; done) | (go_simp; rfl)); intro gb354 hg w27 hbox hb; have n0_ := Aside0.mk (Kd.R_below (Kd.R_elderB (zR HO_18.out) gb354 (Nat.le_of_eq hg.symm)) hb); have n1_ := Aside0.mk (below_step zB hb); have n2_ := Aside0.mk (hbox); have n3_ := Aside0.mk ((by rw [hg]; exact (below_size zB) : w.heap.size ≤ gb354)); have n4_ := Aside0.mk ((by rw [hg]; exact (below_size zB) : w.heap.size ≤ gb354)); clear HO_18; clear HB; have HO_18 := n0_; have HB := n1_; have BK354 := n2_; have GW354 := n3_; have GE354 := n4_; clear n0_ n1_ n2_ n3_ n4_; clear hb hbox hg; have hcz28_0 : w27.cell? ⟨gb354, 0, none⟩ = some (.int .i64 0) := (blk_cell BK354.out 0).trans rfl; have hcz28_1 : w27.cell? ⟨gb354, 1, none⟩ = some (.int .i64 0) := (blk_cell BK354.out 1).trans rfl; have hcz28_2 : w27.cell? ⟨gb354, 2, none⟩ = some (.int .i64 0) := (blk_cell BK354.out 2).trans rfl; have hcz28_3 : w27.cell? ⟨gb354, 3, none⟩ = some (.int .i64 0) := (blk_cell BK354.out 3).trans rfl; have hfz28_0 := blk_frozen BK354.out 0; have hfz28_1 := blk_frozen BK354.out 1; have hfz28_2 := blk_frozen BK354.out 2; have hfz28_3 := blk_frozen BK354.out 3) | (go_at_call 78; (with_reducible refine (impl_chi_breaks.calls _ l0 x3_1 ((rd_T80 t350 x20_2).f0) ((rd_T80 t350 x20_2).f1) ((rd_T80 t350 x20_2).f2) ((rd_T80 t350 x20_2).f3) false _ ?side1 ?side2 A21.out).mono ?_); (case side1 => exact Kd.C_below HR0.out (zG GE354.out)); (case side2 => exact HC0.out); rintro e w' ⟨rfl, ⟨nd, rfl⟩⟩))
              go_roundg k2
              case measure => have := HK1.out; have := HK2.out; omega
              case rel => exact ⟨(wrap64 (x20_2 + 1)), zF, H', ⟨by have := HK1.out; have := HK2.out; omega⟩, ⟨by (with_reducible repeat (first | apply Kd.R_alloc | apply Kd.R_drewN | apply Kd.R_drew)); exact Kd.R_mono (Kd.R_far (p := ⟨gb354, 3, none⟩) (Kd.R_far (p := ⟨gb354, 2, none⟩) (Kd.R_far (p := ⟨gb354, 1, none⟩) (Kd.R_far (p := ⟨gb354, 0, none⟩) (Kd.R_mono HO_18.out (fun k_ hk => (⟨hk, hk.2⟩ : _ ∧ k_ ≠ gb354))) (fun _ hk => hk.2) (.int .i64 ((rd_T80 t350 x20_2).f0))) (fun _ hk => hk.2) (.int .i64 ((rd_T80 t350 x20_2).f1))) (fun _ hk => hk.2) (.int .i64 ((rd_T80 t350 x20_2).f2))) (fun _ hk => hk.2) (.int .i64 ((rd_T80 t350 x20_2).f3))) (fun _ hk => trivial)⟩, ⟨zG GE354.out⟩⟩
        ·rw [if_neg c8] at H
         exact absurd H (by simp)
       ·rw [if_neg c7] at H
        exact absurd H (by simp)
      ·rw [if_neg c6] at H
       have c6b0 : decide (x20_2 < (t350.length : Int)) = false := decide_eq_false c6
       clear c6
       have H' := Aside0.mk H
       clear H
       go_wp2
       go_roundg k2
       case measure => have := HK1.out; have := HK2.out; omega
       case rel => exact ⟨(wrap64 (x3_1 + 1)), zF, H', ⟨by have := HK1.out; have := HK2.out; omega⟩, ⟨zB⟩⟩
   ·rw [if_neg c2] at H
    have c2b0 : decide (x3_1 < (rd l0 0)) = false := decide_eq_false c2
    clear c2
    obtain rfl := Option.some.inj H
    have hL348 := HC0.out
    have dq348 : decide (0 < (l0.length : Int)) = true := decide_eq_true (by omega)
    clear hL348
    have p348 : 0 ≤ (0 : Int) := (by omega)
    have q348 : 0 < (l0.length : Int) := zA
    obtain ⟨ad348, e348, hx348_0⟩ := Kd.at_int HR0.out 0 p348 q348
    obtain rfl : (⟨g0, 0, none⟩ : Addr) = ad348 := (by injection e348)
    (first | simp only [add_plain] at hx348_0 | simp only [add_at] at hx348_0 | simp only [Addr.add, Nat.zero_add] at hx348_0 | skip)
    have qi348 : (0 < l0.length) = True := eq_true (by omega)
    (try rw [show ((0 : Int)).toNat = 0 from rfl] at hx348_0)
    (try rw [Addr.add_zero'] at hx348_0)
    replace hx348_0 := (HB.out.cell (World.block_lt_of_cell? w _ hx348_0)).trans hx348_0
    replace p348 := eq_true p348
    replace q348 := eq_true q348
    clear dq348
    go_wp2
    go_ret
    exact ⟨_, zE, by first | exact Kd.R_nil _ _ _ _ _ | exact Kd.N_nil _ _ _ _ _ | exact Kd.V_nil _ _ _ _ _ | exact Kd.Q_nil _ _ _ _ _ | exact Kd.S_nil _ _ _ _ _, zB⟩
/-! ### impl_FirstBreak: function 34 -/
def impl_FirstBreak.f (k : Nat) (a0_0 : Int) (a0_1 : ByteArray) : Option (List Int) := (impl_AreSigns.f k a0_0 a0_1).bind fun t360 => (if t360 = true then ((impl_tableOf.f k a0_0 a0_1).bind fun t361 => (if t361.length = 344 then ((impl_chi_firstBreak.f k t361).bind fun t364 => (some t364)) else (none))) else (some ([] : List Int)))
theorem impl_FirstBreak.mono : ∀ a0 a1 k, LeO (impl_FirstBreak.f k a0 a1) (impl_FirstBreak.f (k + 1) a0 a1) := by
 intro a0 a1 k
 unfold impl_FirstBreak.f
 repeat' first
   | (with_reducible exact impl_AreSigns.mono _ _ _)
   | (with_reducible exact impl_chi_firstBreak.mono _ _)
   | (with_reducible exact impl_tableOf.mono _ _ _)
   | (with_reducible exact LeO.refl _)
   | (with_reducible exact LeO.none _)
   | (with_reducible refine LeO.ite ?_ ?_)
   | (with_reducible refine LeO.bind ?_ (fun _ => ?_))
   | exact impl_AreSigns.mono _ _ _
   | exact impl_chi_firstBreak.mono _ _
   | exact impl_tableOf.mono _ _ _
   | exact LeO.none _
   | refine LeO.ite ?_ ?_
   | refine LeO.bind ?_ (fun _ => ?_)
set_option maxHeartbeats 8000000 in
set_option maxRecDepth 100000 in
theorem impl_FirstBreak.calls (k : Nat) (a0_0 : Int) (a0_1 : ByteArray) (r : List Int) (w : World) (h : impl_FirstBreak.f k a0_0 a0_1 = some r) :
  Calls Try.prog 34 #[.agg #[.int .i64 a0_0, .string a0_1]] w fun e w' => ∃ v0_ : Value, e = .returned (v0_) ∧ Kd.R (Kd.int .i64) 3 w' w.heap.size (fun _ => True) v0_ r ∧ Below w.heap.size w w' := by
 have hu26 := Try.underlying26
 have HB := Aside0.mk (Below.refl w.heap.size w)
 have H : ((impl_AreSigns.f k a0_0 a0_1).bind fun t360 => (if t360 = true then ((impl_tableOf.f k a0_0 a0_1).bind fun t361 => (if t361.length = 344 then ((impl_chi_firstBreak.f k t361).bind fun t364 => (some t364)) else (none))) else (some ([] : List Int)))) = some r := h
 clear h
 replace H := Option.bind_eq_some_iff.mp H
 obtain ⟨t360, A20, H⟩ := H
 replace H : (if t360 = true then ((impl_tableOf.f k a0_0 a0_1).bind fun t361 => (if t361.length = 344 then ((impl_chi_firstBreak.f k t361).bind fun t364 => (some t364)) else (none))) else (some ([] : List Int))) = some r := H
 have A2 := Aside0.mk A20
 clear A20
 by_cases c3 : t360 = true
 ·subst c3
  have H1 : ((impl_tableOf.f k a0_0 a0_1).bind fun t361 => (if t361.length = 344 then ((impl_chi_firstBreak.f k t361).bind fun t364 => (some t364)) else (none))) = some r := by rw [if_pos rfl] at H; exact H
  clear H
  have H := H1
  clear H1
  replace H := Option.bind_eq_some_iff.mp H
  obtain ⟨t361, A40, H⟩ := H
  replace H : (if t361.length = 344 then ((impl_chi_firstBreak.f k t361).bind fun t364 => (some t364)) else (none)) = some r := H
  have A4 := Aside0.mk A40
  clear A40
  by_cases c5 : t361.length = 344
  ·rw [if_pos c5] at H
   have c5b0 := eq_true c5
   have c5b1 : decide (t361.length = 344) = true := decide_eq_true c5
   clear c5
   replace H := Option.bind_eq_some_iff.mp H
   obtain ⟨t364, A60, H⟩ := H
   replace H : (some t364) = some r := H
   have A6 := Aside0.mk A60
   clear A60
   obtain rfl := Option.some.inj H
   go_enter Try.func34, Try.ntmps34
   go_wp2_with (first | ((with_reducible refine gate_dst (N := 1) rfl ?_); refine box_event ?hg (N := 1) ?hd (cs := #[.int .i64 a0_0, .string a0_1]) (t := 26) ?hr ?_; (case hd => rfl); (case hg => rfl); (case hr => first | (go_simp; done) | (go_simp; rfl)); intro gb359 hg w7 hbox hb; have n0_ := Aside0.mk (below_step zB hb); have n1_ := Aside0.mk (hbox); have n2_ := Aside0.mk ((by rw [hg]; exact (below_size zB) : w.heap.size ≤ gb359)); have n3_ := Aside0.mk ((by rw [hg]; exact (below_size zB) : w.heap.size ≤ gb359)); clear HB; have HB := n0_; have BK359 := n1_; have GW359 := n2_; have GE359 := n3_; clear n0_ n1_ n2_ n3_; clear hb hbox hg; have hcz8_0 : w7.cell? ⟨gb359, 0, none⟩ = some (.int .i64 a0_0) := (blk_cell BK359.out 0).trans rfl; have hcz8_1 : w7.cell? ⟨gb359, 1, none⟩ = some (.string a0_1) := (blk_cell BK359.out 1).trans rfl; have hfz8_0 := blk_frozen BK359.out 0; have hfz8_1 := blk_frozen BK359.out 1) | ((with_reducible refine gate_callee (f := 19) rfl ?_); refine goesL_ (some 4) rfl rfl Try.func19 (by kernel_rfl) rfl #[.agg #[.int .i64 a0_0, .string a0_1]] rfl zM ?_; (with_reducible refine (impl_AreSigns.calls k a0_0 a0_1 true _ A2.out).mono ?_); rintro e w9 ⟨rfl, hb⟩; refine ⟨_, rfl, ?_⟩; have n0_ := Aside0.mk (blk_below (g := gb359) (o := .cells #[.int .i64 a0_0, .string a0_1] 26 (0, 0)) (zK BK359.out) hb); have n1_ := Aside0.mk (below_step (zG GE359.out) hb); clear BK359; clear HB; have BK359 := n0_; have HB := n1_; clear n0_ n1_; (try clear hb); (try clear hb2); (try clear hk); (try clear hi); have hcz10_0 : w9.cell? ⟨gb359, 0, none⟩ = some (.int .i64 a0_0) := (blk_cell BK359.out 0).trans rfl; have hcz10_1 : w9.cell? ⟨gb359, 1, none⟩ = some (.string a0_1) := (blk_cell BK359.out 1).trans rfl; have hfz10_0 := blk_frozen BK359.out 0; have hfz10_1 := blk_frozen BK359.out 1) | ((with_reducible refine gate_callee (f := 55) rfl ?_); refine goesL_ (some 7) rfl rfl Try.func55 (by kernel_rfl) rfl #[.agg #[.int .i64 a0_0, .string a0_1]] rfl zM ?_; (with_reducible refine (impl_tableOf.calls k a0_0 a0_1 t361 _ A4.out).mono ?_); rintro e w11 ⟨v362, rfl, ho0, hb⟩; refine ⟨_, rfl, ?_⟩; have n0_ := Aside0.mk (Kd.R_lower ho0 (below_size (zG GE359.out))); have n1_ := Aside0.mk (blk_below (g := gb359) (o := .cells #[.int .i64 a0_0, .string a0_1] 26 (0, 0)) (zK BK359.out) hb); have n2_ := Aside0.mk (below_step (zG GE359.out) hb); clear BK359; clear HB; have HO363 := n0_; have BK359 := n1_; have HB := n2_; clear n0_ n1_ n2_; (try clear hb); (try clear hb2); (try clear hk); (try clear hi); (try clear ho0); obtain ⟨go12, co12, eo12, gb12, gl12, cl12, HG12⟩ := Kd.R_form HO363.out (by have hl_ := Nat.le_of_eq (Eq.symm (zA : t361.length = 344)); omega); (first | cases eo12 | (injection eo12 with ea_ en_ ec_; (first | subst ea_ | (injection ea_ with ea_; subst ea_)); subst ec_; clear en_)); have GB12 := Aside0.mk gb12; have GG12 := Aside0.mk HG12; clear gb12 gl12 HG12) | ((with_reducible refine gate_callee (f := 66) rfl ?_); refine goesL_ (some 8) rfl rfl Try.func66 (by kernel_rfl) rfl #[.pointer (some ⟨go12, 0, none⟩)] rfl zM ?_; (with_reducible refine (impl_chi_firstBreak.calls k _ t361 t364 _ ?side1 ?side2 A6.out).mono ?_); (case side1 => repeat (first | exact (Kd.R_reads' HO363.out).2.2 | (with_reducible refine Kd.C_alloc ?_ _) | (with_reducible refine Kd.C_drewN ?_ _) | (with_reducible refine Kd.C_drew ?_))); (case side2 => exact (zA : t361.length = 344)); rintro e w13 ⟨v365, rfl, ho0, hb⟩; refine ⟨_, rfl, ?_⟩; have n0_ := Aside0.mk (Kd.R_below (zR HO363.out) hb); have n1_ := Aside0.mk (Kd.R_lower ho0 (below_size (zG GE359.out))); have n2_ := Aside0.mk (blk_below (g := gb359) (o := .cells #[.int .i64 a0_0, .string a0_1] 26 (0, 0)) (zK BK359.out) hb); have n3_ := Aside0.mk (below_step (zG GE359.out) hb); clear HO363; clear BK359; clear HB; have HO363 := n0_; have HO366 := n1_; have BK359 := n2_; have HB := n3_; clear n0_ n1_ n2_ n3_; (try clear hb); (try clear hb2); (try clear hk); (try clear hi); (try clear ho0)))
   go_ret
   exact ⟨_, zE, zR HO366.out, zG GE359.out⟩
  ·rw [if_neg c5] at H
   exact absurd H (by simp)
 ·replace c3 := Bool.eq_false_iff.mpr c3
  subst c3
  have H1 : (some ([] : List Int)) = some r := by rw [if_neg (show ¬ (false = true) by decide)] at H; exact H
  clear H
  have H := H1
  clear H1
  obtain rfl := Option.some.inj H
  go_enter Try.func34, Try.ntmps34
  go_wp2_with (first | ((with_reducible refine gate_dst (N := 1) rfl ?_); refine box_event ?hg (N := 1) ?hd (cs := #[.int .i64 a0_0, .string a0_1]) (t := 26) ?hr ?_; (case hd => rfl); (case hg => rfl); (case hr => first | (go_simp; done) | (go_simp; rfl)); intro gb359 hg w14 hbox hb; have n0_ := Aside0.mk (below_step zB hb); have n1_ := Aside0.mk (hbox); have n2_ := Aside0.mk ((by rw [hg]; exact (below_size zB) : w.heap.size ≤ gb359)); have n3_ := Aside0.mk ((by rw [hg]; exact (below_size zB) : w.heap.size ≤ gb359)); clear HB; have HB := n0_; have BK359 := n1_; have GW359 := n2_; have GE359 := n3_; clear n0_ n1_ n2_ n3_; clear hb hbox hg; have hcz15_0 : w14.cell? ⟨gb359, 0, none⟩ = some (.int .i64 a0_0) := (blk_cell BK359.out 0).trans rfl; have hcz15_1 : w14.cell? ⟨gb359, 1, none⟩ = some (.string a0_1) := (blk_cell BK359.out 1).trans rfl; have hfz15_0 := blk_frozen BK359.out 0; have hfz15_1 := blk_frozen BK359.out 1) | ((with_reducible refine gate_callee (f := 19) rfl ?_); refine goesL_ (some 4) rfl rfl Try.func19 (by kernel_rfl) rfl #[.agg #[.int .i64 a0_0, .string a0_1]] rfl zM ?_; (with_reducible refine (impl_AreSigns.calls k a0_0 a0_1 false _ A2.out).mono ?_); rintro e w16 ⟨rfl, hb⟩; refine ⟨_, rfl, ?_⟩; have n0_ := Aside0.mk (blk_below (g := gb359) (o := .cells #[.int .i64 a0_0, .string a0_1] 26 (0, 0)) (zK BK359.out) hb); have n1_ := Aside0.mk (below_step (zG GE359.out) hb); clear BK359; clear HB; have BK359 := n0_; have HB := n1_; clear n0_ n1_; (try clear hb); (try clear hb2); (try clear hk); (try clear hi)))
  go_ret
  exact ⟨_, zE, by first | exact Kd.R_nil _ _ _ _ _ | exact Kd.N_nil _ _ _ _ _ | exact Kd.V_nil _ _ _ _ _ | exact Kd.Q_nil _ _ _ _ _ | exact Kd.S_nil _ _ _ _ _, zG GE359.out⟩
end Go.Proofs.Ytggbekkinkggfaa.PX
namespace Go.Proofs.Ytggbekkinkggfaa.PX
open Go.RowKit Go.Proofs.Ytggbekkinkggfaa.G Go.Proofs.YtggbekkinkggfaaW.PrintWords Go.Proofs.YtggbekkinkggfaaW.PrintLast Go.Proofs.YtggbekkinkggfaaW.PrintMore
attribute [local go_sem] max2_int min2_int max_two min_two max_three min_three max_four min_four   -- for this text's walks alone
set_option linter.unusedVariables false
set_option linter.unusedSimpArgs false
set_option maxHeartbeats 8000000 in
set_option maxRecDepth 100000 in
theorem impl_chi_firstBreak.callsN (k : Nat) (g0 : Nat) (l0 : List Int) (r : List Int) (w : World) (hr0 : Kd.C (Kd.int .i64) w (some ⟨g0, 0, none⟩) l0.length l0) (hc0 : l0.length = 344) (h : impl_chi_firstBreak.f k l0 = some r) :
    Calls Try.prog 66 #[.pointer (some ⟨g0, 0, none⟩)] w fun e w' => ∃ v0_ : Value, e = .returned (v0_) ∧ (Kd.R (Kd.int .i64) 3 w' w.heap.size (fun _ => True) v0_ r ∧ (r = [] → v0_ = .slice none 0 0)) ∧ Below w.heap.size w w' := by
  have hu80 := Try.underlying80
  have hu54 := Try.underlying54
  have HR0 := Aside0.mk hr0
  have HC0 := Aside0.mk hc0
  clear hr0 hc0
  have HB := Aside0.mk (Below.refl w.heap.size w)
  have H : (impl_chi_firstBreak.l0 k l0 0) = some r := h
  clear h
  have H' := Aside0.mk H
  clear H
  go_enter Try.func66, Try.ntmps66
  go_wp2
  go_loopg [3] k (fun kq v3 w' => ∃ (x3_1 : Int), v3 = .int .i64 x3_1 ∧ Aside0 (impl_chi_firstBreak.l0 kq l0 x3_1 = some r) ∧ Aside0 (kq ≤ k) ∧ Aside0 (Below w.heap.size w w'))
  case atStart => exact ⟨(0), (by first | rfl | (simp; done) | (simp [*]; done)), H', ⟨Nat.le_refl _⟩, ⟨by repeat (first | (with_reducible first | exact HB.out | apply below_alloc | apply pw_below_drewN | apply below_drew1) | exact HB.out)⟩⟩
  case round =>
    clear H'
    obtain ⟨x3_1, rfl, HA, HK1, HB⟩ := hrel
    cases gk with
    | zero => exact absurd HA.out (by simp [impl_chi_firstBreak.l0])
    | succ k1 =>
      have H := HA.out
      clear HA
      simp only [impl_chi_firstBreak.l0] at H
      by_cases c2 : x3_1 < (rd l0 0)
      · rw [if_pos c2] at H
        have c2b0 : decide (x3_1 < (rd l0 0)) = true := decide_eq_true c2
        clear c2
        replace H := Option.bind_eq_some_iff.mp H
        obtain ⟨t350, A30, H⟩ := H
        replace H : (impl_chi_firstBreak.l1 k1 l0 x3_1 t350 (t350.length : Int) 0) = some r := H
        have A3 := Aside0.mk A30
        clear A30
        have H' := Aside0.mk H
        clear H
        have hL348 := HC0.out
        have dq348 : decide (0 < (l0.length : Int)) = true := decide_eq_true (by omega)
        clear hL348
        have p348 : 0 ≤ (0 : Int) := (by omega)
        have q348 : 0 < (l0.length : Int) := of_decide_eq_true (by first | (with_reducible assumption) | assumption)
        obtain ⟨ad348, e348, hx348_0⟩ := Kd.at_int HR0.out 0 p348 q348
        obtain rfl : (⟨g0, 0, none⟩ : Addr) = ad348 := (by injection e348)
        (first | simp only [add_plain] at hx348_0 | simp only [add_at] at hx348_0 | simp only [Addr.add, Nat.zero_add] at hx348_0 | skip)
        have qi348 : (0 < l0.length) = True := eq_true (by omega)
        (try rw [show ((0 : Int)).toNat = 0 from rfl] at hx348_0)
        (try rw [Addr.add_zero'] at hx348_0)
        replace hx348_0 := (HB.out.cell (World.block_lt_of_cell? w _ hx348_0)).trans hx348_0
        replace p348 := eq_true p348
        replace q348 := eq_true q348
        clear dq348
        have hL349 := HC0.out
        have dq349 : decide (0 < (l0.length : Int)) = true := decide_eq_true (by omega)
        clear hL349
        have p349 : 0 ≤ (0 : Int) := (by omega)
        have q349 : 0 < (l0.length : Int) := of_decide_eq_true (by first | (with_reducible assumption) | assumption)
        obtain ⟨ad349, e349, hx349_0⟩ := Kd.at_int HR0.out 0 p349 q349
        obtain rfl : (⟨g0, 0, none⟩ : Addr) = ad349 := (by injection e349)
        (first | simp only [add_plain] at hx349_0 | simp only [add_at] at hx349_0 | simp only [Addr.add, Nat.zero_add] at hx349_0 | skip)
        have qi349 : (0 < l0.length) = True := eq_true (by omega)
        (try rw [show ((0 : Int)).toNat = 0 from rfl] at hx349_0)
        (try rw [Addr.add_zero'] at hx349_0)
        replace hx349_0 := (HB.out.cell (World.block_lt_of_cell? w _ hx349_0)).trans hx349_0
        replace p349 := eq_true p349
        replace q349 := eq_true q349
        clear dq349
        go_wp2_with (first | ((with_reducible refine gate_callee (f := 77) rfl ?_); refine goesL_ (some 18) rfl rfl Try.func77 (by kernel_rfl) rfl #[.int .i64 (rd l0 0)] rfl (by (try simp only [List.map_toArray, List.map_cons, List.map_nil]); first | done | rfl | (simp only [List.length_drop, List.length_take]; rfl)) ?_; (with_reducible refine (impl_quadsOf.calls k1 (rd l0 0) t350 _ A3.out).mono ?_); rintro e w4 ⟨v351, rfl, ho0, hb⟩; refine ⟨_, rfl, ?_⟩; have n0_ := Aside0.mk (Kd.R_lower ho0 (below_size (by repeat (first | (with_reducible first | exact HB.out | apply below_alloc | apply pw_below_drewN | apply below_drew1) | exact HB.out)))); have n1_ := Aside0.mk (below_step (by repeat (first | (with_reducible first | exact HB.out | apply below_alloc | apply pw_below_drewN | apply below_drew1) | exact HB.out)) hb); clear HB; have HO352 := n0_; have HB := n1_; clear n0_ n1_; (try clear hb); (try clear hb2); (try clear hk); (try clear hi); (try clear ho0); obtain ⟨Ao5, co5, eo5⟩ := Kd.R_slice HO352.out; subst eo5))
        go_loopg [20] k1 (fun kq v20 w' => ∃ (x20_2 : Int), v20 = .int .i64 x20_2 ∧ Aside0 (impl_chi_firstBreak.l1 kq l0 x3_1 t350 (t350.length : Int) x20_2 = some r) ∧ Aside0 (kq ≤ k1) ∧ Aside0 (Kd.R k80 80 w' w.heap.size (fun _ => True) (.slice Ao5 t350.length co5) t350) ∧ Aside0 (Below w.heap.size w w'))
        case atStart => exact ⟨(0), (by first | rfl | (simp; done) | (simp [*]; done)), H', ⟨Nat.le_refl _⟩, ⟨by (with_reducible repeat (first | apply Kd.R_alloc | apply Kd.R_drewN | apply Kd.R_drew)); exact HO352.out⟩, ⟨by repeat (first | (with_reducible first | exact HB.out | apply below_alloc | apply pw_below_drewN | apply below_drew1) | exact HB.out)⟩⟩
        case round =>
          clear H'
          try clear c2
          try clear c2b0
          try clear p2
          try clear p3
          try clear q3
          try clear hx3
          try clear qi3
          try clear hx348_0
          try clear hx349_0
          try clear p348
          try clear p349
          try clear q348
          try clear q349
          obtain ⟨x20_2, rfl, HA, HK2, HO_18, HB⟩ := hrel
          cases gk with
          | zero => exact absurd HA.out (by simp [impl_chi_firstBreak.l1])
          | succ k2 =>
            have H := HA.out
            clear HA
            simp only [impl_chi_firstBreak.l1] at H
            by_cases c6 : x20_2 < (t350.length : Int)
            · rw [if_pos c6] at H
              have c6b0 : decide (x20_2 < (t350.length : Int)) = true := decide_eq_true c6
              clear c6
              by_cases c7 : 0 ≤ x20_2
              · rw [if_pos c7] at H
                have c7b0 : decide (0 ≤ x20_2) = true := decide_eq_true c7
                clear c7
                by_cases c8 : x20_2 < (t350.length : Int)
                · rw [if_pos c8] at H
                  have c8b0 : decide (x20_2 < (t350.length : Int)) = true := decide_eq_true c8
                  clear c8
                  by_cases c9 : ((rd_T80 t350 x20_2).f0) = x3_1
                  · rw [if_pos c9] at H
                    have c9b0 : (((rd_T80 t350 x20_2).f0) == x3_1) = true := beq_iff_eq.mpr c9
                    have c9b1 : (((rd_T80 t350 x20_2).f0) != x3_1) = false := bne_eq_false_iff_eq.mpr c9
                    clear c9
                    have H' := Aside0.mk H
                    clear H
                    have p353 : 0 ≤ (x20_2 : Int) := of_decide_eq_true (by first | (with_reducible assumption) | assumption)
                    have q353 : x20_2 < (t350.length : Int) := of_decide_eq_true (by first | (with_reducible assumption) | assumption)
                    obtain ⟨ad353, e353, hx353_0, hx353_1, hx353_2, hx353_3⟩ := at_T80 (Kd.R_reads' HO_18.out).2.2 x20_2 p353 q353
                    cases e353
                    replace p353 := eq_true p353
                    replace q353 := eq_true q353
                    go_wp2_with (first | ((with_reducible refine gate_dst (N := 5) rfl ?_); refine box_event ?hg (N := 5) ?hd (cs := #[.int .i64 0, .int .i64 0, .int .i64 0, .int .i64 0]) (t := 80) ?hr ?_; (case hd => rfl); (case hg => rfl); (case hr => first | (go_simp; done) | (go_simp; rfl)); intro gb354 hg w10 hbox hb; have n0_ := Aside0.mk (Kd.R_below (Kd.R_elderB (by (with_reducible repeat (first | apply Kd.R_alloc | apply Kd.R_drewN | apply Kd.R_drew)); exact HO_18.out) gb354 (Nat.le_of_eq hg.symm)) hb); have n1_ := Aside0.mk (below_step (by repeat (first | (with_reducible first | exact HB.out | apply below_alloc | apply pw_below_drewN | apply below_drew1) | exact HB.out)) hb); have n2_ := Aside0.mk (hbox); have n3_ := Aside0.mk ((by rw [hg]; exact (below_size (by repeat (first | (with_reducible first | exact HB.out | apply below_alloc | apply pw_below_drewN | apply below_drew1) | exact HB.out))) : w.heap.size ≤ gb354)); have n4_ := Aside0.mk ((by rw [hg]; exact (below_size (by repeat (first | (with_reducible first | exact HB.out | apply below_alloc | apply pw_below_drewN | apply below_drew1) | exact HB.out))) : w.heap.size ≤ gb354)); clear HO_18; clear HB; have HO_18 := n0_; have HB := n1_; have BK354 := n2_; have GW354 := n3_; have GE354 := n4_; clear n0_ n1_ n2_ n3_ n4_; clear hb hbox hg; have hcz11_0 : w10.cell? ⟨gb354, 0, none⟩ = some (.int .i64 0) := (blk_cell BK354.out 0).trans rfl; have hcz11_1 : w10.cell? ⟨gb354, 1, none⟩ = some (.int .i64 0) := (blk_cell BK354.out 1).trans rfl; have hcz11_2 : w10.cell? ⟨gb354, 2, none⟩ = some (.int .i64 0) := (blk_cell BK354.out 2).trans rfl; have hcz11_3 : w10.cell? ⟨gb354, 3, none⟩ = some (.int .i64 0) := (blk_cell BK354.out 3).trans rfl; have hfz11_0 := blk_frozen BK354.out 0; have hfz11_1 := blk_frozen BK354.out 1; have hfz11_2 := blk_frozen BK354.out 2; have hfz11_3 := blk_frozen BK354.out 3))
                    go_roundg k2
                    case measure => have := HK1.out; have := HK2.out; omega
                    case rel => exact ⟨(wrap64 (x20_2 + 1)), (by first | rfl | (simp; done) | (simp [*]; done)), H', ⟨by have := HK1.out; have := HK2.out; omega⟩, ⟨by (with_reducible repeat (first | apply Kd.R_alloc | apply Kd.R_drewN | apply Kd.R_drew)); exact Kd.R_mono (Kd.R_far (p := ⟨gb354, 3, none⟩) (Kd.R_far (p := ⟨gb354, 2, none⟩) (Kd.R_far (p := ⟨gb354, 1, none⟩) (Kd.R_far (p := ⟨gb354, 0, none⟩) (Kd.R_mono HO_18.out (fun k_ hk => (⟨hk, hk.2⟩ : _ ∧ k_ ≠ gb354))) (fun _ hk => hk.2) (.int .i64 ((rd_T80 t350 x20_2).f0))) (fun _ hk => hk.2) (.int .i64 ((rd_T80 t350 x20_2).f1))) (fun _ hk => hk.2) (.int .i64 ((rd_T80 t350 x20_2).f2))) (fun _ hk => hk.2) (.int .i64 ((rd_T80 t350 x20_2).f3))) (fun _ hk => trivial)⟩, ⟨by repeat (first | (with_reducible first | exact HB.out | apply below_alloc | apply pw_below_drewN | apply below_drew1 | refine below_set ?_ GE354.out) | exact HB.out)⟩⟩
                  · rw [if_neg c9] at H
                    have c9b0 : (((rd_T80 t350 x20_2).f0) == x3_1) = false := beq_eq_false_iff_ne.mpr c9
                    have c9b1 : (((rd_T80 t350 x20_2).f0) != x3_1) = true := bne_iff_ne.mpr c9
                    by_cases c12 : ((rd_T80 t350 x20_2).f1) = x3_1
                    · rw [if_pos c12] at H
                      have c12b0 : (((rd_T80 t350 x20_2).f1) == x3_1) = true := beq_iff_eq.mpr c12
                      have c12b1 : (((rd_T80 t350 x20_2).f1) != x3_1) = false := bne_eq_false_iff_eq.mpr c12
                      clear c12
                      have H' := Aside0.mk H
                      clear H
                      have p353 : 0 ≤ (x20_2 : Int) := of_decide_eq_true (by first | (with_reducible assumption) | assumption)
                      have q353 : x20_2 < (t350.length : Int) := of_decide_eq_true (by first | (with_reducible assumption) | assumption)
                      obtain ⟨ad353, e353, hx353_0, hx353_1, hx353_2, hx353_3⟩ := at_T80 (Kd.R_reads' HO_18.out).2.2 x20_2 p353 q353
                      cases e353
                      replace p353 := eq_true p353
                      replace q353 := eq_true q353
                      go_wp2_with (first | ((with_reducible refine gate_dst (N := 5) rfl ?_); refine box_event ?hg (N := 5) ?hd (cs := #[.int .i64 0, .int .i64 0, .int .i64 0, .int .i64 0]) (t := 80) ?hr ?_; (case hd => rfl); (case hg => rfl); (case hr => first | (go_simp; done) | (go_simp; rfl)); intro gb354 hg w13 hbox hb; have n0_ := Aside0.mk (Kd.R_below (Kd.R_elderB (by (with_reducible repeat (first | apply Kd.R_alloc | apply Kd.R_drewN | apply Kd.R_drew)); exact HO_18.out) gb354 (Nat.le_of_eq hg.symm)) hb); have n1_ := Aside0.mk (below_step (by repeat (first | (with_reducible first | exact HB.out | apply below_alloc | apply pw_below_drewN | apply below_drew1) | exact HB.out)) hb); have n2_ := Aside0.mk (hbox); have n3_ := Aside0.mk ((by rw [hg]; exact (below_size (by repeat (first | (with_reducible first | exact HB.out | apply below_alloc | apply pw_below_drewN | apply below_drew1) | exact HB.out))) : w.heap.size ≤ gb354)); have n4_ := Aside0.mk ((by rw [hg]; exact (below_size (by repeat (first | (with_reducible first | exact HB.out | apply below_alloc | apply pw_below_drewN | apply below_drew1) | exact HB.out))) : w.heap.size ≤ gb354)); clear HO_18; clear HB; have HO_18 := n0_; have HB := n1_; have BK354 := n2_; have GW354 := n3_; have GE354 := n4_; clear n0_ n1_ n2_ n3_ n4_; clear hb hbox hg; have hcz14_0 : w13.cell? ⟨gb354, 0, none⟩ = some (.int .i64 0) := (blk_cell BK354.out 0).trans rfl; have hcz14_1 : w13.cell? ⟨gb354, 1, none⟩ = some (.int .i64 0) := (blk_cell BK354.out 1).trans rfl; have hcz14_2 : w13.cell? ⟨gb354, 2, none⟩ = some (.int .i64 0) := (blk_cell BK354.out 2).trans rfl; have hcz14_3 : w13.cell? ⟨gb354, 3, none⟩ = some (.int .i64 0) := (blk_cell BK354.out 3).trans rfl; have hfz14_0 := blk_frozen BK354.out 0; have hfz14_1 := blk_frozen BK354.out 1; have hfz14_2 := blk_frozen BK354.out 2; have hfz14_3 := blk_frozen BK354.out 3))
                      go_roundg k2
                      case measure => have := HK1.out; have := HK2.out; omega
                      case rel => exact ⟨(wrap64 (x20_2 + 1)), (by first | rfl | (simp; done) | (simp [*]; done)), H', ⟨by have := HK1.out; have := HK2.out; omega⟩, ⟨by (with_reducible repeat (first | apply Kd.R_alloc | apply Kd.R_drewN | apply Kd.R_drew)); exact Kd.R_mono (Kd.R_far (p := ⟨gb354, 3, none⟩) (Kd.R_far (p := ⟨gb354, 2, none⟩) (Kd.R_far (p := ⟨gb354, 1, none⟩) (Kd.R_far (p := ⟨gb354, 0, none⟩) (Kd.R_mono HO_18.out (fun k_ hk => (⟨hk, hk.2⟩ : _ ∧ k_ ≠ gb354))) (fun _ hk => hk.2) (.int .i64 ((rd_T80 t350 x20_2).f0))) (fun _ hk => hk.2) (.int .i64 ((rd_T80 t350 x20_2).f1))) (fun _ hk => hk.2) (.int .i64 ((rd_T80 t350 x20_2).f2))) (fun _ hk => hk.2) (.int .i64 ((rd_T80 t350 x20_2).f3))) (fun _ hk => trivial)⟩, ⟨by repeat (first | (with_reducible first | exact HB.out | apply below_alloc | apply pw_below_drewN | apply below_drew1 | refine below_set ?_ GE354.out) | exact HB.out)⟩⟩
                    · rw [if_neg c12] at H
                      have c12b0 : (((rd_T80 t350 x20_2).f1) == x3_1) = false := beq_eq_false_iff_ne.mpr c12
                      have c12b1 : (((rd_T80 t350 x20_2).f1) != x3_1) = true := bne_iff_ne.mpr c12
                      by_cases c15 : ((rd_T80 t350 x20_2).f2) = x3_1
                      · rw [if_pos c15] at H
                        have c15b0 : (((rd_T80 t350 x20_2).f2) == x3_1) = true := beq_iff_eq.mpr c15
                        have c15b1 : (((rd_T80 t350 x20_2).f2) != x3_1) = false := bne_eq_false_iff_eq.mpr c15
                        clear c15
                        have H' := Aside0.mk H
                        clear H
                        have p353 : 0 ≤ (x20_2 : Int) := of_decide_eq_true (by first | (with_reducible assumption) | assumption)
                        have q353 : x20_2 < (t350.length : Int) := of_decide_eq_true (by first | (with_reducible assumption) | assumption)
                        obtain ⟨ad353, e353, hx353_0, hx353_1, hx353_2, hx353_3⟩ := at_T80 (Kd.R_reads' HO_18.out).2.2 x20_2 p353 q353
                        cases e353
                        replace p353 := eq_true p353
                        replace q353 := eq_true q353
                        go_wp2_with (first | ((with_reducible refine gate_dst (N := 5) rfl ?_); refine box_event ?hg (N := 5) ?hd (cs := #[.int .i64 0, .int .i64 0, .int .i64 0, .int .i64 0]) (t := 80) ?hr ?_; (case hd => rfl); (case hg => rfl); (case hr => first | (go_simp; done) | (go_simp; rfl)); intro gb354 hg w16 hbox hb; have n0_ := Aside0.mk (Kd.R_below (Kd.R_elderB (by (with_reducible repeat (first | apply Kd.R_alloc | apply Kd.R_drewN | apply Kd.R_drew)); exact HO_18.out) gb354 (Nat.le_of_eq hg.symm)) hb); have n1_ := Aside0.mk (below_step (by repeat (first | (with_reducible first | exact HB.out | apply below_alloc | apply pw_below_drewN | apply below_drew1) | exact HB.out)) hb); have n2_ := Aside0.mk (hbox); have n3_ := Aside0.mk ((by rw [hg]; exact (below_size (by repeat (first | (with_reducible first | exact HB.out | apply below_alloc | apply pw_below_drewN | apply below_drew1) | exact HB.out))) : w.heap.size ≤ gb354)); have n4_ := Aside0.mk ((by rw [hg]; exact (below_size (by repeat (first | (with_reducible first | exact HB.out | apply below_alloc | apply pw_below_drewN | apply below_drew1) | exact HB.out))) : w.heap.size ≤ gb354)); clear HO_18; clear HB; have HO_18 := n0_; have HB := n1_; have BK354 := n2_; have GW354 := n3_; have GE354 := n4_; clear n0_ n1_ n2_ n3_ n4_; clear hb hbox hg; have hcz17_0 : w16.cell? ⟨gb354, 0, none⟩ = some (.int .i64 0) := (blk_cell BK354.out 0).trans rfl; have hcz17_1 : w16.cell? ⟨gb354, 1, none⟩ = some (.int .i64 0) := (blk_cell BK354.out 1).trans rfl; have hcz17_2 : w16.cell? ⟨gb354, 2, none⟩ = some (.int .i64 0) := (blk_cell BK354.out 2).trans rfl; have hcz17_3 : w16.cell? ⟨gb354, 3, none⟩ = some (.int .i64 0) := (blk_cell BK354.out 3).trans rfl; have hfz17_0 := blk_frozen BK354.out 0; have hfz17_1 := blk_frozen BK354.out 1; have hfz17_2 := blk_frozen BK354.out 2; have hfz17_3 := blk_frozen BK354.out 3))
                        go_roundg k2
                        case measure => have := HK1.out; have := HK2.out; omega
                        case rel => exact ⟨(wrap64 (x20_2 + 1)), (by first | rfl | (simp; done) | (simp [*]; done)), H', ⟨by have := HK1.out; have := HK2.out; omega⟩, ⟨by (with_reducible repeat (first | apply Kd.R_alloc | apply Kd.R_drewN | apply Kd.R_drew)); exact Kd.R_mono (Kd.R_far (p := ⟨gb354, 3, none⟩) (Kd.R_far (p := ⟨gb354, 2, none⟩) (Kd.R_far (p := ⟨gb354, 1, none⟩) (Kd.R_far (p := ⟨gb354, 0, none⟩) (Kd.R_mono HO_18.out (fun k_ hk => (⟨hk, hk.2⟩ : _ ∧ k_ ≠ gb354))) (fun _ hk => hk.2) (.int .i64 ((rd_T80 t350 x20_2).f0))) (fun _ hk => hk.2) (.int .i64 ((rd_T80 t350 x20_2).f1))) (fun _ hk => hk.2) (.int .i64 ((rd_T80 t350 x20_2).f2))) (fun _ hk => hk.2) (.int .i64 ((rd_T80 t350 x20_2).f3))) (fun _ hk => trivial)⟩, ⟨by repeat (first | (with_reducible first | exact HB.out | apply below_alloc | apply pw_below_drewN | apply below_drew1 | refine below_set ?_ GE354.out) | exact HB.out)⟩⟩
                      · rw [if_neg c15] at H
                        have c15b0 : (((rd_T80 t350 x20_2).f2) == x3_1) = false := beq_eq_false_iff_ne.mpr c15
                        have c15b1 : (((rd_T80 t350 x20_2).f2) != x3_1) = true := bne_iff_ne.mpr c15
                        by_cases c18 : ((rd_T80 t350 x20_2).f3) = x3_1
                        · rw [if_pos c18] at H
                          have c18b0 : (((rd_T80 t350 x20_2).f3) == x3_1) = true := beq_iff_eq.mpr c18
                          have c18b1 : (((rd_T80 t350 x20_2).f3) != x3_1) = false := bne_eq_false_iff_eq.mpr c18
                          clear c18
                          have H' := Aside0.mk H
                          clear H
                          have p353 : 0 ≤ (x20_2 : Int) := of_decide_eq_true (by first | (with_reducible assumption) | assumption)
                          have q353 : x20_2 < (t350.length : Int) := of_decide_eq_true (by first | (with_reducible assumption) | assumption)
                          obtain ⟨ad353, e353, hx353_0, hx353_1, hx353_2, hx353_3⟩ := at_T80 (Kd.R_reads' HO_18.out).2.2 x20_2 p353 q353
                          cases e353
                          replace p353 := eq_true p353
                          replace q353 := eq_true q353
                          go_wp2_with (first | ((with_reducible refine gate_dst (N := 5) rfl ?_); refine box_event ?hg (N := 5) ?hd (cs := #[.int .i64 0, .int .i64 0, .int .i64 0, .int .i64 0]) (t := 80) ?hr ?_; (case hd => rfl); (case hg => rfl); (case hr => first | (go_simp; done) | (go_simp; rfl)); intro gb354 hg w19 hbox hb; have n0_ := Aside0.mk (Kd.R_below (Kd.R_elderB (by (with_reducible repeat (first | apply Kd.R_alloc | apply Kd.R_drewN | apply Kd.R_drew)); exact HO_18.out) gb354 (Nat.le_of_eq hg.symm)) hb); have n1_ := Aside0.mk (below_step (by repeat (first | (with_reducible first | exact HB.out | apply below_alloc | apply pw_below_drewN | apply below_drew1) | exact HB.out)) hb); have n2_ := Aside0.mk (hbox); have n3_ := Aside0.mk ((by rw [hg]; exact (below_size (by repeat (first | (with_reducible first | exact HB.out | apply below_alloc | apply pw_below_drewN | apply below_drew1) | exact HB.out))) : w.heap.size ≤ gb354)); have n4_ := Aside0.mk ((by rw [hg]; exact (below_size (by repeat (first | (with_reducible first | exact HB.out | apply below_alloc | apply pw_below_drewN | apply below_drew1) | exact HB.out))) : w.heap.size ≤ gb354)); clear HO_18; clear HB; have HO_18 := n0_; have HB := n1_; have BK354 := n2_; have GW354 := n3_; have GE354 := n4_; clear n0_ n1_ n2_ n3_ n4_; clear hb hbox hg; have hcz20_0 : w19.cell? ⟨gb354, 0, none⟩ = some (.int .i64 0) := (blk_cell BK354.out 0).trans rfl; have hcz20_1 : w19.cell? ⟨gb354, 1, none⟩ = some (.int .i64 0) := (blk_cell BK354.out 1).trans rfl; have hcz20_2 : w19.cell? ⟨gb354, 2, none⟩ = some (.int .i64 0) := (blk_cell BK354.out 2).trans rfl; have hcz20_3 : w19.cell? ⟨gb354, 3, none⟩ = some (.int .i64 0) := (blk_cell BK354.out 3).trans rfl; have hfz20_0 := blk_frozen BK354.out 0; have hfz20_1 := blk_frozen BK354.out 1; have hfz20_2 := blk_frozen BK354.out 2; have hfz20_3 := blk_frozen BK354.out 3))
                          go_roundg k2
                          case measure => have := HK1.out; have := HK2.out; omega
                          case rel => exact ⟨(wrap64 (x20_2 + 1)), (by first | rfl | (simp; done) | (simp [*]; done)), H', ⟨by have := HK1.out; have := HK2.out; omega⟩, ⟨by (with_reducible repeat (first | apply Kd.R_alloc | apply Kd.R_drewN | apply Kd.R_drew)); exact Kd.R_mono (Kd.R_far (p := ⟨gb354, 3, none⟩) (Kd.R_far (p := ⟨gb354, 2, none⟩) (Kd.R_far (p := ⟨gb354, 1, none⟩) (Kd.R_far (p := ⟨gb354, 0, none⟩) (Kd.R_mono HO_18.out (fun k_ hk => (⟨hk, hk.2⟩ : _ ∧ k_ ≠ gb354))) (fun _ hk => hk.2) (.int .i64 ((rd_T80 t350 x20_2).f0))) (fun _ hk => hk.2) (.int .i64 ((rd_T80 t350 x20_2).f1))) (fun _ hk => hk.2) (.int .i64 ((rd_T80 t350 x20_2).f2))) (fun _ hk => hk.2) (.int .i64 ((rd_T80 t350 x20_2).f3))) (fun _ hk => trivial)⟩, ⟨by repeat (first | (with_reducible first | exact HB.out | apply below_alloc | apply pw_below_drewN | apply below_drew1 | refine below_set ?_ GE354.out) | exact HB.out)⟩⟩
                        · rw [if_neg c18] at H
                          have c18b0 : (((rd_T80 t350 x20_2).f3) == x3_1) = false := beq_eq_false_iff_ne.mpr c18
                          have c18b1 : (((rd_T80 t350 x20_2).f3) != x3_1) = true := bne_iff_ne.mpr c18
                          replace H := Option.bind_eq_some_iff.mp H
                          obtain ⟨t355, A210, H⟩ := H
                          replace H : (if t355 = true then (some (([x3_1, (rd_T80 t350 x20_2).f0, (rd_T80 t350 x20_2).f1, (rd_T80 t350 x20_2).f2, (rd_T80 t350 x20_2).f3] : List Int))) else (impl_chi_firstBreak.l1 k2 l0 x3_1 t350 (t350.length : Int) (wrap64 (x20_2 + 1)))) = some r := H
                          have A21 := Aside0.mk A210
                          clear A210
                          by_cases c22 : t355 = true
                          · subst c22
                            have H1 : (some (([x3_1, (rd_T80 t350 x20_2).f0, (rd_T80 t350 x20_2).f1, (rd_T80 t350 x20_2).f2, (rd_T80 t350 x20_2).f3] : List Int))) = some r := by rw [if_pos rfl] at H; exact H
                            clear H
                            have H := H1
                            clear H1
                            obtain ⟨y356, hy356⟩ : ∃ y_ : List Int, y_ = (([x3_1, (rd_T80 t350 x20_2).f0, (rd_T80 t350 x20_2).f1, (rd_T80 t350 x20_2).f2, (rd_T80 t350 x20_2).f3] : List Int)) := ⟨_, rfl⟩
                            replace H : (some y356) = some r := by first | (rw [hy356]; with_reducible exact H) | (have H2_ := (Option.bind_some _ _).symm.trans H; rw [hy356]; with_reducible exact H2_) | (have H2_ := (Option.bind_some _ _).symm.trans H; with_reducible exact H2_) | with_reducible exact H | (rw [hy356]; exact H) | exact H
                            have Ny356 := Aside0.mk hy356
                            clear hy356
                            obtain rfl := Option.some.inj H
                            have p353 : 0 ≤ (x20_2 : Int) := of_decide_eq_true (by first | (with_reducible assumption) | assumption)
                            have q353 : x20_2 < (t350.length : Int) := of_decide_eq_true (by first | (with_reducible assumption) | assumption)
                            obtain ⟨ad353, e353, hx353_0, hx353_1, hx353_2, hx353_3⟩ := at_T80 (Kd.R_reads' HO_18.out).2.2 x20_2 p353 q353
                            cases e353
                            replace p353 := eq_true p353
                            replace q353 := eq_true q353
                            go_wp2_with (first | ((with_reducible refine gate_dst (N := 5) rfl ?_); refine box_event ?hg (N := 5) ?hd (cs := #[.int .i64 0, .int .i64 0, .int .i64 0, .int .i64 0]) (t := 80) ?hr ?_; (case hd => rfl); (case hg => rfl); (case hr => first | (go_simp; done) | (go_simp; rfl)); intro gb354 hg w23 hbox hb; have n0_ := Aside0.mk (Kd.R_below (Kd.R_elderB (by (with_reducible repeat (first | apply Kd.R_alloc | apply Kd.R_drewN | apply Kd.R_drew)); exact HO_18.out) gb354 (Nat.le_of_eq hg.symm)) hb); have n1_ := Aside0.mk (below_step (by repeat (first | (with_reducible first | exact HB.out | apply below_alloc | apply pw_below_drewN | apply below_drew1) | exact HB.out)) hb); have n2_ := Aside0.mk (hbox); have n3_ := Aside0.mk ((by rw [hg]; exact (below_size (by repeat (first | (with_reducible first | exact HB.out | apply below_alloc | apply pw_below_drewN | apply below_drew1) | exact HB.out))) : w.heap.size ≤ gb354)); have n4_ := Aside0.mk ((by rw [hg]; exact (below_size (by repeat (first | (with_reducible first | exact HB.out | apply below_alloc | apply pw_below_drewN | apply below_drew1) | exact HB.out))) : w.heap.size ≤ gb354)); clear HO_18; clear HB; have HO_18 := n0_; have HB := n1_; have BK354 := n2_; have GW354 := n3_; have GE354 := n4_; clear n0_ n1_ n2_ n3_ n4_; clear hb hbox hg; have hcz24_0 : w23.cell? ⟨gb354, 0, none⟩ = some (.int .i64 0) := (blk_cell BK354.out 0).trans rfl; have hcz24_1 : w23.cell? ⟨gb354, 1, none⟩ = some (.int .i64 0) := (blk_cell BK354.out 1).trans rfl; have hcz24_2 : w23.cell? ⟨gb354, 2, none⟩ = some (.int .i64 0) := (blk_cell BK354.out 2).trans rfl; have hcz24_3 : w23.cell? ⟨gb354, 3, none⟩ = some (.int .i64 0) := (blk_cell BK354.out 3).trans rfl; have hfz24_0 := blk_frozen BK354.out 0; have hfz24_1 := blk_frozen BK354.out 1; have hfz24_2 := blk_frozen BK354.out 2; have hfz24_3 := blk_frozen BK354.out 3) | (go_at_call 78; (with_reducible refine (impl_chi_breaks.calls _ l0 x3_1 ((rd_T80 t350 x20_2).f0) ((rd_T80 t350 x20_2).f1) ((rd_T80 t350 x20_2).f2) ((rd_T80 t350 x20_2).f3) true _ ?side1 ?side2 A21.out).mono ?_); (case side1 => exact Kd.C_below HR0.out (by repeat (first | (with_reducible first | exact HB.out | apply below_alloc | apply pw_below_drewN | apply below_drew1 | refine below_set ?_ GE354.out) | exact HB.out))); (case side2 => exact HC0.out); rintro e w' ⟨rfl, ⟨nd, rfl⟩⟩) | ((with_reducible refine gate_dst (N := 68) rfl ?_); refine Kd.R_lit (Kd.int .i64) _ 3 ?hg (N := 68) ?hd (xs := ([x3_1, (rd_T80 t350 x20_2).f0, (rd_T80 t350 x20_2).f1, (rd_T80 t350 x20_2).f2, (rd_T80 t350 x20_2).f3] : List Int)) (inner := [.int .i64 x3_1, .int .i64 ((rd_T80 t350 x20_2).f0), .int .i64 ((rd_T80 t350 x20_2).f1), .int .i64 ((rd_T80 t350 x20_2).f2), .int .i64 ((rd_T80 t350 x20_2).f3)]) (ok := fun _ => True) (okp := fun _ => True) ?hr ?hp (fun _ hk => hk) trivial (Below.refl _ _) (Nat.le_refl _) (by simp) ?_; (case hd => rfl); (case hg => rfl); (case hr => first | (go_simp; done) | (go_simp; rfl)); (case hp => exact (Reps.one (show Kd.M (Kd.int .i64) _ _ _ x3_1 [.int .i64 x3_1] from rfl) (Reps.one (show Kd.M (Kd.int .i64) _ _ _ ((rd_T80 t350 x20_2).f0) [.int .i64 ((rd_T80 t350 x20_2).f0)] from rfl) (Reps.one (show Kd.M (Kd.int .i64) _ _ _ ((rd_T80 t350 x20_2).f1) [.int .i64 ((rd_T80 t350 x20_2).f1)] from rfl) (Reps.one (show Kd.M (Kd.int .i64) _ _ _ ((rd_T80 t350 x20_2).f2) [.int .i64 ((rd_T80 t350 x20_2).f2)] from rfl) (Reps.one (show Kd.M (Kd.int .i64) _ _ _ ((rd_T80 t350 x20_2).f3) [.int .i64 ((rd_T80 t350 x20_2).f3)] from rfl) (Reps.none _ _))))))); intro v357 w25 ho26 hb hg_ hnew_; clear hg_ hnew_; (first | rw [← Ny356.out] at ho26 | (simp only [Int.reduceToNat] at ho26; rw [← Ny356.out] at ho26)); have n0_ := Aside0.mk (Kd.R_below (by (with_reducible repeat (first | apply Kd.R_alloc | apply Kd.R_drewN | apply Kd.R_drew)); exact (Kd.R_mono (Kd.R_far (p := ⟨gb354, 3, none⟩) (Kd.R_far (p := ⟨gb354, 2, none⟩) (Kd.R_far (p := ⟨gb354, 1, none⟩) (Kd.R_far (p := ⟨gb354, 0, none⟩) (Kd.R_mono HO_18.out (fun k_ hk => (⟨hk, hk.2⟩ : _ ∧ k_ ≠ gb354))) (fun _ hk => hk.2) (.int .i64 ((rd_T80 t350 x20_2).f0))) (fun _ hk => hk.2) (.int .i64 ((rd_T80 t350 x20_2).f1))) (fun _ hk => hk.2) (.int .i64 ((rd_T80 t350 x20_2).f2))) (fun _ hk => hk.2) (.int .i64 ((rd_T80 t350 x20_2).f3))) (fun _ h_ => h_.1))) hb); have n1_ := Aside0.mk (Kd.R_lower ho26 (below_size (by repeat (first | (with_reducible first | exact HB.out | apply below_alloc | apply pw_below_drewN | apply below_drew1 | refine below_set ?_ GE354.out) | exact HB.out)))); have n2_ := Aside0.mk (blk_below (g := gb354) (o := .cells #[.int .i64 ((rd_T80 t350 x20_2).f0), .int .i64 ((rd_T80 t350 x20_2).f1), .int .i64 ((rd_T80 t350 x20_2).f2), .int .i64 ((rd_T80 t350 x20_2).f3)] 80 (0, 0)) (by (with_reducible repeat (first | refine blk_drewN ?_ _ | refine blk_drew ?_ | refine blk_alloc ?_ _)); refine blk_put (cs := #[.int .i64 ((rd_T80 t350 x20_2).f0), .int .i64 ((rd_T80 t350 x20_2).f1), .int .i64 ((rd_T80 t350 x20_2).f2), .int .i64 0]) ?_ 3 _ rfl; (with_reducible repeat (first | refine blk_drewN ?_ _ | refine blk_drew ?_ | refine blk_alloc ?_ _)); refine blk_put (cs := #[.int .i64 ((rd_T80 t350 x20_2).f0), .int .i64 ((rd_T80 t350 x20_2).f1), .int .i64 0, .int .i64 0]) ?_ 2 _ rfl; (with_reducible repeat (first | refine blk_drewN ?_ _ | refine blk_drew ?_ | refine blk_alloc ?_ _)); refine blk_put (cs := #[.int .i64 ((rd_T80 t350 x20_2).f0), .int .i64 0, .int .i64 0, .int .i64 0]) ?_ 1 _ rfl; (with_reducible repeat (first | refine blk_drewN ?_ _ | refine blk_drew ?_ | refine blk_alloc ?_ _)); refine blk_put (cs := #[.int .i64 0, .int .i64 0, .int .i64 0, .int .i64 0]) ?_ 0 _ rfl; (with_reducible repeat (first | refine blk_drewN ?_ _ | refine blk_drew ?_ | refine blk_alloc ?_ _)); exact BK354.out) hb); have n3_ := Aside0.mk (below_step (by repeat (first | (with_reducible first | exact HB.out | apply below_alloc | apply pw_below_drewN | apply below_drew1 | refine below_set ?_ GE354.out) | exact HB.out)) hb); clear HO_18; clear BK354; clear HB; have HO_18 := n0_; have HO358 := n1_; have BK354 := n2_; have HB := n3_; clear n0_ n1_ n2_ n3_; clear hb ho26))
                            go_ret
                            exact ⟨_, by first | rfl | (simp [errW_none, errW_some] <;> rfl) | (simp [*, errW_none, errW_some] <;> rfl), ⟨by (with_reducible repeat (first | apply Kd.R_alloc | apply Kd.R_drewN | apply Kd.R_drew)); exact HO358.out, fun h_ => by rw [Ny356.out] at h_; simp at h_⟩, by repeat (first | (with_reducible first | exact HB.out | apply below_alloc | apply pw_below_drewN | apply below_drew1 | refine below_set ?_ GE354.out) | exact HB.out)⟩
                          · replace c22 := Bool.eq_false_iff.mpr c22
                            subst c22
                            have H1 : (impl_chi_firstBreak.l1 k2 l0 x3_1 t350 (t350.length : Int) (wrap64 (x20_2 + 1))) = some r := by rw [if_neg (show ¬ (false = true) by decide)] at H; exact H
                            clear H
                            have H := H1
                            clear H1
                            have H' := Aside0.mk H
                            clear H
                            have p353 : 0 ≤ (x20_2 : Int) := of_decide_eq_true (by first | (with_reducible assumption) | assumption)
                            have q353 : x20_2 < (t350.length : Int) := of_decide_eq_true (by first | (with_reducible assumption) | assumption)
                            obtain ⟨ad353, e353, hx353_0, hx353_1, hx353_2, hx353_3⟩ := at_T80 (Kd.R_reads' HO_18.out).2.2 x20_2 p353 q353
                            cases e353
                            replace p353 := eq_true p353
                            replace q353 := eq_true q353
                            go_wp2_with (first | ((with_reducible refine gate_dst (N := 5) rfl ?_); refine box_event ?hg (N := 5) ?hd (cs := #[.int .i64 0, .int .i64 0, .int .i64 0, .int .i64 0]) (t := 80) ?hr ?_; (case hd => rfl); (case hg => rfl); (case hr => first | (go_simp; done) | (go_simp; rfl)); intro gb354 hg w27 hbox hb; have n0_ := Aside0.mk (Kd.R_below (Kd.R_elderB (by (with_reducible repeat (first | apply Kd.R_alloc | apply Kd.R_drewN | apply Kd.R_drew)); exact HO_18.out) gb354 (Nat.le_of_eq hg.symm)) hb); have n1_ := Aside0.mk (below_step (by repeat (first | (with_reducible first | exact HB.out | apply below_alloc | apply pw_below_drewN | apply below_drew1) | exact HB.out)) hb); have n2_ := Aside0.mk (hbox); have n3_ := Aside0.mk ((by rw [hg]; exact (below_size (by repeat (first | (with_reducible first | exact HB.out | apply below_alloc | apply pw_below_drewN | apply below_drew1) | exact HB.out))) : w.heap.size ≤ gb354)); have n4_ := Aside0.mk ((by rw [hg]; exact (below_size (by repeat (first | (with_reducible first | exact HB.out | apply below_alloc | apply pw_below_drewN | apply below_drew1) | exact HB.out))) : w.heap.size ≤ gb354)); clear HO_18; clear HB; have HO_18 := n0_; have HB := n1_; have BK354 := n2_; have GW354 := n3_; have GE354 := n4_; clear n0_ n1_ n2_ n3_ n4_; clear hb hbox hg; have hcz28_0 : w27.cell? ⟨gb354, 0, none⟩ = some (.int .i64 0) := (blk_cell BK354.out 0).trans rfl; have hcz28_1 : w27.cell? ⟨gb354, 1, none⟩ = some (.int .i64 0) := (blk_cell BK354.out 1).trans rfl; have hcz28_2 : w27.cell? ⟨gb354, 2, none⟩ = some (.int .i64 0) := (blk_cell BK354.out 2).trans rfl; have hcz28_3 : w27.cell? ⟨gb354, 3, none⟩ = some (.int .i64 0) := (blk_cell BK354.out 3).trans rfl; have hfz28_0 := blk_frozen BK354.out 0; have hfz28_1 := blk_frozen BK354.out 1; have hfz28_2 := blk_frozen BK354.out 2; have hfz28_3 := blk_frozen BK354.out 3) | (go_at_call 78; (with_reducible refine (impl_chi_breaks.calls _ l0 x3_1 ((rd_T80 t350 x20_2).f0) ((rd_T80 t350 x20_2).f1) ((rd_T80 t350 x20_2).f2) ((rd_T80 t350 x20_2).f3) false _ ?side1 ?side2 A21.out).mono ?_); (case side1 => exact Kd.C_below HR0.out (by repeat (first | (with_reducible first | exact HB.out | apply below_alloc | apply pw_below_drewN | apply below_drew1 | refine below_set ?_ GE354.out) | exact HB.out))); (case side2 => exact HC0.out); rintro e w' ⟨rfl, ⟨nd, rfl⟩⟩))
                            go_roundg k2
                            case measure => have := HK1.out; have := HK2.out; omega
                            case rel => exact ⟨(wrap64 (x20_2 + 1)), (by first | rfl | (simp; done) | (simp [*]; done)), H', ⟨by have := HK1.out; have := HK2.out; omega⟩, ⟨by (with_reducible repeat (first | apply Kd.R_alloc | apply Kd.R_drewN | apply Kd.R_drew)); exact Kd.R_mono (Kd.R_far (p := ⟨gb354, 3, none⟩) (Kd.R_far (p := ⟨gb354, 2, none⟩) (Kd.R_far (p := ⟨gb354, 1, none⟩) (Kd.R_far (p := ⟨gb354, 0, none⟩) (Kd.R_mono HO_18.out (fun k_ hk => (⟨hk, hk.2⟩ : _ ∧ k_ ≠ gb354))) (fun _ hk => hk.2) (.int .i64 ((rd_T80 t350 x20_2).f0))) (fun _ hk => hk.2) (.int .i64 ((rd_T80 t350 x20_2).f1))) (fun _ hk => hk.2) (.int .i64 ((rd_T80 t350 x20_2).f2))) (fun _ hk => hk.2) (.int .i64 ((rd_T80 t350 x20_2).f3))) (fun _ hk => trivial)⟩, ⟨by repeat (first | (with_reducible first | exact HB.out | apply below_alloc | apply pw_below_drewN | apply below_drew1 | refine below_set ?_ GE354.out) | exact HB.out)⟩⟩
                · rw [if_neg c8] at H
                  exact absurd H (by simp)
              · rw [if_neg c7] at H
                exact absurd H (by simp)
            · rw [if_neg c6] at H
              have c6b0 : decide (x20_2 < (t350.length : Int)) = false := decide_eq_false c6
              clear c6
              have H' := Aside0.mk H
              clear H
              go_wp2
              go_roundg k2
              case measure => have := HK1.out; have := HK2.out; omega
              case rel => exact ⟨(wrap64 (x3_1 + 1)), (by first | rfl | (simp; done) | (simp [*]; done)), H', ⟨by have := HK1.out; have := HK2.out; omega⟩, ⟨by repeat (first | (with_reducible first | exact HB.out | apply below_alloc | apply pw_below_drewN | apply below_drew1) | exact HB.out)⟩⟩
      · rw [if_neg c2] at H
        have c2b0 : decide (x3_1 < (rd l0 0)) = false := decide_eq_false c2
        clear c2
        obtain rfl := Option.some.inj H
        have hL348 := HC0.out
        have dq348 : decide (0 < (l0.length : Int)) = true := decide_eq_true (by omega)
        clear hL348
        have p348 : 0 ≤ (0 : Int) := (by omega)
        have q348 : 0 < (l0.length : Int) := of_decide_eq_true (by first | (with_reducible assumption) | assumption)
        obtain ⟨ad348, e348, hx348_0⟩ := Kd.at_int HR0.out 0 p348 q348
        obtain rfl : (⟨g0, 0, none⟩ : Addr) = ad348 := (by injection e348)
        (first | simp only [add_plain] at hx348_0 | simp only [add_at] at hx348_0 | simp only [Addr.add, Nat.zero_add] at hx348_0 | skip)
        have qi348 : (0 < l0.length) = True := eq_true (by omega)
        (try rw [show ((0 : Int)).toNat = 0 from rfl] at hx348_0)
        (try rw [Addr.add_zero'] at hx348_0)
        replace hx348_0 := (HB.out.cell (World.block_lt_of_cell? w _ hx348_0)).trans hx348_0
        replace p348 := eq_true p348
        replace q348 := eq_true q348
        clear dq348
        go_wp2
        go_ret
        exact ⟨_, by first | rfl | (simp [errW_none, errW_some] <;> rfl) | (simp [*, errW_none, errW_some] <;> rfl), ⟨by first | exact Kd.R_nil _ _ _ _ _ | exact Kd.N_nil _ _ _ _ _ | exact Kd.V_nil _ _ _ _ _ | exact Kd.Q_nil _ _ _ _ _ | exact Kd.S_nil _ _ _ _ _, by first | rfl | exact fun _ => rfl⟩, by repeat (first | (with_reducible first | exact HB.out | apply below_alloc | apply pw_below_drewN | apply below_drew1) | exact HB.out)⟩
set_option maxHeartbeats 8000000 in
set_option maxRecDepth 100000 in
theorem impl_FirstBreak.callsN (k : Nat) (a0_0 : Int) (a0_1 : ByteArray) (r : List Int) (w : World) (h : impl_FirstBreak.f k a0_0 a0_1 = some r) :
    Calls Try.prog 34 #[.agg #[.int .i64 a0_0, .string a0_1]] w fun e w' => ∃ v0_ : Value, e = .returned (v0_) ∧ (Kd.R (Kd.int .i64) 3 w' w.heap.size (fun _ => True) v0_ r ∧ (r = [] → v0_ = .slice none 0 0)) ∧ Below w.heap.size w w' := by
  have hu26 := Try.underlying26
  have HB := Aside0.mk (Below.refl w.heap.size w)
  have H : ((impl_AreSigns.f k a0_0 a0_1).bind fun t360 => (if t360 = true then ((impl_tableOf.f k a0_0 a0_1).bind fun t361 => (if t361.length = 344 then ((impl_chi_firstBreak.f k t361).bind fun t364 => (some t364)) else (none))) else (some ([] : List Int)))) = some r := h
  clear h
  replace H := Option.bind_eq_some_iff.mp H
  obtain ⟨t360, A20, H⟩ := H
  replace H : (if t360 = true then ((impl_tableOf.f k a0_0 a0_1).bind fun t361 => (if t361.length = 344 then ((impl_chi_firstBreak.f k t361).bind fun t364 => (some t364)) else (none))) else (some ([] : List Int))) = some r := H
  have A2 := Aside0.mk A20
  clear A20
  by_cases c3 : t360 = true
  · subst c3
    have H1 : ((impl_tableOf.f k a0_0 a0_1).bind fun t361 => (if t361.length = 344 then ((impl_chi_firstBreak.f k t361).bind fun t364 => (some t364)) else (none))) = some r := by rw [if_pos rfl] at H; exact H
    clear H
    have H := H1
    clear H1
    replace H := Option.bind_eq_some_iff.mp H
    obtain ⟨t361, A40, H⟩ := H
    replace H : (if t361.length = 344 then ((impl_chi_firstBreak.f k t361).bind fun t364 => (some t364)) else (none)) = some r := H
    have A4 := Aside0.mk A40
    clear A40
    by_cases c5 : t361.length = 344
    · rw [if_pos c5] at H
      have c5b0 := eq_true c5
      have c5b1 : decide (t361.length = 344) = true := decide_eq_true c5
      clear c5
      replace H := Option.bind_eq_some_iff.mp H
      obtain ⟨t364, A60, H⟩ := H
      replace H : (some t364) = some r := H
      have A6 := Aside0.mk A60
      clear A60
      obtain rfl := Option.some.inj H
      go_enter Try.func34, Try.ntmps34
      go_wp2_with (first | ((with_reducible refine gate_dst (N := 1) rfl ?_); refine box_event ?hg (N := 1) ?hd (cs := #[.int .i64 a0_0, .string a0_1]) (t := 26) ?hr ?_; (case hd => rfl); (case hg => rfl); (case hr => first | (go_simp; done) | (go_simp; rfl)); intro gb359 hg w7 hbox hb; have n0_ := Aside0.mk (below_step (by repeat (first | (with_reducible first | exact HB.out | apply below_alloc | apply pw_below_drewN | apply below_drew1) | exact HB.out)) hb); have n1_ := Aside0.mk (hbox); have n2_ := Aside0.mk ((by rw [hg]; exact (below_size (by repeat (first | (with_reducible first | exact HB.out | apply below_alloc | apply pw_below_drewN | apply below_drew1) | exact HB.out))) : w.heap.size ≤ gb359)); have n3_ := Aside0.mk ((by rw [hg]; exact (below_size (by repeat (first | (with_reducible first | exact HB.out | apply below_alloc | apply pw_below_drewN | apply below_drew1) | exact HB.out))) : w.heap.size ≤ gb359)); clear HB; have HB := n0_; have BK359 := n1_; have GW359 := n2_; have GE359 := n3_; clear n0_ n1_ n2_ n3_; clear hb hbox hg; have hcz8_0 : w7.cell? ⟨gb359, 0, none⟩ = some (.int .i64 a0_0) := (blk_cell BK359.out 0).trans rfl; have hcz8_1 : w7.cell? ⟨gb359, 1, none⟩ = some (.string a0_1) := (blk_cell BK359.out 1).trans rfl; have hfz8_0 := blk_frozen BK359.out 0; have hfz8_1 := blk_frozen BK359.out 1) | ((with_reducible refine gate_callee (f := 19) rfl ?_); refine goesL_ (some 4) rfl rfl Try.func19 (by kernel_rfl) rfl #[.agg #[.int .i64 a0_0, .string a0_1]] rfl (by (try simp only [List.map_toArray, List.map_cons, List.map_nil]); first | done | rfl | (simp only [List.length_drop, List.length_take]; rfl)) ?_; (with_reducible refine (impl_AreSigns.calls k a0_0 a0_1 true _ A2.out).mono ?_); rintro e w9 ⟨rfl, hb⟩; refine ⟨_, rfl, ?_⟩; have n0_ := Aside0.mk (blk_below (g := gb359) (o := .cells #[.int .i64 a0_0, .string a0_1] 26 (0, 0)) (by (with_reducible repeat (first | refine blk_drewN ?_ _ | refine blk_drew ?_ | refine blk_alloc ?_ _)); exact BK359.out) hb); have n1_ := Aside0.mk (below_step (by repeat (first | (with_reducible first | exact HB.out | apply below_alloc | apply pw_below_drewN | apply below_drew1 | refine below_set ?_ GE359.out) | exact HB.out)) hb); clear BK359; clear HB; have BK359 := n0_; have HB := n1_; clear n0_ n1_; (try clear hb); (try clear hb2); (try clear hk); (try clear hi); have hcz10_0 : w9.cell? ⟨gb359, 0, none⟩ = some (.int .i64 a0_0) := (blk_cell BK359.out 0).trans rfl; have hcz10_1 : w9.cell? ⟨gb359, 1, none⟩ = some (.string a0_1) := (blk_cell BK359.out 1).trans rfl; have hfz10_0 := blk_frozen BK359.out 0; have hfz10_1 := blk_frozen BK359.out 1) | ((with_reducible refine gate_callee (f := 55) rfl ?_); refine goesL_ (some 7) rfl rfl Try.func55 (by kernel_rfl) rfl #[.agg #[.int .i64 a0_0, .string a0_1]] rfl (by (try simp only [List.map_toArray, List.map_cons, List.map_nil]); first | done | rfl | (simp only [List.length_drop, List.length_take]; rfl)) ?_; (with_reducible refine (impl_tableOf.calls k a0_0 a0_1 t361 _ A4.out).mono ?_); rintro e w11 ⟨v362, rfl, ho0, hb⟩; refine ⟨_, rfl, ?_⟩; have n0_ := Aside0.mk (Kd.R_lower ho0 (below_size (by repeat (first | (with_reducible first | exact HB.out | apply below_alloc | apply pw_below_drewN | apply below_drew1 | refine below_set ?_ GE359.out) | exact HB.out)))); have n1_ := Aside0.mk (blk_below (g := gb359) (o := .cells #[.int .i64 a0_0, .string a0_1] 26 (0, 0)) (by (with_reducible repeat (first | refine blk_drewN ?_ _ | refine blk_drew ?_ | refine blk_alloc ?_ _)); exact BK359.out) hb); have n2_ := Aside0.mk (below_step (by repeat (first | (with_reducible first | exact HB.out | apply below_alloc | apply pw_below_drewN | apply below_drew1 | refine below_set ?_ GE359.out) | exact HB.out)) hb); clear BK359; clear HB; have HO363 := n0_; have BK359 := n1_; have HB := n2_; clear n0_ n1_ n2_; (try clear hb); (try clear hb2); (try clear hk); (try clear hi); (try clear ho0); obtain ⟨go12, co12, eo12, gb12, gl12, cl12, HG12⟩ := Kd.R_form HO363.out (by have hl_ := Nat.le_of_eq (Eq.symm (of_decide_eq_true (by first | (with_reducible assumption) | assumption) : t361.length = 344)); omega); (first | cases eo12 | (injection eo12 with ea_ en_ ec_; (first | subst ea_ | (injection ea_ with ea_; subst ea_)); subst ec_; clear en_)); have GB12 := Aside0.mk gb12; have GG12 := Aside0.mk HG12; clear gb12 gl12 HG12) | ((with_reducible refine gate_callee (f := 66) rfl ?_); refine goesL_ (some 8) rfl rfl Try.func66 (by kernel_rfl) rfl #[.pointer (some ⟨go12, 0, none⟩)] rfl (by (try simp only [List.map_toArray, List.map_cons, List.map_nil]); first | done | rfl | (simp only [List.length_drop, List.length_take]; rfl)) ?_; (with_reducible refine (impl_chi_firstBreak.callsN k _ t361 t364 _ ?side1 ?side2 A6.out).mono ?_); (case side1 => repeat (first | exact (Kd.R_reads' HO363.out).2.2 | (with_reducible refine Kd.C_alloc ?_ _) | (with_reducible refine Kd.C_drewN ?_ _) | (with_reducible refine Kd.C_drew ?_))); (case side2 => exact (of_decide_eq_true (by first | (with_reducible assumption) | assumption) : t361.length = 344)); rintro e w13 ⟨v365, rfl, ⟨ho0, hn0⟩, hb⟩; have HN_ := Aside0.mk hn0; clear hn0; refine ⟨_, rfl, ?_⟩; have n0_ := Aside0.mk (Kd.R_below (by (with_reducible repeat (first | apply Kd.R_alloc | apply Kd.R_drewN | apply Kd.R_drew)); exact HO363.out) hb); have n1_ := Aside0.mk (Kd.R_lower ho0 (below_size (by repeat (first | (with_reducible first | exact HB.out | apply below_alloc | apply pw_below_drewN | apply below_drew1 | refine below_set ?_ GE359.out) | exact HB.out)))); have n2_ := Aside0.mk (blk_below (g := gb359) (o := .cells #[.int .i64 a0_0, .string a0_1] 26 (0, 0)) (by (with_reducible repeat (first | refine blk_drewN ?_ _ | refine blk_drew ?_ | refine blk_alloc ?_ _)); exact BK359.out) hb); have n3_ := Aside0.mk (below_step (by repeat (first | (with_reducible first | exact HB.out | apply below_alloc | apply pw_below_drewN | apply below_drew1 | refine below_set ?_ GE359.out) | exact HB.out)) hb); clear HO363; clear BK359; clear HB; have HO363 := n0_; have HO366 := n1_; have BK359 := n2_; have HB := n3_; clear n0_ n1_ n2_ n3_; (try clear hb); (try clear hb2); (try clear hk); (try clear hi); (try clear ho0)))
      go_ret
      exact ⟨_, by first | rfl | (simp [errW_none, errW_some] <;> rfl) | (simp [*, errW_none, errW_some] <;> rfl), ⟨by (with_reducible repeat (first | apply Kd.R_alloc | apply Kd.R_drewN | apply Kd.R_drew)); exact HO366.out, HN_.out⟩, by repeat (first | (with_reducible first | exact HB.out | apply below_alloc | apply pw_below_drewN | apply below_drew1 | refine below_set ?_ GE359.out) | exact HB.out)⟩
    · rw [if_neg c5] at H
      exact absurd H (by simp)
  · replace c3 := Bool.eq_false_iff.mpr c3
    subst c3
    have H1 : (some ([] : List Int)) = some r := by rw [if_neg (show ¬ (false = true) by decide)] at H; exact H
    clear H
    have H := H1
    clear H1
    obtain rfl := Option.some.inj H
    go_enter Try.func34, Try.ntmps34
    go_wp2_with (first | ((with_reducible refine gate_dst (N := 1) rfl ?_); refine box_event ?hg (N := 1) ?hd (cs := #[.int .i64 a0_0, .string a0_1]) (t := 26) ?hr ?_; (case hd => rfl); (case hg => rfl); (case hr => first | (go_simp; done) | (go_simp; rfl)); intro gb359 hg w14 hbox hb; have n0_ := Aside0.mk (below_step (by repeat (first | (with_reducible first | exact HB.out | apply below_alloc | apply pw_below_drewN | apply below_drew1) | exact HB.out)) hb); have n1_ := Aside0.mk (hbox); have n2_ := Aside0.mk ((by rw [hg]; exact (below_size (by repeat (first | (with_reducible first | exact HB.out | apply below_alloc | apply pw_below_drewN | apply below_drew1) | exact HB.out))) : w.heap.size ≤ gb359)); have n3_ := Aside0.mk ((by rw [hg]; exact (below_size (by repeat (first | (with_reducible first | exact HB.out | apply below_alloc | apply pw_below_drewN | apply below_drew1) | exact HB.out))) : w.heap.size ≤ gb359)); clear HB; have HB := n0_; have BK359 := n1_; have GW359 := n2_; have GE359 := n3_; clear n0_ n1_ n2_ n3_; clear hb hbox hg; have hcz15_0 : w14.cell? ⟨gb359, 0, none⟩ = some (.int .i64 a0_0) := (blk_cell BK359.out 0).trans rfl; have hcz15_1 : w14.cell? ⟨gb359, 1, none⟩ = some (.string a0_1) := (blk_cell BK359.out 1).trans rfl; have hfz15_0 := blk_frozen BK359.out 0; have hfz15_1 := blk_frozen BK359.out 1) | ((with_reducible refine gate_callee (f := 19) rfl ?_); refine goesL_ (some 4) rfl rfl Try.func19 (by kernel_rfl) rfl #[.agg #[.int .i64 a0_0, .string a0_1]] rfl (by (try simp only [List.map_toArray, List.map_cons, List.map_nil]); first | done | rfl | (simp only [List.length_drop, List.length_take]; rfl)) ?_; (with_reducible refine (impl_AreSigns.calls k a0_0 a0_1 false _ A2.out).mono ?_); rintro e w16 ⟨rfl, hb⟩; refine ⟨_, rfl, ?_⟩; have n0_ := Aside0.mk (blk_below (g := gb359) (o := .cells #[.int .i64 a0_0, .string a0_1] 26 (0, 0)) (by (with_reducible repeat (first | refine blk_drewN ?_ _ | refine blk_drew ?_ | refine blk_alloc ?_ _)); exact BK359.out) hb); have n1_ := Aside0.mk (below_step (by repeat (first | (with_reducible first | exact HB.out | apply below_alloc | apply pw_below_drewN | apply below_drew1 | refine below_set ?_ GE359.out) | exact HB.out)) hb); clear BK359; clear HB; have BK359 := n0_; have HB := n1_; clear n0_ n1_; (try clear hb); (try clear hb2); (try clear hk); (try clear hi)))
    go_ret
    exact ⟨_, by first | rfl | (simp [errW_none, errW_some] <;> rfl) | (simp [*, errW_none, errW_some] <;> rfl), ⟨by first | exact Kd.R_nil _ _ _ _ _ | exact Kd.N_nil _ _ _ _ _ | exact Kd.V_nil _ _ _ _ _ | exact Kd.Q_nil _ _ _ _ _ | exact Kd.S_nil _ _ _ _ _, by first | rfl | exact fun _ => rfl⟩, by repeat (first | (with_reducible first | exact HB.out | apply below_alloc | apply pw_below_drewN | apply below_drew1 | refine below_set ?_ GE359.out) | exact HB.out)⟩
end Go.Proofs.Ytggbekkinkggfaa.PX
namespace Go.Proofs.Ytggbekkinkggfaa.PX
open Go.RowKit Go.Proofs.Ytggbekkinkggfaa.G Go.Proofs.YtggbekkinkggfaaW.PrintWords Go.Proofs.YtggbekkinkggfaaW.PrintLast Go.Proofs.YtggbekkinkggfaaW.PrintMore
attribute [local go_sem] max2_int min2_int max_two min_two max_three min_three max_four min_four   -- for this text's walks alone
set_option linter.unusedVariables false
set_option linter.unusedSimpArgs false
/-! ### spec_l4Breaks: function 65 -/
def spec_l4Breaks.f (k : Nat) (a0_0 : Int) (a0_1 : ByteArray) (a1 : Int) (a2 : Int) (a3 : Int) (a4 : Int) (a5 : Int) : Option (Bool) := (spec_l3At.f k a0_0 a0_1 a1 a2 a3).bind fun t303 => ((spec_l3At.f k a0_0 a0_1 a1 a4 a5).bind fun t304 => ((spec_l3At.f k a0_0 a0_1 a1 a2 a5).bind fun t305 => ((spec_l3At.f k a0_0 a0_1 a1 a3 a4).bind fun t306 => ((spec_l3At.f k a0_0 a0_1 a1 a2 a4).bind fun t307 => ((spec_l3At.f k a0_0 a0_1 a1 a3 a5).bind fun t308 => (if (wrap64 (t303 * t304)) = (wrap64 (t305 * t306)) then (some ((wrap64 (t305 * t306)) == (wrap64 ((wrap64 (-t307)) * t308)))) else (some false)))))))
theorem spec_l4Breaks.mono : ∀ a0 a1 a2 a3 a4 a5 a6 k, LeO (spec_l4Breaks.f k a0 a1 a2 a3 a4 a5 a6) (spec_l4Breaks.f (k + 1) a0 a1 a2 a3 a4 a5 a6) := by
 intro a0 a1 a2 a3 a4 a5 a6 k
 unfold spec_l4Breaks.f
 repeat' first
   | (with_reducible exact spec_l3At.mono _ _ _ _ _ _)
   | (with_reducible exact LeO.refl _)
   | (with_reducible exact LeO.none _)
   | (with_reducible refine LeO.ite ?_ ?_)
   | (with_reducible refine LeO.bind ?_ (fun _ => ?_))
   | exact spec_l3At.mono _ _ _ _ _ _
   | exact LeO.none _
   | refine LeO.ite ?_ ?_
   | refine LeO.bind ?_ (fun _ => ?_)
def spec_l4Breaks.T1 : Bool × List (List Nat × List Nat) := (true, [([], []), ([], []), ([], []), ([], []), ([0, 1, 2, 3], [0, 1, 2, 3]), ([], []), ([], []), ([], []), ([], []), ([5, 6, 7, 8, 4], [5, 6, 7, 8]), ([4, 9], [4, 9]), ([10, 9, 0, 1, 2, 3, 4, 5, 6, 7, 8, 9, 10], [10])])
def spec_l4Breaks.B1 : List Nat := [0, 0, 0, 0, 15, 0, 0, 0, 0, 511, 1023, 2047]
theorem spec_l4Breaks.tab1 : rtab .any (opsOf Try.f65 1) = spec_l4Breaks.T1 := by kernel_rfl
theorem spec_l4Breaks.bits1 : waitsOk spec_l4Breaks.T1.2 spec_l4Breaks.B1 = true := by kernel_rfl
def spec_l4Breaks.T2 : Bool × List (List Nat × List Nat) := (true, [([], []), ([], []), ([], []), ([], []), ([0, 1, 2, 3], [0, 1, 2, 3]), ([], []), ([], []), ([], []), ([], []), ([5, 6, 7, 8, 4], [5, 6, 7, 8]), ([4, 9], [4, 9]), ([10, 9, 0, 1, 2, 3, 4, 5, 6, 7, 8, 9, 10], [10])])
def spec_l4Breaks.B2 : List Nat := [0, 0, 0, 0, 15, 0, 0, 0, 0, 511, 1023, 2047]
theorem spec_l4Breaks.tab2 : rtab .any (opsOf Try.f65 2) = spec_l4Breaks.T2 := by kernel_rfl
theorem spec_l4Breaks.bits2 : waitsOk spec_l4Breaks.T2.2 spec_l4Breaks.B2 = true := by kernel_rfl
def spec_l4Breaks.T3 : Bool × List (List Nat × List Nat) := (true, [([], []), ([], []), ([], []), ([], []), ([0, 1, 2, 3], [0, 1, 2, 3]), ([4], [4]), ([], []), ([], []), ([], []), ([], []), ([6, 7, 8, 9, 4], [6, 7, 8, 9]), ([5, 10], [5, 10]), ([11, 10, 0, 1, 2, 3, 4, 5, 6, 7, 8, 9, 10, 11], [11])])
def spec_l4Breaks.B3 : List Nat := [0, 0, 0, 0, 15, 31, 0, 0, 0, 0, 991, 2047, 4095]
theorem spec_l4Breaks.tab3 : rtab .any (opsOf Try.f65 3) = spec_l4Breaks.T3 := by kernel_rfl
theorem spec_l4Breaks.bits3 : waitsOk spec_l4Breaks.T3.2 spec_l4Breaks.B3 = true := by kernel_rfl
set_option maxHeartbeats 8000000 in
set_option maxRecDepth 100000 in
theorem spec_l4Breaks.calls (k : Nat) (a0_0 : Int) (a0_1 : ByteArray) (a1 : Int) (a2 : Int) (a3 : Int) (a4 : Int) (a5 : Int) (r : Bool) (w : World) (h : spec_l4Breaks.f k a0_0 a0_1 a1 a2 a3 a4 a5 = some r) :
  Calls Try.prog 65 #[.agg #[.int .i64 a0_0, .string a0_1], .int .i64 a1, .int .i64 a2, .int .i64 a3, .int .i64 a4, .int .i64 a5] w fun e w' => e = .returned (.bool r) ∧ Below w.heap.size w w' := by
 have hu26 := Try.underlying26
 have HB := Aside0.mk (Below.refl w.heap.size w)
 have H : ((spec_l3At.f k a0_0 a0_1 a1 a2 a3).bind fun t303 => ((spec_l3At.f k a0_0 a0_1 a1 a4 a5).bind fun t304 => ((spec_l3At.f k a0_0 a0_1 a1 a2 a5).bind fun t305 => ((spec_l3At.f k a0_0 a0_1 a1 a3 a4).bind fun t306 => ((spec_l3At.f k a0_0 a0_1 a1 a2 a4).bind fun t307 => ((spec_l3At.f k a0_0 a0_1 a1 a3 a5).bind fun t308 => (if (wrap64 (t303 * t304)) = (wrap64 (t305 * t306)) then (some ((wrap64 (t305 * t306)) == (wrap64 ((wrap64 (-t307)) * t308)))) else (some false)))))))) = some r := h
 clear h
 replace H := Option.bind_eq_some_iff.mp H
 obtain ⟨t303, A70, H⟩ := H
 replace H : ((spec_l3At.f k a0_0 a0_1 a1 a4 a5).bind fun t304 => ((spec_l3At.f k a0_0 a0_1 a1 a2 a5).bind fun t305 => ((spec_l3At.f k a0_0 a0_1 a1 a3 a4).bind fun t306 => ((spec_l3At.f k a0_0 a0_1 a1 a2 a4).bind fun t307 => ((spec_l3At.f k a0_0 a0_1 a1 a3 a5).bind fun t308 => (if (wrap64 (t303 * t304)) = (wrap64 (t305 * t306)) then (some ((wrap64 (t305 * t306)) == (wrap64 ((wrap64 (-t307)) * t308)))) else (some false))))))) = some r := H
 have A7 := Aside0.mk A70
 clear A70
 replace H := Option.bind_eq_some_iff.mp H
 obtain ⟨t304, A80, H⟩ := H
 replace H : ((spec_l3At.f k a0_0 a0_1 a1 a2 a5).bind fun t305 => ((spec_l3At.f k a0_0 a0_1 a1 a3 a4).bind fun t306 => ((spec_l3At.f k a0_0 a0_1 a1 a2 a4).bind fun t307 => ((spec_l3At.f k a0_0 a0_1 a1 a3 a5).bind fun t308 => (if (wrap64 (t303 * t304)) = (wrap64 (t305 * t306)) then (some ((wrap64 (t305 * t306)) == (wrap64 ((wrap64 (-t307)) * t308)))) else (some false)))))) = some r := H
 have A8 := Aside0.mk A80
 clear A80
 replace H := Option.bind_eq_some_iff.mp H
 obtain ⟨t305, A90, H⟩ := H
 replace H : ((spec_l3At.f k a0_0 a0_1 a1 a3 a4).bind fun t306 => ((spec_l3At.f k a0_0 a0_1 a1 a2 a4).bind fun t307 => ((spec_l3At.f k a0_0 a0_1 a1 a3 a5).bind fun t308 => (if (wrap64 (t303 * t304)) = (wrap64 (t305 * t306)) then (some ((wrap64 (t305 * t306)) == (wrap64 ((wrap64 (-t307)) * t308)))) else (some false))))) = some r := H
 have A9 := Aside0.mk A90
 clear A90
 replace H := Option.bind_eq_some_iff.mp H
 obtain ⟨t306, A100, H⟩ := H
 replace H : ((spec_l3At.f k a0_0 a0_1 a1 a2 a4).bind fun t307 => ((spec_l3At.f k a0_0 a0_1 a1 a3 a5).bind fun t308 => (if (wrap64 (t303 * t304)) = (wrap64 (t305 * t306)) then (some ((wrap64 (t305 * t306)) == (wrap64 ((wrap64 (-t307)) * t308)))) else (some false)))) = some r := H
 have A10 := Aside0.mk A100
 clear A100
 replace H := Option.bind_eq_some_iff.mp H
 obtain ⟨t307, A110, H⟩ := H
 replace H : ((spec_l3At.f k a0_0 a0_1 a1 a3 a5).bind fun t308 => (if (wrap64 (t303 * t304)) = (wrap64 (t305 * t306)) then (some ((wrap64 (t305 * t306)) == (wrap64 ((wrap64 (-t307)) * t308)))) else (some false))) = some r := H
 have A11 := Aside0.mk A110
 clear A110
 replace H := Option.bind_eq_some_iff.mp H
 obtain ⟨t308, A120, H⟩ := H
 replace H : (if (wrap64 (t303 * t304)) = (wrap64 (t305 * t306)) then (some ((wrap64 (t305 * t306)) == (wrap64 ((wrap64 (-t307)) * t308)))) else (some false)) = some r := H
 have A12 := Aside0.mk A120
 clear A120
 by_cases c13 : (wrap64 (t303 * t304)) = (wrap64 (t305 * t306))
 ·rw [if_pos c13] at H
  have c13b0 : ((wrap64 (t303 * t304)) == (wrap64 (t305 * t306))) = true := beq_iff_eq.mpr c13
  have c13b1 : ((wrap64 (t303 * t304)) != (wrap64 (t305 * t306))) = false := bne_eq_false_iff_eq.mpr c13
  clear c13
  obtain rfl := Option.some.inj H
  go_enter Try.func65, Try.ntmps65
  try go_wp2_with (first | ((with_reducible refine gate_dst (N := 6) rfl ?_); refine box_event ?hg (N := 6) ?hd (cs := #[.int .i64 a0_0, .string a0_1]) (t := 26) ?hr ?_; (case hd => rfl); (case hg => rfl); (case hr => first | (go_simp; done) | (go_simp; rfl)); intro gb302 hg w14 hbox hb; have n0_ := Aside0.mk (below_step zB hb); have n1_ := Aside0.mk (hbox); have n2_ := Aside0.mk ((by rw [hg]; exact (below_size zB) : w.heap.size ≤ gb302)); have n3_ := Aside0.mk ((by rw [hg]; exact (below_size zB) : w.heap.size ≤ gb302)); clear HB; have HB := n0_; have BK302 := n1_; have GW302 := n2_; have GE302 := n3_; clear n0_ n1_ n2_ n3_; clear hb hbox hg))
  have n0_ := Aside0.mk (blk_drew BK302.out)
  have n1_ := Aside0.mk (below_drew1 HB.out)
  clear BK302
  clear HB
  have BK302 := n0_
  have HB := n1_
  clear n0_ n1_
  refine start_ (n := 12) (S := fun w' => w'.cell? ⟨gb302, 0, none⟩ = some (.int .i64 a0_0) ∧ w'.cell? ⟨gb302, 1, none⟩ = some (.string a0_1)) (ds := []) #[false, false, false, false, false, false, false, false, false, false, false, false] (by kernel_rfl) rfl rfl ⟨(blk_cell BK302.out 0).trans rfl, (blk_cell BK302.out 1).trans rfl⟩ (fun hHeld => ?_); refine with_tabW spec_l4Breaks.tab1 spec_l4Breaks.bits1 (fun HT_ HW_ => ?_)
  generalize w14.drew = w15 at BK302 HB hHeld ⊢
  refine pure_ (i := 1) (N := some 17) (v := ?_) (a' := ?_) #[false, true, false, false, false, false, false, false, false, false, false, false] rfl rfl (any_of HT_.out (by kernel_rfl)) (fun _ _ _ h => h) (Or.inl ⟨by rfl, ?_⟩) ?_ ?_
  rotate_left
  ·intro w'
   go_simp
   with_reducible rfl
  rotate_left
  ·simp only [Act.put, List.setIfInBounds_toArray, List.set_cons_zero, List.set_cons_succ, i64_w, i32_w]
   rfl
  refine pure_ (i := 2) (N := some 18) (v := ?_) (a' := ?_) #[false, true, true, false, false, false, false, false, false, false, false, false] rfl rfl (any_of HT_.out (by kernel_rfl)) (fun _ _ _ h => h) (Or.inl ⟨by rfl, ?_⟩) ?_ ?_
  rotate_left
  ·intro w'
   go_simp
   with_reducible rfl
  rotate_left
  ·simp only [Act.put, List.setIfInBounds_toArray, List.set_cons_zero, List.set_cons_succ, i64_w, i32_w]
   rfl
  refine pure_ (i := 3) (N := some 19) (v := ?_) (a' := ?_) #[false, true, true, true, false, false, false, false, false, false, false, false] rfl rfl (any_of HT_.out (by kernel_rfl)) (fun _ _ _ h => h) (Or.inl ⟨by rfl, ?_⟩) ?_ ?_
  rotate_left
  ·intro w'
   go_simp
   with_reducible rfl
  rotate_left
  ·simp only [Act.put, List.setIfInBounds_toArray, List.set_cons_zero, List.set_cons_succ, i64_w, i32_w]
   rfl
  refine pure_ (i := 6) (N := some 22) (v := ?_) (a' := ?_) #[false, true, true, true, false, false, true, false, false, false, false, false] rfl rfl (any_of HT_.out (by kernel_rfl)) (fun _ _ _ h => h) (Or.inl ⟨by rfl, ?_⟩) ?_ ?_
  rotate_left
  ·intro w'
   go_simp
   with_reducible rfl
  rotate_left
  ·simp only [Act.put, List.setIfInBounds_toArray, List.set_cons_zero, List.set_cons_succ, i64_w, i32_w]
   rfl
  refine pure_ (i := 7) (N := some 23) (v := ?_) (a' := ?_) #[false, true, true, true, false, false, true, true, false, false, false, false] rfl rfl (any_of HT_.out (by kernel_rfl)) (fun _ _ _ h => h) (Or.inl ⟨by rfl, ?_⟩) ?_ ?_
  rotate_left
  ·intro w'
   go_simp
   with_reducible rfl
  rotate_left
  ·simp only [Act.put, List.setIfInBounds_toArray, List.set_cons_zero, List.set_cons_succ, i64_w, i32_w]
   rfl
  refine pure_ (i := 8) (N := some 24) (v := ?_) (a' := ?_) #[false, true, true, true, false, false, true, true, true, false, false, false] rfl rfl (any_of HT_.out (by kernel_rfl)) (fun _ _ _ h => h) (Or.inl ⟨by rfl, ?_⟩) ?_ ?_
  rotate_left
  ·intro w'
   go_simp
   with_reducible rfl
  rotate_left
  ·simp only [Act.put, List.setIfInBounds_toArray, List.set_cons_zero, List.set_cons_succ, i64_w, i32_w]
   rfl
  refine take_ (i := 0) (N := some 16) (v := ?_) (a' := ?_) #[true, true, true, true, false, false, true, true, true, false, false, false] rfl rfl (take_ofW HT_.out HW_.out (by kernel_rfl)) (fun _ _ _ h => h) (Or.inl ⟨by rfl, ?_⟩) hHeld ?_ ?_
  rotate_left
  ·rintro w' ⟨s0, s1⟩
   go_simp
   with_reducible rfl
  rotate_left
  ·simp only [Act.put, List.setIfInBounds_toArray, List.set_cons_zero, List.set_cons_succ, i64_w, i32_w]
   rfl
  refine take_ (i := 5) (N := some 21) (v := ?_) (a' := ?_) #[true, true, true, true, false, true, true, true, true, false, false, false] rfl rfl (take_ofW HT_.out HW_.out (by kernel_rfl)) (fun _ _ _ h => h) (Or.inl ⟨by rfl, ?_⟩) hHeld ?_ ?_
  rotate_left
  ·rintro w' ⟨s0, s1⟩
   go_simp
   with_reducible rfl
  rotate_left
  ·simp only [Act.put, List.setIfInBounds_toArray, List.set_cons_zero, List.set_cons_succ, i64_w, i32_w]
   rfl
  refine one_ (i := 4) (N := some 20) #[true, true, true, true, true, true, true, true, true, false, false, false] rfl rfl (one_of HT_.out (by kernel_rfl)) (by decide) (fun K hK => ?_)
  refine goes_ Try.func53 (by kernel_rfl) rfl #[.agg #[.int .i64 a0_0, .string a0_1], .int .i64 a1, .int .i64 a2, .int .i64 a3] (by rfl) rfl rfl zM ?_
  with_reducible refine (spec_l3At.calls k a0_0 a0_1 a1 a2 a3 t303 _ A7.out).mono ?_
  rintro e w16 ⟨rfl, hb⟩
  refine ⟨_, rfl, ?_⟩
  have n0_ := Aside0.mk (blk_below (g := gb302) (o := .cells #[.int .i64 a0_0, .string a0_1] 26 (0, 0)) (zK BK302.out) hb)
  have n1_ := Aside0.mk (below_step (zG GE302.out) hb)
  clear BK302
  clear HB
  have BK302 := n0_
  have HB := n1_
  clear n0_ n1_
  (try clear hb)
  (try clear hb2)
  (try clear hk)
  (try clear hi)
  refine hK.out _ _ ⟨(blk_cell BK302.out 0).trans rfl, (blk_cell BK302.out 1).trans rfl⟩ (fun hHeld => ?_)
  clear hK K
  refine norm_ (a' := ?_) ?_ ?_
  rotate_left
  ·show Act.put _ (some 20) _ = _
   simp only [Act.put, List.setIfInBounds_toArray, List.set_cons_zero, List.set_cons_succ, i64_w, i32_w]
   rfl
  refine one_ (i := 9) (N := some 25) #[true, true, true, true, true, true, true, true, true, true, false, false] rfl rfl (one_of HT_.out (by kernel_rfl)) (by decide) (fun K hK => ?_)
  refine goes_ Try.func53 (by kernel_rfl) rfl #[.agg #[.int .i64 a0_0, .string a0_1], .int .i64 a1, .int .i64 a4, .int .i64 a5] (by rfl) rfl rfl zM ?_
  with_reducible refine (spec_l3At.calls k a0_0 a0_1 a1 a4 a5 t304 _ A8.out).mono ?_
  rintro e w17 ⟨rfl, hb⟩
  refine ⟨_, rfl, ?_⟩
  have n0_ := Aside0.mk (blk_below (g := gb302) (o := .cells #[.int .i64 a0_0, .string a0_1] 26 (0, 0)) (zK BK302.out) hb)
  have n1_ := Aside0.mk (below_step (zG GE302.out) hb)
  clear BK302
  clear HB
  have BK302 := n0_
  have HB := n1_
  clear n0_ n1_
  (try clear hb)
  (try clear hb2)
  (try clear hk)
  (try clear hi)
  refine hK.out _ _ ⟨(blk_cell BK302.out 0).trans rfl, (blk_cell BK302.out 1).trans rfl⟩ (fun hHeld => ?_)
  clear hK K
  refine norm_ (a' := ?_) ?_ ?_
  rotate_left
  ·show Act.put _ (some 25) _ = _
   simp only [Act.put, List.setIfInBounds_toArray, List.set_cons_zero, List.set_cons_succ, i64_w, i32_w]
   rfl
  refine pure_ (i := 10) (N := some 26) (v := ?_) (a' := ?_) #[true, true, true, true, true, true, true, true, true, true, true, false] rfl rfl (any_of HT_.out (by kernel_rfl)) (fun _ _ _ h => h) (Or.inl ⟨by rfl, ?_⟩) ?_ ?_
  rotate_left
  ·intro w'
   go_simp
   with_reducible rfl
  rotate_left
  ·simp only [Act.put, List.setIfInBounds_toArray, List.set_cons_zero, List.set_cons_succ, i64_w, i32_w]
   rfl
  refine pure_ (i := 11) (N := some 13) (v := ?_) (a' := ?_) #[true, true, true, true, true, true, true, true, true, true, true, true] rfl rfl (any_of HT_.out (by kernel_rfl)) (fun _ _ _ h => h) (Or.inl ⟨by rfl, ?_⟩) ?_ ?_
  rotate_left
  ·intro w'
   go_simp
   with_reducible rfl
  rotate_left
  ·simp only [Act.put, List.setIfInBounds_toArray, List.set_cons_zero, List.set_cons_succ, i64_w, i32_w]
   rfl
  refine done_ (done_of HT_.out (by kernel_rfl)) ?_
  try go_wp2
  have n0_ := Aside0.mk (blk_drew BK302.out)
  have n1_ := Aside0.mk (below_drew1 HB.out)
  clear BK302
  clear HB
  have BK302 := n0_
  have HB := n1_
  clear n0_ n1_
  refine start_ (n := 12) (S := fun w' => w'.cell? ⟨gb302, 0, none⟩ = some (.int .i64 a0_0) ∧ w'.cell? ⟨gb302, 1, none⟩ = some (.string a0_1)) (ds := []) #[false, false, false, false, false, false, false, false, false, false, false, false] (by kernel_rfl) rfl rfl ⟨(blk_cell BK302.out 0).trans rfl, (blk_cell BK302.out 1).trans rfl⟩ (fun hHeld => ?_); refine with_tabW spec_l4Breaks.tab2 spec_l4Breaks.bits2 (fun HT_ HW_ => ?_)
  generalize w17.drew = w18 at BK302 HB hHeld ⊢
  refine pure_ (i := 1) (N := some 28) (v := ?_) (a' := ?_) #[false, true, false, false, false, false, false, false, false, false, false, false] rfl rfl (any_of HT_.out (by kernel_rfl)) (fun _ _ _ h => h) (Or.inl ⟨by rfl, ?_⟩) ?_ ?_
  rotate_left
  ·intro w'
   go_simp
   with_reducible rfl
  rotate_left
  ·simp only [Act.put, List.setIfInBounds_toArray, List.set_cons_zero, List.set_cons_succ, i64_w, i32_w]
   rfl
  refine pure_ (i := 2) (N := some 29) (v := ?_) (a' := ?_) #[false, true, true, false, false, false, false, false, false, false, false, false] rfl rfl (any_of HT_.out (by kernel_rfl)) (fun _ _ _ h => h) (Or.inl ⟨by rfl, ?_⟩) ?_ ?_
  rotate_left
  ·intro w'
   go_simp
   with_reducible rfl
  rotate_left
  ·simp only [Act.put, List.setIfInBounds_toArray, List.set_cons_zero, List.set_cons_succ, i64_w, i32_w]
   rfl
  refine pure_ (i := 3) (N := some 30) (v := ?_) (a' := ?_) #[false, true, true, true, false, false, false, false, false, false, false, false] rfl rfl (any_of HT_.out (by kernel_rfl)) (fun _ _ _ h => h) (Or.inl ⟨by rfl, ?_⟩) ?_ ?_
  rotate_left
  ·intro w'
   go_simp
   with_reducible rfl
  rotate_left
  ·simp only [Act.put, List.setIfInBounds_toArray, List.set_cons_zero, List.set_cons_succ, i64_w, i32_w]
   rfl
  refine pure_ (i := 6) (N := some 33) (v := ?_) (a' := ?_) #[false, true, true, true, false, false, true, false, false, false, false, false] rfl rfl (any_of HT_.out (by kernel_rfl)) (fun _ _ _ h => h) (Or.inl ⟨by rfl, ?_⟩) ?_ ?_
  rotate_left
  ·intro w'
   go_simp
   with_reducible rfl
  rotate_left
  ·simp only [Act.put, List.setIfInBounds_toArray, List.set_cons_zero, List.set_cons_succ, i64_w, i32_w]
   rfl
  refine pure_ (i := 7) (N := some 34) (v := ?_) (a' := ?_) #[false, true, true, true, false, false, true, true, false, false, false, false] rfl rfl (any_of HT_.out (by kernel_rfl)) (fun _ _ _ h => h) (Or.inl ⟨by rfl, ?_⟩) ?_ ?_
  rotate_left
  ·intro w'
   go_simp
   with_reducible rfl
  rotate_left
  ·simp only [Act.put, List.setIfInBounds_toArray, List.set_cons_zero, List.set_cons_succ, i64_w, i32_w]
   rfl
  refine pure_ (i := 8) (N := some 35) (v := ?_) (a' := ?_) #[false, true, true, true, false, false, true, true, true, false, false, false] rfl rfl (any_of HT_.out (by kernel_rfl)) (fun _ _ _ h => h) (Or.inl ⟨by rfl, ?_⟩) ?_ ?_
  rotate_left
  ·intro w'
   go_simp
   with_reducible rfl
  rotate_left
  ·simp only [Act.put, List.setIfInBounds_toArray, List.set_cons_zero, List.set_cons_succ, i64_w, i32_w]
   rfl
  refine take_ (i := 0) (N := some 27) (v := ?_) (a' := ?_) #[true, true, true, true, false, false, true, true, true, false, false, false] rfl rfl (take_ofW HT_.out HW_.out (by kernel_rfl)) (fun _ _ _ h => h) (Or.inl ⟨by rfl, ?_⟩) hHeld ?_ ?_
  rotate_left
  ·rintro w' ⟨s0, s1⟩
   go_simp
   with_reducible rfl
  rotate_left
  ·simp only [Act.put, List.setIfInBounds_toArray, List.set_cons_zero, List.set_cons_succ, i64_w, i32_w]
   rfl
  refine take_ (i := 5) (N := some 32) (v := ?_) (a' := ?_) #[true, true, true, true, false, true, true, true, true, false, false, false] rfl rfl (take_ofW HT_.out HW_.out (by kernel_rfl)) (fun _ _ _ h => h) (Or.inl ⟨by rfl, ?_⟩) hHeld ?_ ?_
  rotate_left
  ·rintro w' ⟨s0, s1⟩
   go_simp
   with_reducible rfl
  rotate_left
  ·simp only [Act.put, List.setIfInBounds_toArray, List.set_cons_zero, List.set_cons_succ, i64_w, i32_w]
   rfl
  refine one_ (i := 4) (N := some 31) #[true, true, true, true, true, true, true, true, true, false, false, false] rfl rfl (one_of HT_.out (by kernel_rfl)) (by decide) (fun K hK => ?_)
  refine goes_ Try.func53 (by kernel_rfl) rfl #[.agg #[.int .i64 a0_0, .string a0_1], .int .i64 a1, .int .i64 a2, .int .i64 a5] (by rfl) rfl rfl zM ?_
  with_reducible refine (spec_l3At.calls k a0_0 a0_1 a1 a2 a5 t305 _ A9.out).mono ?_
  rintro e w19 ⟨rfl, hb⟩
  refine ⟨_, rfl, ?_⟩
  have n0_ := Aside0.mk (blk_below (g := gb302) (o := .cells #[.int .i64 a0_0, .string a0_1] 26 (0, 0)) (zK BK302.out) hb)
  have n1_ := Aside0.mk (below_step (zG GE302.out) hb)
  clear BK302
  clear HB
  have BK302 := n0_
  have HB := n1_
  clear n0_ n1_
  (try clear hb)
  (try clear hb2)
  (try clear hk)
  (try clear hi)
  refine hK.out _ _ ⟨(blk_cell BK302.out 0).trans rfl, (blk_cell BK302.out 1).trans rfl⟩ (fun hHeld => ?_)
  clear hK K
  refine norm_ (a' := ?_) ?_ ?_
  rotate_left
  ·show Act.put _ (some 31) _ = _
   simp only [Act.put, List.setIfInBounds_toArray, List.set_cons_zero, List.set_cons_succ, i64_w, i32_w]
   rfl
  refine one_ (i := 9) (N := some 36) #[true, true, true, true, true, true, true, true, true, true, false, false] rfl rfl (one_of HT_.out (by kernel_rfl)) (by decide) (fun K hK => ?_)
  refine goes_ Try.func53 (by kernel_rfl) rfl #[.agg #[.int .i64 a0_0, .string a0_1], .int .i64 a1, .int .i64 a3, .int .i64 a4] (by rfl) rfl rfl zM ?_
  with_reducible refine (spec_l3At.calls k a0_0 a0_1 a1 a3 a4 t306 _ A10.out).mono ?_
  rintro e w20 ⟨rfl, hb⟩
  refine ⟨_, rfl, ?_⟩
  have n0_ := Aside0.mk (blk_below (g := gb302) (o := .cells #[.int .i64 a0_0, .string a0_1] 26 (0, 0)) (zK BK302.out) hb)
  have n1_ := Aside0.mk (below_step (zG GE302.out) hb)
  clear BK302
  clear HB
  have BK302 := n0_
  have HB := n1_
  clear n0_ n1_
  (try clear hb)
  (try clear hb2)
  (try clear hk)
  (try clear hi)
  refine hK.out _ _ ⟨(blk_cell BK302.out 0).trans rfl, (blk_cell BK302.out 1).trans rfl⟩ (fun hHeld => ?_)
  clear hK K
  refine norm_ (a' := ?_) ?_ ?_
  rotate_left
  ·show Act.put _ (some 36) _ = _
   simp only [Act.put, List.setIfInBounds_toArray, List.set_cons_zero, List.set_cons_succ, i64_w, i32_w]
   rfl
  refine pure_ (i := 10) (N := some 37) (v := ?_) (a' := ?_) #[true, true, true, true, true, true, true, true, true, true, true, false] rfl rfl (any_of HT_.out (by kernel_rfl)) (fun _ _ _ h => h) (Or.inl ⟨by rfl, ?_⟩) ?_ ?_
  rotate_left
  ·intro w'
   go_simp
   with_reducible rfl
  rotate_left
  ·simp only [Act.put, List.setIfInBounds_toArray, List.set_cons_zero, List.set_cons_succ, i64_w, i32_w]
   rfl
  refine pure_ (i := 11) (N := some 14) (v := ?_) (a' := ?_) #[true, true, true, true, true, true, true, true, true, true, true, true] rfl rfl (any_of HT_.out (by kernel_rfl)) (fun _ _ _ h => h) (Or.inl ⟨by rfl, ?_⟩) ?_ ?_
  rotate_left
  ·intro w'
   go_simp
   with_reducible rfl
  rotate_left
  ·simp only [Act.put, List.setIfInBounds_toArray, List.set_cons_zero, List.set_cons_succ, i64_w, i32_w]
   rfl
  refine done_ (done_of HT_.out (by kernel_rfl)) ?_
  try go_wp2
  have n0_ := Aside0.mk (blk_drew BK302.out)
  have n1_ := Aside0.mk (below_drew1 HB.out)
  clear BK302
  clear HB
  have BK302 := n0_
  have HB := n1_
  clear n0_ n1_
  refine start_ (n := 13) (S := fun w' => w'.cell? ⟨gb302, 0, none⟩ = some (.int .i64 a0_0) ∧ w'.cell? ⟨gb302, 1, none⟩ = some (.string a0_1)) (ds := []) #[false, false, false, false, false, false, false, false, false, false, false, false, false] (by kernel_rfl) rfl rfl ⟨(blk_cell BK302.out 0).trans rfl, (blk_cell BK302.out 1).trans rfl⟩ (fun hHeld => ?_); refine with_tabW spec_l4Breaks.tab3 spec_l4Breaks.bits3 (fun HT_ HW_ => ?_)
  generalize w20.drew = w21 at BK302 HB hHeld ⊢
  refine pure_ (i := 1) (N := some 39) (v := ?_) (a' := ?_) #[false, true, false, false, false, false, false, false, false, false, false, false, false] rfl rfl (any_of HT_.out (by kernel_rfl)) (fun _ _ _ h => h) (Or.inl ⟨by rfl, ?_⟩) ?_ ?_
  rotate_left
  ·intro w'
   go_simp
   with_reducible rfl
  rotate_left
  ·simp only [Act.put, List.setIfInBounds_toArray, List.set_cons_zero, List.set_cons_succ, i64_w, i32_w]
   rfl
  refine pure_ (i := 2) (N := some 40) (v := ?_) (a' := ?_) #[false, true, true, false, false, false, false, false, false, false, false, false, false] rfl rfl (any_of HT_.out (by kernel_rfl)) (fun _ _ _ h => h) (Or.inl ⟨by rfl, ?_⟩) ?_ ?_
  rotate_left
  ·intro w'
   go_simp
   with_reducible rfl
  rotate_left
  ·simp only [Act.put, List.setIfInBounds_toArray, List.set_cons_zero, List.set_cons_succ, i64_w, i32_w]
   rfl
  refine pure_ (i := 3) (N := some 41) (v := ?_) (a' := ?_) #[false, true, true, true, false, false, false, false, false, false, false, false, false] rfl rfl (any_of HT_.out (by kernel_rfl)) (fun _ _ _ h => h) (Or.inl ⟨by rfl, ?_⟩) ?_ ?_
  rotate_left
  ·intro w'
   go_simp
   with_reducible rfl
  rotate_left
  ·simp only [Act.put, List.setIfInBounds_toArray, List.set_cons_zero, List.set_cons_succ, i64_w, i32_w]
   rfl
  refine pure_ (i := 7) (N := some 45) (v := ?_) (a' := ?_) #[false, true, true, true, false, false, false, true, false, false, false, false, false] rfl rfl (any_of HT_.out (by kernel_rfl)) (fun _ _ _ h => h) (Or.inl ⟨by rfl, ?_⟩) ?_ ?_
  rotate_left
  ·intro w'
   go_simp
   with_reducible rfl
  rotate_left
  ·simp only [Act.put, List.setIfInBounds_toArray, List.set_cons_zero, List.set_cons_succ, i64_w, i32_w]
   rfl
  refine pure_ (i := 8) (N := some 46) (v := ?_) (a' := ?_) #[false, true, true, true, false, false, false, true, true, false, false, false, false] rfl rfl (any_of HT_.out (by kernel_rfl)) (fun _ _ _ h => h) (Or.inl ⟨by rfl, ?_⟩) ?_ ?_
  rotate_left
  ·intro w'
   go_simp
   with_reducible rfl
  rotate_left
  ·simp only [Act.put, List.setIfInBounds_toArray, List.set_cons_zero, List.set_cons_succ, i64_w, i32_w]
   rfl
  refine pure_ (i := 9) (N := some 47) (v := ?_) (a' := ?_) #[false, true, true, true, false, false, false, true, true, true, false, false, false] rfl rfl (any_of HT_.out (by kernel_rfl)) (fun _ _ _ h => h) (Or.inl ⟨by rfl, ?_⟩) ?_ ?_
  rotate_left
  ·intro w'
   go_simp
   with_reducible rfl
  rotate_left
  ·simp only [Act.put, List.setIfInBounds_toArray, List.set_cons_zero, List.set_cons_succ, i64_w, i32_w]
   rfl
  refine take_ (i := 0) (N := some 38) (v := ?_) (a' := ?_) #[true, true, true, true, false, false, false, true, true, true, false, false, false] rfl rfl (take_ofW HT_.out HW_.out (by kernel_rfl)) (fun _ _ _ h => h) (Or.inl ⟨by rfl, ?_⟩) hHeld ?_ ?_
  rotate_left
  ·rintro w' ⟨s0, s1⟩
   go_simp
   with_reducible rfl
  rotate_left
  ·simp only [Act.put, List.setIfInBounds_toArray, List.set_cons_zero, List.set_cons_succ, i64_w, i32_w]
   rfl
  refine take_ (i := 6) (N := some 44) (v := ?_) (a' := ?_) #[true, true, true, true, false, false, true, true, true, true, false, false, false] rfl rfl (take_ofW HT_.out HW_.out (by kernel_rfl)) (fun _ _ _ h => h) (Or.inl ⟨by rfl, ?_⟩) hHeld ?_ ?_
  rotate_left
  ·rintro w' ⟨s0, s1⟩
   go_simp
   with_reducible rfl
  rotate_left
  ·simp only [Act.put, List.setIfInBounds_toArray, List.set_cons_zero, List.set_cons_succ, i64_w, i32_w]
   rfl
  refine one_ (i := 4) (N := some 42) #[true, true, true, true, true, false, true, true, true, true, false, false, false] rfl rfl (one_of HT_.out (by kernel_rfl)) (by decide) (fun K hK => ?_)
  refine goes_ Try.func53 (by kernel_rfl) rfl #[.agg #[.int .i64 a0_0, .string a0_1], .int .i64 a1, .int .i64 a2, .int .i64 a4] (by rfl) rfl rfl zM ?_
  with_reducible refine (spec_l3At.calls k a0_0 a0_1 a1 a2 a4 t307 _ A11.out).mono ?_
  rintro e w22 ⟨rfl, hb⟩
  refine ⟨_, rfl, ?_⟩
  have n0_ := Aside0.mk (blk_below (g := gb302) (o := .cells #[.int .i64 a0_0, .string a0_1] 26 (0, 0)) (zK BK302.out) hb)
  have n1_ := Aside0.mk (below_step (zG GE302.out) hb)
  clear BK302
  clear HB
  have BK302 := n0_
  have HB := n1_
  clear n0_ n1_
  (try clear hb)
  (try clear hb2)
  (try clear hk)
  (try clear hi)
  refine hK.out _ _ ⟨(blk_cell BK302.out 0).trans rfl, (blk_cell BK302.out 1).trans rfl⟩ (fun hHeld => ?_)
  clear hK K
  refine norm_ (a' := ?_) ?_ ?_
  rotate_left
  ·show Act.put _ (some 42) _ = _
   simp only [Act.put, List.setIfInBounds_toArray, List.set_cons_zero, List.set_cons_succ, i64_w, i32_w]
   rfl
  refine pure_ (i := 5) (N := some 43) (v := ?_) (a' := ?_) #[true, true, true, true, true, true, true, true, true, true, false, false, false] rfl rfl (any_of HT_.out (by kernel_rfl)) (fun _ _ _ h => h) (Or.inl ⟨by rfl, ?_⟩) ?_ ?_
  rotate_left
  ·intro w'
   go_simp
   with_reducible rfl
  rotate_left
  ·simp only [Act.put, List.setIfInBounds_toArray, List.set_cons_zero, List.set_cons_succ, i64_w, i32_w]
   rfl
  refine one_ (i := 10) (N := some 48) #[true, true, true, true, true, true, true, true, true, true, true, false, false] rfl rfl (one_of HT_.out (by kernel_rfl)) (by decide) (fun K hK => ?_)
  refine goes_ Try.func53 (by kernel_rfl) rfl #[.agg #[.int .i64 a0_0, .string a0_1], .int .i64 a1, .int .i64 a3, .int .i64 a5] (by rfl) rfl rfl zM ?_
  with_reducible refine (spec_l3At.calls k a0_0 a0_1 a1 a3 a5 t308 _ A12.out).mono ?_
  rintro e w23 ⟨rfl, hb⟩
  refine ⟨_, rfl, ?_⟩
  have n0_ := Aside0.mk (blk_below (g := gb302) (o := .cells #[.int .i64 a0_0, .string a0_1] 26 (0, 0)) (zK BK302.out) hb)
  have n1_ := Aside0.mk (below_step (zG GE302.out) hb)
  clear BK302
  clear HB
  have BK302 := n0_
  have HB := n1_
  clear n0_ n1_
  (try clear hb)
  (try clear hb2)
  (try clear hk)
  (try clear hi)
  refine hK.out _ _ ⟨(blk_cell BK302.out 0).trans rfl, (blk_cell BK302.out 1).trans rfl⟩ (fun hHeld => ?_)
  clear hK K
  refine norm_ (a' := ?_) ?_ ?_
  rotate_left
  ·show Act.put _ (some 48) _ = _
   simp only [Act.put, List.setIfInBounds_toArray, List.set_cons_zero, List.set_cons_succ, i64_w, i32_w]
   rfl
  refine pure_ (i := 11) (N := some 49) (v := ?_) (a' := ?_) #[true, true, true, true, true, true, true, true, true, true, true, true, false] rfl rfl (any_of HT_.out (by kernel_rfl)) (fun _ _ _ h => h) (Or.inl ⟨by rfl, ?_⟩) ?_ ?_
  rotate_left
  ·intro w'
   go_simp
   with_reducible rfl
  rotate_left
  ·simp only [Act.put, List.setIfInBounds_toArray, List.set_cons_zero, List.set_cons_succ, i64_w, i32_w]
   rfl
  refine pure_ (i := 12) (N := some 15) (v := ?_) (a' := ?_) #[true, true, true, true, true, true, true, true, true, true, true, true, true] rfl rfl (any_of HT_.out (by kernel_rfl)) (fun _ _ _ h => h) (Or.inl ⟨by rfl, ?_⟩) ?_ ?_
  rotate_left
  ·intro w'
   go_simp
   with_reducible rfl
  rotate_left
  ·simp only [Act.put, List.setIfInBounds_toArray, List.set_cons_zero, List.set_cons_succ, i64_w, i32_w]
   rfl
  refine done_ (done_of HT_.out (by kernel_rfl)) ?_
  try go_wp2
  go_ret
  exact ⟨zE, zG GE302.out⟩
 ·rw [if_neg c13] at H
  have c13b0 : ((wrap64 (t303 * t304)) == (wrap64 (t305 * t306))) = false := beq_eq_false_iff_ne.mpr c13
  have c13b1 : ((wrap64 (t303 * t304)) != (wrap64 (t305 * t306))) = true := bne_iff_ne.mpr c13
  obtain rfl := Option.some.inj H
  go_enter Try.func65, Try.ntmps65
  try go_wp2_with (first | ((with_reducible refine gate_dst (N := 6) rfl ?_); refine box_event ?hg (N := 6) ?hd (cs := #[.int .i64 a0_0, .string a0_1]) (t := 26) ?hr ?_; (case hd => rfl); (case hg => rfl); (case hr => first | (go_simp; done) | (go_simp; rfl)); intro gb302 hg w24 hbox hb; have n0_ := Aside0.mk (below_step zB hb); have n1_ := Aside0.mk (hbox); have n2_ := Aside0.mk ((by rw [hg]; exact (below_size zB) : w.heap.size ≤ gb302)); have n3_ := Aside0.mk ((by rw [hg]; exact (below_size zB) : w.heap.size ≤ gb302)); clear HB; have HB := n0_; have BK302 := n1_; have GW302 := n2_; have GE302 := n3_; clear n0_ n1_ n2_ n3_; clear hb hbox hg))
  have n0_ := Aside0.mk (blk_drew BK302.out)
  have n1_ := Aside0.mk (below_drew1 HB.out)
  clear BK302
  clear HB
  have BK302 := n0_
  have HB := n1_
  clear n0_ n1_
  refine start_ (n := 12) (S := fun w' => w'.cell? ⟨gb302, 0, none⟩ = some (.int .i64 a0_0) ∧ w'.cell? ⟨gb302, 1, none⟩ = some (.string a0_1)) (ds := []) #[false, false, false, false, false, false, false, false, false, false, false, false] (by kernel_rfl) rfl rfl ⟨(blk_cell BK302.out 0).trans rfl, (blk_cell BK302.out 1).trans rfl⟩ (fun hHeld => ?_); refine with_tabW spec_l4Breaks.tab1 spec_l4Breaks.bits1 (fun HT_ HW_ => ?_)
  generalize w24.drew = w25 at BK302 HB hHeld ⊢
  refine pure_ (i := 1) (N := some 17) (v := ?_) (a' := ?_) #[false, true, false, false, false, false, false, false, false, false, false, false] rfl rfl (any_of HT_.out (by kernel_rfl)) (fun _ _ _ h => h) (Or.inl ⟨by rfl, ?_⟩) ?_ ?_
  rotate_left
  ·intro w'
   go_simp
   with_reducible rfl
  rotate_left
  ·simp only [Act.put, List.setIfInBounds_toArray, List.set_cons_zero, List.set_cons_succ, i64_w, i32_w]
   rfl
  refine pure_ (i := 2) (N := some 18) (v := ?_) (a' := ?_) #[false, true, true, false, false, false, false, false, false, false, false, false] rfl rfl (any_of HT_.out (by kernel_rfl)) (fun _ _ _ h => h) (Or.inl ⟨by rfl, ?_⟩) ?_ ?_
  rotate_left
  ·intro w'
   go_simp
   with_reducible rfl
  rotate_left
  ·simp only [Act.put, List.setIfInBounds_toArray, List.set_cons_zero, List.set_cons_succ, i64_w, i32_w]
   rfl
  refine pure_ (i := 3) (N := some 19) (v := ?_) (a' := ?_) #[false, true, true, true, false, false, false, false, false, false, false, false] rfl rfl (any_of HT_.out (by kernel_rfl)) (fun _ _ _ h => h) (Or.inl ⟨by rfl, ?_⟩) ?_ ?_
  rotate_left
  ·intro w'
   go_simp
   with_reducible rfl
  rotate_left
  ·simp only [Act.put, List.setIfInBounds_toArray, List.set_cons_zero, List.set_cons_succ, i64_w, i32_w]
   rfl
  refine pure_ (i := 6) (N := some 22) (v := ?_) (a' := ?_) #[false, true, true, true, false, false, true, false, false, false, false, false] rfl rfl (any_of HT_.out (by kernel_rfl)) (fun _ _ _ h => h) (Or.inl ⟨by rfl, ?_⟩) ?_ ?_
  rotate_left
  ·intro w'
   go_simp
   with_reducible rfl
  rotate_left
  ·simp only [Act.put, List.setIfInBounds_toArray, List.set_cons_zero, List.set_cons_succ, i64_w, i32_w]
   rfl
  refine pure_ (i := 7) (N := some 23) (v := ?_) (a' := ?_) #[false, true, true, true, false, false, true, true, false, false, false, false] rfl rfl (any_of HT_.out (by kernel_rfl)) (fun _ _ _ h => h) (Or.inl ⟨by rfl, ?_⟩) ?_ ?_
  rotate_left
  ·intro w'
   go_simp
   with_reducible rfl
  rotate_left
  ·simp only [Act.put, List.setIfInBounds_toArray, List.set_cons_zero, List.set_cons_succ, i64_w, i32_w]
   rfl
  refine pure_ (i := 8) (N := some 24) (v := ?_) (a' := ?_) #[false, true, true, true, false, false, true, true, true, false, false, false] rfl rfl (any_of HT_.out (by kernel_rfl)) (fun _ _ _ h => h) (Or.inl ⟨by rfl, ?_⟩) ?_ ?_
  rotate_left
  ·intro w'
   go_simp
   with_reducible rfl
  rotate_left
  ·simp only [Act.put, List.setIfInBounds_toArray, List.set_cons_zero, List.set_cons_succ, i64_w, i32_w]
   rfl
  refine take_ (i := 0) (N := some 16) (v := ?_) (a' := ?_) #[true, true, true, true, false, false, true, true, true, false, false, false] rfl rfl (take_ofW HT_.out HW_.out (by kernel_rfl)) (fun _ _ _ h => h) (Or.inl ⟨by rfl, ?_⟩) hHeld ?_ ?_
  rotate_left
  ·rintro w' ⟨s0, s1⟩
   go_simp
   with_reducible rfl
  rotate_left
  ·simp only [Act.put, List.setIfInBounds_toArray, List.set_cons_zero, List.set_cons_succ, i64_w, i32_w]
   rfl
  refine take_ (i := 5) (N := some 21) (v := ?_) (a' := ?_) #[true, true, true, true, false, true, true, true, true, false, false, false] rfl rfl (take_ofW HT_.out HW_.out (by kernel_rfl)) (fun _ _ _ h => h) (Or.inl ⟨by rfl, ?_⟩) hHeld ?_ ?_
  rotate_left
  ·rintro w' ⟨s0, s1⟩
   go_simp
   with_reducible rfl
  rotate_left
  ·simp only [Act.put, List.setIfInBounds_toArray, List.set_cons_zero, List.set_cons_succ, i64_w, i32_w]
   rfl
  refine one_ (i := 4) (N := some 20) #[true, true, true, true, true, true, true, true, true, false, false, false] rfl rfl (one_of HT_.out (by kernel_rfl)) (by decide) (fun K hK => ?_)
  refine goes_ Try.func53 (by kernel_rfl) rfl #[.agg #[.int .i64 a0_0, .string a0_1], .int .i64 a1, .int .i64 a2, .int .i64 a3] (by rfl) rfl rfl zM ?_
  with_reducible refine (spec_l3At.calls k a0_0 a0_1 a1 a2 a3 t303 _ A7.out).mono ?_
  rintro e w26 ⟨rfl, hb⟩
  refine ⟨_, rfl, ?_⟩
  have n0_ := Aside0.mk (blk_below (g := gb302) (o := .cells #[.int .i64 a0_0, .string a0_1] 26 (0, 0)) (zK BK302.out) hb)
  have n1_ := Aside0.mk (below_step (zG GE302.out) hb)
  clear BK302
  clear HB
  have BK302 := n0_
  have HB := n1_
  clear n0_ n1_
  (try clear hb)
  (try clear hb2)
  (try clear hk)
  (try clear hi)
  refine hK.out _ _ ⟨(blk_cell BK302.out 0).trans rfl, (blk_cell BK302.out 1).trans rfl⟩ (fun hHeld => ?_)
  clear hK K
  refine norm_ (a' := ?_) ?_ ?_
  rotate_left
  ·show Act.put _ (some 20) _ = _
   simp only [Act.put, List.setIfInBounds_toArray, List.set_cons_zero, List.set_cons_succ, i64_w, i32_w]
   rfl
  refine one_ (i := 9) (N := some 25) #[true, true, true, true, true, true, true, true, true, true, false, false] rfl rfl (one_of HT_.out (by kernel_rfl)) (by decide) (fun K hK => ?_)
  refine goes_ Try.func53 (by kernel_rfl) rfl #[.agg #[.int .i64 a0_0, .string a0_1], .int .i64 a1, .int .i64 a4, .int .i64 a5] (by rfl) rfl rfl zM ?_
  with_reducible refine (spec_l3At.calls k a0_0 a0_1 a1 a4 a5 t304 _ A8.out).mono ?_
  rintro e w27 ⟨rfl, hb⟩
  refine ⟨_, rfl, ?_⟩
  have n0_ := Aside0.mk (blk_below (g := gb302) (o := .cells #[.int .i64 a0_0, .string a0_1] 26 (0, 0)) (zK BK302.out) hb)
  have n1_ := Aside0.mk (below_step (zG GE302.out) hb)
  clear BK302
  clear HB
  have BK302 := n0_
  have HB := n1_
  clear n0_ n1_
  (try clear hb)
  (try clear hb2)
  (try clear hk)
  (try clear hi)
  refine hK.out _ _ ⟨(blk_cell BK302.out 0).trans rfl, (blk_cell BK302.out 1).trans rfl⟩ (fun hHeld => ?_)
  clear hK K
  refine norm_ (a' := ?_) ?_ ?_
  rotate_left
  ·show Act.put _ (some 25) _ = _
   simp only [Act.put, List.setIfInBounds_toArray, List.set_cons_zero, List.set_cons_succ, i64_w, i32_w]
   rfl
  refine pure_ (i := 10) (N := some 26) (v := ?_) (a' := ?_) #[true, true, true, true, true, true, true, true, true, true, true, false] rfl rfl (any_of HT_.out (by kernel_rfl)) (fun _ _ _ h => h) (Or.inl ⟨by rfl, ?_⟩) ?_ ?_
  rotate_left
  ·intro w'
   go_simp
   with_reducible rfl
  rotate_left
  ·simp only [Act.put, List.setIfInBounds_toArray, List.set_cons_zero, List.set_cons_succ, i64_w, i32_w]
   rfl
  refine pure_ (i := 11) (N := some 13) (v := ?_) (a' := ?_) #[true, true, true, true, true, true, true, true, true, true, true, true] rfl rfl (any_of HT_.out (by kernel_rfl)) (fun _ _ _ h => h) (Or.inl ⟨by rfl, ?_⟩) ?_ ?_
  rotate_left
  ·intro w'
   go_simp
   with_reducible rfl
  rotate_left
  ·simp only [Act.put, List.setIfInBounds_toArray, List.set_cons_zero, List.set_cons_succ, i64_w, i32_w]
   rfl
  refine done_ (done_of HT_.out (by kernel_rfl)) ?_
  try go_wp2
  have n0_ := Aside0.mk (blk_drew BK302.out)
  have n1_ := Aside0.mk (below_drew1 HB.out)
  clear BK302
  clear HB
  have BK302 := n0_
  have HB := n1_
  clear n0_ n1_
  refine start_ (n := 12) (S := fun w' => w'.cell? ⟨gb302, 0, none⟩ = some (.int .i64 a0_0) ∧ w'.cell? ⟨gb302, 1, none⟩ = some (.string a0_1)) (ds := []) #[false, false, false, false, false, false, false, false, false, false, false, false] (by kernel_rfl) rfl rfl ⟨(blk_cell BK302.out 0).trans rfl, (blk_cell BK302.out 1).trans rfl⟩ (fun hHeld => ?_); refine with_tabW spec_l4Breaks.tab2 spec_l4Breaks.bits2 (fun HT_ HW_ => ?_)
  generalize w27.drew = w28 at BK302 HB hHeld ⊢
  refine pure_ (i := 1) (N := some 28) (v := ?_) (a' := ?_) #[false, true, false, false, false, false, false, false, false, false, false, false] rfl rfl (any_of HT_.out (by kernel_rfl)) (fun _ _ _ h => h) (Or.inl ⟨by rfl, ?_⟩) ?_ ?_
  rotate_left
  ·intro w'
   go_simp
   with_reducible rfl
  rotate_left
  ·simp only [Act.put, List.setIfInBounds_toArray, List.set_cons_zero, List.set_cons_succ, i64_w, i32_w]
   rfl
  refine pure_ (i := 2) (N := some 29) (v := ?_) (a' := ?_) #[false, true, true, false, false, false, false, false, false, false, false, false] rfl rfl (any_of HT_.out (by kernel_rfl)) (fun _ _ _ h => h) (Or.inl ⟨by rfl, ?_⟩) ?_ ?_
  rotate_left
  ·intro w'
   go_simp
   with_reducible rfl
  rotate_left
  ·simp only [Act.put, List.setIfInBounds_toArray, List.set_cons_zero, List.set_cons_succ, i64_w, i32_w]
   rfl
  refine pure_ (i := 3) (N := some 30) (v := ?_) (a' := ?_) #[false, true, true, true, false, false, false, false, false, false, false, false] rfl rfl (any_of HT_.out (by kernel_rfl)) (fun _ _ _ h => h) (Or.inl ⟨by rfl, ?_⟩) ?_ ?_
  rotate_left
  ·intro w'
   go_simp
   with_reducible rfl
  rotate_left
  ·simp only [Act.put, List.setIfInBounds_toArray, List.set_cons_zero, List.set_cons_succ, i64_w, i32_w]
   rfl
  refine pure_ (i := 6) (N := some 33) (v := ?_) (a' := ?_) #[false, true, true, true, false, false, true, false, false, false, false, false] rfl rfl (any_of HT_.out (by kernel_rfl)) (fun _ _ _ h => h) (Or.inl ⟨by rfl, ?_⟩) ?_ ?_
  rotate_left
  ·intro w'
   go_simp
   with_reducible rfl
  rotate_left
  ·simp only [Act.put, List.setIfInBounds_toArray, List.set_cons_zero, List.set_cons_succ, i64_w, i32_w]
   rfl
  refine pure_ (i := 7) (N := some 34) (v := ?_) (a' := ?_) #[false, true, true, true, false, false, true, true, false, false, false, false] rfl rfl (any_of HT_.out (by kernel_rfl)) (fun _ _ _ h => h) (Or.inl ⟨by rfl, ?_⟩) ?_ ?_
  rotate_left
  ·intro w'
   go_simp
   with_reducible rfl
  rotate_left
  ·simp only [Act.put, List.setIfInBounds_toArray, List.set_cons_zero, List.set_cons_succ, i64_w, i32_w]
   rfl
  refine pure_ (i := 8) (N := some 35) (v := ?_) (a' := ?_) #[false, true, true, true, false, false, true, true, true, false, false, false] rfl rfl (any_of HT_.out (by kernel_rfl)) (fun _ _ _ h => h) (Or.inl ⟨by rfl, ?_⟩) ?_ ?_
  rotate_left
  ·intro w'
   go_simp
   with_reducible rfl
  rotate_left
  ·simp only [Act.put, List.setIfInBounds_toArray, List.set_cons_zero, List.set_cons_succ, i64_w, i32_w]
   rfl
  refine take_ (i := 0) (N := some 27) (v := ?_) (a' := ?_) #[true, true, true, true, false, false, true, true, true, false, false, false] rfl rfl (take_ofW HT_.out HW_.out (by kernel_rfl)) (fun _ _ _ h => h) (Or.inl ⟨by rfl, ?_⟩) hHeld ?_ ?_
  rotate_left
  ·rintro w' ⟨s0, s1⟩
   go_simp
   with_reducible rfl
  rotate_left
  ·simp only [Act.put, List.setIfInBounds_toArray, List.set_cons_zero, List.set_cons_succ, i64_w, i32_w]
   rfl
  refine take_ (i := 5) (N := some 32) (v := ?_) (a' := ?_) #[true, true, true, true, false, true, true, true, true, false, false, false] rfl rfl (take_ofW HT_.out HW_.out (by kernel_rfl)) (fun _ _ _ h => h) (Or.inl ⟨by rfl, ?_⟩) hHeld ?_ ?_
  rotate_left
  ·rintro w' ⟨s0, s1⟩
   go_simp
   with_reducible rfl
  rotate_left
  ·simp only [Act.put, List.setIfInBounds_toArray, List.set_cons_zero, List.set_cons_succ, i64_w, i32_w]
   rfl
  refine one_ (i := 4) (N := some 31) #[true, true, true, true, true, true, true, true, true, false, false, false] rfl rfl (one_of HT_.out (by kernel_rfl)) (by decide) (fun K hK => ?_)
  refine goes_ Try.func53 (by kernel_rfl) rfl #[.agg #[.int .i64 a0_0, .string a0_1], .int .i64 a1, .int .i64 a2, .int .i64 a5] (by rfl) rfl rfl zM ?_
  with_reducible refine (spec_l3At.calls k a0_0 a0_1 a1 a2 a5 t305 _ A9.out).mono ?_
  rintro e w29 ⟨rfl, hb⟩
  refine ⟨_, rfl, ?_⟩
  have n0_ := Aside0.mk (blk_below (g := gb302) (o := .cells #[.int .i64 a0_0, .string a0_1] 26 (0, 0)) (zK BK302.out) hb)
  have n1_ := Aside0.mk (below_step (zG GE302.out) hb)
  clear BK302
  clear HB
  have BK302 := n0_
  have HB := n1_
  clear n0_ n1_
  (try clear hb)
  (try clear hb2)
  (try clear hk)
  (try clear hi)
  refine hK.out _ _ ⟨(blk_cell BK302.out 0).trans rfl, (blk_cell BK302.out 1).trans rfl⟩ (fun hHeld => ?_)
  clear hK K
  refine norm_ (a' := ?_) ?_ ?_
  rotate_left
  ·show Act.put _ (some 31) _ = _
   simp only [Act.put, List.setIfInBounds_toArray, List.set_cons_zero, List.set_cons_succ, i64_w, i32_w]
   rfl
  refine one_ (i := 9) (N := some 36) #[true, true, true, true, true, true, true, true, true, true, false, false] rfl rfl (one_of HT_.out (by kernel_rfl)) (by decide) (fun K hK => ?_)
  refine goes_ Try.func53 (by kernel_rfl) rfl #[.agg #[.int .i64 a0_0, .string a0_1], .int .i64 a1, .int .i64 a3, .int .i64 a4] (by rfl) rfl rfl zM ?_
  with_reducible refine (spec_l3At.calls k a0_0 a0_1 a1 a3 a4 t306 _ A10.out).mono ?_
  rintro e w30 ⟨rfl, hb⟩
  refine ⟨_, rfl, ?_⟩
  have n0_ := Aside0.mk (blk_below (g := gb302) (o := .cells #[.int .i64 a0_0, .string a0_1] 26 (0, 0)) (zK BK302.out) hb)
  have n1_ := Aside0.mk (below_step (zG GE302.out) hb)
  clear BK302
  clear HB
  have BK302 := n0_
  have HB := n1_
  clear n0_ n1_
  (try clear hb)
  (try clear hb2)
  (try clear hk)
  (try clear hi)
  refine hK.out _ _ ⟨(blk_cell BK302.out 0).trans rfl, (blk_cell BK302.out 1).trans rfl⟩ (fun hHeld => ?_)
  clear hK K
  refine norm_ (a' := ?_) ?_ ?_
  rotate_left
  ·show Act.put _ (some 36) _ = _
   simp only [Act.put, List.setIfInBounds_toArray, List.set_cons_zero, List.set_cons_succ, i64_w, i32_w]
   rfl
  refine pure_ (i := 10) (N := some 37) (v := ?_) (a' := ?_) #[true, true, true, true, true, true, true, true, true, true, true, false] rfl rfl (any_of HT_.out (by kernel_rfl)) (fun _ _ _ h => h) (Or.inl ⟨by rfl, ?_⟩) ?_ ?_
  rotate_left
  ·intro w'
   go_simp
   with_reducible rfl
  rotate_left
  ·simp only [Act.put, List.setIfInBounds_toArray, List.set_cons_zero, List.set_cons_succ, i64_w, i32_w]
   rfl
  refine pure_ (i := 11) (N := some 14) (v := ?_) (a' := ?_) #[true, true, true, true, true, true, true, true, true, true, true, true] rfl rfl (any_of HT_.out (by kernel_rfl)) (fun _ _ _ h => h) (Or.inl ⟨by rfl, ?_⟩) ?_ ?_
  rotate_left
  ·intro w'
   go_simp
   with_reducible rfl
  rotate_left
  ·simp only [Act.put, List.setIfInBounds_toArray, List.set_cons_zero, List.set_cons_succ, i64_w, i32_w]
   rfl
  refine done_ (done_of HT_.out (by kernel_rfl)) ?_
  try go_wp2
  have n0_ := Aside0.mk (blk_drew BK302.out)
  have n1_ := Aside0.mk (below_drew1 HB.out)
  clear BK302
  clear HB
  have BK302 := n0_
  have HB := n1_
  clear n0_ n1_
  refine start_ (n := 13) (S := fun w' => w'.cell? ⟨gb302, 0, none⟩ = some (.int .i64 a0_0) ∧ w'.cell? ⟨gb302, 1, none⟩ = some (.string a0_1)) (ds := []) #[false, false, false, false, false, false, false, false, false, false, false, false, false] (by kernel_rfl) rfl rfl ⟨(blk_cell BK302.out 0).trans rfl, (blk_cell BK302.out 1).trans rfl⟩ (fun hHeld => ?_); refine with_tabW spec_l4Breaks.tab3 spec_l4Breaks.bits3 (fun HT_ HW_ => ?_)
  generalize w30.drew = w31 at BK302 HB hHeld ⊢
  refine pure_ (i := 1) (N := some 39) (v := ?_) (a' := ?_) #[false, true, false, false, false, false, false, false, false, false, false, false, false] rfl rfl (any_of HT_.out (by kernel_rfl)) (fun _ _ _ h => h) (Or.inl ⟨by rfl, ?_⟩) ?_ ?_
  rotate_left
  ·intro w'
   go_simp
   with_reducible rfl
  rotate_left
  ·simp only [Act.put, List.setIfInBounds_toArray, List.set_cons_zero, List.set_cons_succ, i64_w, i32_w]
   rfl
  refine pure_ (i := 2) (N := some 40) (v := ?_) (a' := ?_) #[false, true, true, false, false, false, false, false, false, false, false, false, false] rfl rfl (any_of HT_.out (by kernel_rfl)) (fun _ _ _ h => h) (Or.inl ⟨by rfl, ?_⟩) ?_ ?_
  rotate_left
  ·intro w'
   go_simp
   with_reducible rfl
  rotate_left
  ·simp only [Act.put, List.setIfInBounds_toArray, List.set_cons_zero, List.set_cons_succ, i64_w, i32_w]
   rfl
  refine pure_ (i := 3) (N := some 41) (v := ?_) (a' := ?_) #[false, true, true, true, false, false, false, false, false, false, false, false, false] rfl rfl (any_of HT_.out (by kernel_rfl)) (fun _ _ _ h => h) (Or.inl ⟨by rfl, ?_⟩) ?_ ?_
  rotate_left
  ·intro w'
   go_simp
   with_reducible rfl
  rotate_left
  ·simp only [Act.put, List.setIfInBounds_toArray, List.set_cons_zero, List.set_cons_succ, i64_w, i32_w]
   rfl
  refine pure_ (i := 7) (N := some 45) (v := ?_) (a' := ?_) #[false, true, true, true, false, false, false, true, false, false, false, false, false] rfl rfl (any_of HT_.out (by kernel_rfl)) (fun _ _ _ h => h) (Or.inl ⟨by rfl, ?_⟩) ?_ ?_
  rotate_left
  ·intro w'
   go_simp
   with_reducible rfl
  rotate_left
  ·simp only [Act.put, List.setIfInBounds_toArray, List.set_cons_zero, List.set_cons_succ, i64_w, i32_w]
   rfl
  refine pure_ (i := 8) (N := some 46) (v := ?_) (a' := ?_) #[false, true, true, true, false, false, false, true, true, false, false, false, false] rfl rfl (any_of HT_.out (by kernel_rfl)) (fun _ _ _ h => h) (Or.inl ⟨by rfl, ?_⟩) ?_ ?_
  rotate_left
  ·intro w'
   go_simp
   with_reducible rfl
  rotate_left
  ·simp only [Act.put, List.setIfInBounds_toArray, List.set_cons_zero, List.set_cons_succ, i64_w, i32_w]
   rfl
  refine pure_ (i := 9) (N := some 47) (v := ?_) (a' := ?_) #[false, true, true, true, false, false, false, true, true, true, false, false, false] rfl rfl (any_of HT_.out (by kernel_rfl)) (fun _ _ _ h => h) (Or.inl ⟨by rfl, ?_⟩) ?_ ?_
  rotate_left
  ·intro w'
   go_simp
   with_reducible rfl
  rotate_left
  ·simp only [Act.put, List.setIfInBounds_toArray, List.set_cons_zero, List.set_cons_succ, i64_w, i32_w]
   rfl
  refine take_ (i := 0) (N := some 38) (v := ?_) (a' := ?_) #[true, true, true, true, false, false, false, true, true, true, false, false, false] rfl rfl (take_ofW HT_.out HW_.out (by kernel_rfl)) (fun _ _ _ h => h) (Or.inl ⟨by rfl, ?_⟩) hHeld ?_ ?_
  rotate_left
  ·rintro w' ⟨s0, s1⟩
   go_simp
   with_reducible rfl
  rotate_left
  ·simp only [Act.put, List.setIfInBounds_toArray, List.set_cons_zero, List.set_cons_succ, i64_w, i32_w]
   rfl
  refine take_ (i := 6) (N := some 44) (v := ?_) (a' := ?_) #[true, true, true, true, false, false, true, true, true, true, false, false, false] rfl rfl (take_ofW HT_.out HW_.out (by kernel_rfl)) (fun _ _ _ h => h) (Or.inl ⟨by rfl, ?_⟩) hHeld ?_ ?_
  rotate_left
  ·rintro w' ⟨s0, s1⟩
   go_simp
   with_reducible rfl
  rotate_left
  ·simp only [Act.put, List.setIfInBounds_toArray, List.set_cons_zero, List.set_cons_succ, i64_w, i32_w]
   rfl
  refine one_ (i := 4) (N := some 42) #[true, true, true, true, true, false, true, true, true, true, false, false, false] rfl rfl (one_of HT_.out (by kernel_rfl)) (by decide) (fun K hK => ?_)
  refine goes_ Try.func53 (by kernel_rfl) rfl #[.agg #[.int .i64 a0_0, .string a0_1], .int .i64 a1, .int .i64 a2, .int .i64 a4] (by rfl) rfl rfl zM ?_
  with_reducible refine (spec_l3At.calls k a0_0 a0_1 a1 a2 a4 t307 _ A11.out).mono ?_
  rintro e w32 ⟨rfl, hb⟩
  refine ⟨_, rfl, ?_⟩
  have n0_ := Aside0.mk (blk_below (g := gb302) (o := .cells #[.int .i64 a0_0, .string a0_1] 26 (0, 0)) (zK BK302.out) hb)
  have n1_ := Aside0.mk (below_step (zG GE302.out) hb)
  clear BK302
  clear HB
  have BK302 := n0_
  have HB := n1_
  clear n0_ n1_
  (try clear hb)
  (try clear hb2)
  (try clear hk)
  (try clear hi)
  refine hK.out _ _ ⟨(blk_cell BK302.out 0).trans rfl, (blk_cell BK302.out 1).trans rfl⟩ (fun hHeld => ?_)
  clear hK K
  refine norm_ (a' := ?_) ?_ ?_
  rotate_left
  ·show Act.put _ (some 42) _ = _
   simp only [Act.put, List.setIfInBounds_toArray, List.set_cons_zero, List.set_cons_succ, i64_w, i32_w]
   rfl
  refine pure_ (i := 5) (N := some 43) (v := ?_) (a' := ?_) #[true, true, true, true, true, true, true, true, true, true, false, false, false] rfl rfl (any_of HT_.out (by kernel_rfl)) (fun _ _ _ h => h) (Or.inl ⟨by rfl, ?_⟩) ?_ ?_
  rotate_left
  ·intro w'
   go_simp
   with_reducible rfl
  rotate_left
  ·simp only [Act.put, List.setIfInBounds_toArray, List.set_cons_zero, List.set_cons_succ, i64_w, i32_w]
   rfl
  refine one_ (i := 10) (N := some 48) #[true, true, true, true, true, true, true, true, true, true, true, false, false] rfl rfl (one_of HT_.out (by kernel_rfl)) (by decide) (fun K hK => ?_)
  refine goes_ Try.func53 (by kernel_rfl) rfl #[.agg #[.int .i64 a0_0, .string a0_1], .int .i64 a1, .int .i64 a3, .int .i64 a5] (by rfl) rfl rfl zM ?_
  with_reducible refine (spec_l3At.calls k a0_0 a0_1 a1 a3 a5 t308 _ A12.out).mono ?_
  rintro e w33 ⟨rfl, hb⟩
  refine ⟨_, rfl, ?_⟩
  have n0_ := Aside0.mk (blk_below (g := gb302) (o := .cells #[.int .i64 a0_0, .string a0_1] 26 (0, 0)) (zK BK302.out) hb)
  have n1_ := Aside0.mk (below_step (zG GE302.out) hb)
  clear BK302
  clear HB
  have BK302 := n0_
  have HB := n1_
  clear n0_ n1_
  (try clear hb)
  (try clear hb2)
  (try clear hk)
  (try clear hi)
  refine hK.out _ _ ⟨(blk_cell BK302.out 0).trans rfl, (blk_cell BK302.out 1).trans rfl⟩ (fun hHeld => ?_)
  clear hK K
  refine norm_ (a' := ?_) ?_ ?_
  rotate_left
  ·show Act.put _ (some 48) _ = _
   simp only [Act.put, List.setIfInBounds_toArray, List.set_cons_zero, List.set_cons_succ, i64_w, i32_w]
   rfl
  refine pure_ (i := 11) (N := some 49) (v := ?_) (a' := ?_) #[true, true, true, true, true, true, true, true, true, true, true, true, false] rfl rfl (any_of HT_.out (by kernel_rfl)) (fun _ _ _ h => h) (Or.inl ⟨by rfl, ?_⟩) ?_ ?_
  rotate_left
  ·intro w'
   go_simp
   with_reducible rfl
  rotate_left
  ·simp only [Act.put, List.setIfInBounds_toArray, List.set_cons_zero, List.set_cons_succ, i64_w, i32_w]
   rfl
  refine pure_ (i := 12) (N := some 15) (v := ?_) (a' := ?_) #[true, true, true, true, true, true, true, true, true, true, true, true, true] rfl rfl (any_of HT_.out (by kernel_rfl)) (fun _ _ _ h => h) (Or.inl ⟨by rfl, ?_⟩) ?_ ?_
  rotate_left
  ·intro w'
   go_simp
   with_reducible rfl
  rotate_left
  ·simp only [Act.put, List.setIfInBounds_toArray, List.set_cons_zero, List.set_cons_succ, i64_w, i32_w]
   rfl
  refine done_ (done_of HT_.out (by kernel_rfl)) ?_
  try go_wp2
  go_ret
  exact ⟨zE, zG GE302.out⟩
end Go.Proofs.Ytggbekkinkggfaa.PX
