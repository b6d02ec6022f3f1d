/- A part of proofs about signs and points: what some functions answer, and that their calls answer so. No condition. -/
import Derived.Test.YtgnghhelalablaaProg
import Derived.Test.YtgnghhelalablaaV1
import Derived.Test.YtgnghhelalablaaBpblxux1
import Derived.Test.YtgnghhelalablaaBpblxux2
import Derived.Test.YtgnghhelalablaaBpblxux3
import Derived.Test.YtgnghhelalablaaBpblxux4
set_option linter.unusedVariables false
set_option linter.unusedSimpArgs false
namespace Go.Proofs.Ytgnghhelalablaa.PX
open Go.RowKit Go.Proofs.Ytgnghhelalablaa.G Go.Proofs.YtgnghhelalablaaW.PrintWords Go.Proofs.YtgnghhelalablaaW.PrintLast Go.Proofs.YtgnghhelalablaaW.PrintMore
attribute [local go_sem] max2_int min2_int max_two min_two max_three min_three max_four min_four   -- for this text's walks alone
set_option linter.unusedVariables false
set_option linter.unusedSimpArgs false
/-! ### spec_l5Inside: function 60 -/
def spec_l5Inside.l0 : Nat → Int → Int → Int → Int → Int → Int → ByteArray → Option (Int)
 | 0, _, _, _, _, _, _, _ => none
 | k + 1, x1, x2, x3, x9, x10, x429000, x429001 => if x10 < x429000 then (if x10 = x1 then (spec_l5Inside.l0 k x1 x2 x3 x9 (wrap64 (x10 + 1)) x429000 x429001) else (if x10 = x2 then (spec_l5Inside.l0 k x1 x2 x3 x9 (wrap64 (x10 + 1)) x429000 x429001) else (if x10 = x3 then (spec_l5Inside.l0 k x1 x2 x3 x9 (wrap64 (x10 + 1)) x429000 x429001) else ((spec_l5Inner.f k x429000 x429001 (([x10, x1, x2, x3] : List Int))).bind fun t432 => (if t432 = x10 then (spec_l5Inside.l0 k x1 x2 x3 (wrap64 (x9 + 1)) (wrap64 (x10 + 1)) x429000 x429001) else (spec_l5Inside.l0 k x1 x2 x3 x9 (wrap64 (x10 + 1)) x429000 x429001)))))) else (some x9)
def spec_l5Inside.f (k : Nat) (a0_0 : Int) (a0_1 : ByteArray) (a1 : Int) (a2 : Int) (a3 : Int) : Option (Int) := spec_l5Inside.l0 k a1 a2 a3 0 0 a0_0 a0_1
theorem spec_l5Inside.mono_l : ∀ k, (∀ y0 y1 y2 y3 y4 y5 y6, LeO (spec_l5Inside.l0 k y0 y1 y2 y3 y4 y5 y6) (spec_l5Inside.l0 (k + 1) y0 y1 y2 y3 y4 y5 y6))
 | 0 => fun _ _ _ _ _ _ _ r h => by simp [spec_l5Inside.l0] at h
 | k + 1 => by
  have ih0 := spec_l5Inside.mono_l k
  ·intro y0 y1 y2 y3 y4 y5 y6
   unfold spec_l5Inside.l0
   repeat' first
   | (with_reducible exact ih0 _ _ _ _ _ _ _)
   | (with_reducible exact spec_l5Inner.mono _ _ _ _)
   | (with_reducible exact LeO.refl _)
   | (with_reducible exact LeO.none _)
   | (with_reducible refine LeO.ite ?_ ?_)
   | (with_reducible refine LeO.bind ?_ (fun _ => ?_))
   | exact ih0 _ _ _ _ _ _ _
   | exact spec_l5Inner.mono _ _ _ _
   | exact LeO.none _
   | refine LeO.ite ?_ ?_
   | refine LeO.bind ?_ (fun _ => ?_)
theorem spec_l5Inside.mono : ∀ a0 a1 a2 a3 a4 k, LeO (spec_l5Inside.f k a0 a1 a2 a3 a4) (spec_l5Inside.f (k + 1) a0 a1 a2 a3 a4) := by
 intro a0 a1 a2 a3 a4 k
 have ih0 := spec_l5Inside.mono_l k
 unfold spec_l5Inside.f
 repeat' first
   | (with_reducible exact ih0 _ _ _ _ _ _ _)
   | (with_reducible exact spec_l5Inner.mono _ _ _ _)
   | (with_reducible exact LeO.refl _)
   | (with_reducible exact LeO.none _)
   | (with_reducible refine LeO.ite ?_ ?_)
   | (with_reducible refine LeO.bind ?_ (fun _ => ?_))
   | exact ih0 _ _ _ _ _ _ _
   | exact spec_l5Inner.mono _ _ _ _
   | exact LeO.none _
   | refine LeO.ite ?_ ?_
   | refine LeO.bind ?_ (fun _ => ?_)
set_option maxHeartbeats 8000000 in
set_option maxRecDepth 100000 in
theorem spec_l5Inside.calls (k : Nat) (a0_0 : Int) (a0_1 : ByteArray) (a1 : Int) (a2 : Int) (a3 : Int) (r : Int) (w : World) (h : spec_l5Inside.f k a0_0 a0_1 a1 a2 a3 = some r) :
  Calls Try.prog 60 #[.agg #[.int .i64 a0_0, .string a0_1], .int .i64 a1, .int .i64 a2, .int .i64 a3] w fun e w' => e = .returned (.int .i64 r) ∧ Below w.heap.size w w' := by
 have hu27 := Try.underlying27
 have HB := Aside0.mk (Below.refl w.heap.size w)
 have H : (spec_l5Inside.l0 k a1 a2 a3 0 0 a0_0 a0_1) = some r := h
 clear h
 have H' := Aside0.mk H
 clear H
 go_enter Try.func60, Try.ntmps60
 go_wp2_with (first | ((with_reducible refine gate_dst (N := 4) rfl ?_); (try (refine gate_guard (by rfl) ?_; dsimp only)); refine box_event ?hg (N := 4) ?hd (cs := #[.int .i64 a0_0, .string a0_1]) (t := 27) ?hr ?_; (case hd => rfl); (case hg => rfl); (case hr => first | (go_simp; done) | (go_simp; rfl)); intro gb428 hg w5 hbox hb; have n0_ := Aside0.mk (below_step zB hb); have n1_ := Aside0.mk (hbox); have n2_ := Aside0.mk ((by rw [hg]; exact (below_size zB) : w.heap.size ≤ gb428)); have n3_ := Aside0.mk ((by rw [hg]; exact (below_size zB) : w.heap.size ≤ gb428)); clear HB; have HB := n0_; have BK428 := n1_; have GW428 := n2_; have GE428 := n3_; clear n0_ n1_ n2_ n3_; clear hb hbox hg))
 go_loopg [9, 10] k (fun kq v9 v10 w' => ∃ (x9_1 : Int) (x10_1 : Int), v9 = .int .i64 x9_1 ∧ v10 = .int .i64 x10_1 ∧ Aside0 (spec_l5Inside.l0 kq a1 a2 a3 x9_1 x10_1 a0_0 a0_1 = some r) ∧ Aside0 (kq ≤ k) ∧ Aside0 (w'.heap[gb428]? = some (.cells #[.int .i64 a0_0, .string a0_1] 27 (0, 0))) ∧ Aside0 (Below w.heap.size w w'))
 case atStart => exact ⟨(0), (0), zF, zF, H', ⟨Nat.le_refl _⟩, ⟨zK BK428.out⟩, ⟨zG GE428.out⟩⟩
 case round =>
  clear H'
  try clear p2
  obtain ⟨x9_1, x10_1, rfl, rfl, HA, HK1, BK428, HB⟩ := hrel
  cases gk with
  | zero => exact absurd HA.out (by simp [spec_l5Inside.l0])
  | succ k1 =>
   have H := HA.out
   clear HA
   simp only [spec_l5Inside.l0] at H
   by_cases c6 : x10_1 < a0_0
   ·rw [if_pos c6] at H
    have c6b0 : decide (x10_1 < a0_0) = true := decide_eq_true c6
    clear c6
    by_cases c7 : x10_1 = a1
    ·rw [if_pos c7] at H
     have c7b0 : (x10_1 == a1) = true := beq_iff_eq.mpr c7
     have c7b1 : (x10_1 != a1) = false := bne_eq_false_iff_eq.mpr c7
     clear c7
     have H' := Aside0.mk H
     clear H
     have hcz8_0 : wr.cell? ⟨gb428, 0, none⟩ = some (.int .i64 a0_0) := (blk_cell BK428.out 0).trans rfl
     have hcz8_1 : wr.cell? ⟨gb428, 1, none⟩ = some (.string a0_1) := (blk_cell BK428.out 1).trans rfl
     have hfz8_0 := blk_frozen BK428.out 0
     have hfz8_1 := blk_frozen BK428.out 1
     go_wp2
     go_roundg k1
     case measure => have := HK1.out; omega
     case rel => exact ⟨(x9_1), (wrap64 (x10_1 + 1)), zF, zF, H', ⟨by have := HK1.out; omega⟩, ⟨zK BK428.out⟩, ⟨zG GE428.out⟩⟩
    ·rw [if_neg c7] at H
     have c7b0 : (x10_1 == a1) = false := beq_eq_false_iff_ne.mpr c7
     have c7b1 : (x10_1 != a1) = true := bne_iff_ne.mpr c7
     by_cases c9 : x10_1 = a2
     ·rw [if_pos c9] at H
      have c9b0 : (x10_1 == a2) = true := beq_iff_eq.mpr c9
      have c9b1 : (x10_1 != a2) = false := bne_eq_false_iff_eq.mpr c9
      clear c9
      have H' := Aside0.mk H
      clear H
      have hcz10_0 : wr.cell? ⟨gb428, 0, none⟩ = some (.int .i64 a0_0) := (blk_cell BK428.out 0).trans rfl
      have hcz10_1 : wr.cell? ⟨gb428, 1, none⟩ = some (.string a0_1) := (blk_cell BK428.out 1).trans rfl
      have hfz10_0 := blk_frozen BK428.out 0
      have hfz10_1 := blk_frozen BK428.out 1
      go_wp2
      go_roundg k1
      case measure => have := HK1.out; omega
      case rel => exact ⟨(x9_1), (wrap64 (x10_1 + 1)), zF, zF, H', ⟨by have := HK1.out; omega⟩, ⟨zK BK428.out⟩, ⟨zG GE428.out⟩⟩
     ·rw [if_neg c9] at H
      have c9b0 : (x10_1 == a2) = false := beq_eq_false_iff_ne.mpr c9
      have c9b1 : (x10_1 != a2) = true := bne_iff_ne.mpr c9
      by_cases c11 : x10_1 = a3
      ·rw [if_pos c11] at H
       have c11b0 : (x10_1 == a3) = true := beq_iff_eq.mpr c11
       have c11b1 : (x10_1 != a3) = false := bne_eq_false_iff_eq.mpr c11
       clear c11
       have H' := Aside0.mk H
       clear H
       have hcz12_0 : wr.cell? ⟨gb428, 0, none⟩ = some (.int .i64 a0_0) := (blk_cell BK428.out 0).trans rfl
       have hcz12_1 : wr.cell? ⟨gb428, 1, none⟩ = some (.string a0_1) := (blk_cell BK428.out 1).trans rfl
       have hfz12_0 := blk_frozen BK428.out 0
       have hfz12_1 := blk_frozen BK428.out 1
       go_wp2
       go_roundg k1
       case measure => have := HK1.out; omega
       case rel => exact ⟨(x9_1), (wrap64 (x10_1 + 1)), zF, zF, H', ⟨by have := HK1.out; omega⟩, ⟨zK BK428.out⟩, ⟨zG GE428.out⟩⟩
      ·rw [if_neg c11] at H
       have c11b0 : (x10_1 == a3) = false := beq_eq_false_iff_ne.mpr c11
       have c11b1 : (x10_1 != a3) = true := bne_iff_ne.mpr c11
       obtain ⟨y429, hy429⟩ : ∃ y_ : List Int, y_ = (([x10_1, a1, a2, a3] : List Int)) := ⟨_, rfl⟩
       replace H : ((spec_l5Inner.f k1 a0_0 a0_1 y429).bind fun t432 => (if t432 = x10_1 then (spec_l5Inside.l0 k1 a1 a2 a3 (wrap64 (x9_1 + 1)) (wrap64 (x10_1 + 1)) a0_0 a0_1) else (spec_l5Inside.l0 k1 a1 a2 a3 x9_1 (wrap64 (x10_1 + 1)) a0_0 a0_1))) = some r := by first | (rw [hy429]; with_reducible exact H) | (have H2_ := (Option.bind_some _ _).symm.trans H; rw [hy429]; with_reducible exact H2_) | (have H2_ := (Option.bind_some _ _).symm.trans H; with_reducible exact H2_) | with_reducible exact H | (rw [hy429]; exact H) | exact H
       have Ny429 := Aside0.mk hy429
       clear hy429
       replace H := Option.bind_eq_some_iff.mp H
       obtain ⟨t432, A130, H⟩ := H
       replace H : (if t432 = x10_1 then (spec_l5Inside.l0 k1 a1 a2 a3 (wrap64 (x9_1 + 1)) (wrap64 (x10_1 + 1)) a0_0 a0_1) else (spec_l5Inside.l0 k1 a1 a2 a3 x9_1 (wrap64 (x10_1 + 1)) a0_0 a0_1)) = some r := H
       have A13 := Aside0.mk A130
       clear A130
       by_cases c14 : t432 = x10_1
       ·rw [if_pos c14] at H
        have c14b0 : (t432 == x10_1) = true := beq_iff_eq.mpr c14
        have c14b1 : (t432 != x10_1) = false := bne_eq_false_iff_eq.mpr c14
        clear c14
        have H' := Aside0.mk H
        clear H
        have hcz15_0 : wr.cell? ⟨gb428, 0, none⟩ = some (.int .i64 a0_0) := (blk_cell BK428.out 0).trans rfl
        have hcz15_1 : wr.cell? ⟨gb428, 1, none⟩ = some (.string a0_1) := (blk_cell BK428.out 1).trans rfl
        have hfz15_0 := blk_frozen BK428.out 0
        have hfz15_1 := blk_frozen BK428.out 1
        go_wp2_with (first | ((with_reducible refine gate_dst (N := 36) rfl ?_); (try (refine gate_guard (by rfl) ?_; dsimp only)); refine Kd.R_lit (Kd.int .i64) _ 3 ?hg (N := 36) ?hd (xs := ([x10_1, a1, a2, a3] : List Int)) (inner := [.int .i64 x10_1, .int .i64 a1, .int .i64 a2, .int .i64 a3]) (ok := fun _ => True) (okp := fun _ => True) ?hr ?hp (fun _ hk => hk) trivial (Below.refl _ _) (Nat.le_refl _) (by simp) ?_; (case hd => rfl); (case hg => rfl); (case hr => first | (go_simp; done) | (go_simp; rfl)); (case hp => exact (Reps.one (show Kd.M (Kd.int .i64) _ _ _ x10_1 [.int .i64 x10_1] from rfl) (Reps.one (show Kd.M (Kd.int .i64) _ _ _ a1 [.int .i64 a1] from rfl) (Reps.one (show Kd.M (Kd.int .i64) _ _ _ a2 [.int .i64 a2] from rfl) (Reps.one (show Kd.M (Kd.int .i64) _ _ _ a3 [.int .i64 a3] from rfl) (Reps.none _ _)))))); intro v430 w16 ho17 hb hg_ hnew_; clear hg_ hnew_; (first | rw [← Ny429.out] at ho17 | (simp only [Int.reduceToNat] at ho17; rw [← Ny429.out] at ho17)); have n0_ := Aside0.mk (Kd.R_lower ho17 (below_size (zG GE428.out))); have n1_ := Aside0.mk (blk_below (g := gb428) (o := .cells #[.int .i64 a0_0, .string a0_1] 27 (0, 0)) (zK BK428.out) hb); have n2_ := Aside0.mk (below_step (zG GE428.out) hb); clear BK428; clear HB; have HO431 := n0_; have BK428 := n1_; have HB := n2_; clear n0_ n1_ n2_; clear hb ho17; obtain ⟨Ao18, co18, eo18⟩ := Kd.R_slice HO431.out; subst eo18) | (go_at_call 54; (with_reducible refine (spec_l5Inner.calls k1 a0_0 a0_1 _ _ y429 t432 _ ?side1 ?side2 A13.out).mono ?_); (case side1 => repeat (first | exact (Kd.R_reads' HO431.out).2.2 | (with_reducible refine Kd.C_alloc ?_ _) | (with_reducible refine Kd.C_drewN ?_ _) | (with_reducible refine Kd.C_drew ?_))); (case side2 => exact (Kd.R_reads' HO431.out).2.1); rintro e w19 ⟨rfl, hb⟩; have n0_ := Aside0.mk (Kd.R_below (zR HO431.out) hb); have n1_ := Aside0.mk (blk_below (g := gb428) (o := .cells #[.int .i64 a0_0, .string a0_1] 27 (0, 0)) (zK BK428.out) hb); have n2_ := Aside0.mk (below_step (zG GE428.out) hb); clear HO431; clear BK428; clear HB; have HO431 := n0_; have BK428 := n1_; have HB := n2_; clear n0_ n1_ n2_; (try clear hb); (try clear hb2); (try clear hk); (try clear hi)))
        go_roundg k1
        case measure => have := HK1.out; omega
        case rel => exact ⟨(wrap64 (x9_1 + 1)), (wrap64 (x10_1 + 1)), zF, zF, H', ⟨by have := HK1.out; omega⟩, ⟨zK BK428.out⟩, ⟨zG GE428.out⟩⟩
       ·rw [if_neg c14] at H
        have c14b0 : (t432 == x10_1) = false := beq_eq_false_iff_ne.mpr c14
        have c14b1 : (t432 != x10_1) = true := bne_iff_ne.mpr c14
        have H' := Aside0.mk H
        clear H
        have hcz20_0 : wr.cell? ⟨gb428, 0, none⟩ = some (.int .i64 a0_0) := (blk_cell BK428.out 0).trans rfl
        have hcz20_1 : wr.cell? ⟨gb428, 1, none⟩ = some (.string a0_1) := (blk_cell BK428.out 1).trans rfl
        have hfz20_0 := blk_frozen BK428.out 0
        have hfz20_1 := blk_frozen BK428.out 1
        go_wp2_with (first | ((with_reducible refine gate_dst (N := 36) rfl ?_); (try (refine gate_guard (by rfl) ?_; dsimp only)); refine Kd.R_lit (Kd.int .i64) _ 3 ?hg (N := 36) ?hd (xs := ([x10_1, a1, a2, a3] : List Int)) (inner := [.int .i64 x10_1, .int .i64 a1, .int .i64 a2, .int .i64 a3]) (ok := fun _ => True) (okp := fun _ => True) ?hr ?hp (fun _ hk => hk) trivial (Below.refl _ _) (Nat.le_refl _) (by simp) ?_; (case hd => rfl); (case hg => rfl); (case hr => first | (go_simp; done) | (go_simp; rfl)); (case hp => exact (Reps.one (show Kd.M (Kd.int .i64) _ _ _ x10_1 [.int .i64 x10_1] from rfl) (Reps.one (show Kd.M (Kd.int .i64) _ _ _ a1 [.int .i64 a1] from rfl) (Reps.one (show Kd.M (Kd.int .i64) _ _ _ a2 [.int .i64 a2] from rfl) (Reps.one (show Kd.M (Kd.int .i64) _ _ _ a3 [.int .i64 a3] from rfl) (Reps.none _ _)))))); intro v430 w21 ho22 hb hg_ hnew_; clear hg_ hnew_; (first | rw [← Ny429.out] at ho22 | (simp only [Int.reduceToNat] at ho22; rw [← Ny429.out] at ho22)); have n0_ := Aside0.mk (Kd.R_lower ho22 (below_size (zG GE428.out))); have n1_ := Aside0.mk (blk_below (g := gb428) (o := .cells #[.int .i64 a0_0, .string a0_1] 27 (0, 0)) (zK BK428.out) hb); have n2_ := Aside0.mk (below_step (zG GE428.out) hb); clear BK428; clear HB; have HO431 := n0_; have BK428 := n1_; have HB := n2_; clear n0_ n1_ n2_; clear hb ho22; obtain ⟨Ao23, co23, eo23⟩ := Kd.R_slice HO431.out; subst eo23) | (go_at_call 54; (with_reducible refine (spec_l5Inner.calls k1 a0_0 a0_1 _ _ y429 t432 _ ?side1 ?side2 A13.out).mono ?_); (case side1 => repeat (first | exact (Kd.R_reads' HO431.out).2.2 | (with_reducible refine Kd.C_alloc ?_ _) | (with_reducible refine Kd.C_drewN ?_ _) | (with_reducible refine Kd.C_drew ?_))); (case side2 => exact (Kd.R_reads' HO431.out).2.1); rintro e w24 ⟨rfl, hb⟩; have n0_ := Aside0.mk (Kd.R_below (zR HO431.out) hb); have n1_ := Aside0.mk (blk_below (g := gb428) (o := .cells #[.int .i64 a0_0, .string a0_1] 27 (0, 0)) (zK BK428.out) hb); have n2_ := Aside0.mk (below_step (zG GE428.out) hb); clear HO431; clear BK428; clear HB; have HO431 := n0_; have BK428 := n1_; have HB := n2_; clear n0_ n1_ n2_; (try clear hb); (try clear hb2); (try clear hk); (try clear hi)))
        go_roundg k1
        case measure => have := HK1.out; omega
        case rel => exact ⟨(x9_1), (wrap64 (x10_1 + 1)), zF, zF, H', ⟨by have := HK1.out; omega⟩, ⟨zK BK428.out⟩, ⟨zG GE428.out⟩⟩
   ·rw [if_neg c6] at H
    have c6b0 : decide (x10_1 < a0_0) = false := decide_eq_false c6
    clear c6
    obtain rfl := Option.some.inj H
    have hcz25_0 : wr.cell? ⟨gb428, 0, none⟩ = some (.int .i64 a0_0) := (blk_cell BK428.out 0).trans rfl
    have hcz25_1 : wr.cell? ⟨gb428, 1, none⟩ = some (.string a0_1) := (blk_cell BK428.out 1).trans rfl
    have hfz25_0 := blk_frozen BK428.out 0
    have hfz25_1 := blk_frozen BK428.out 1
    go_wp2
    go_ret
    exact ⟨zE, zG GE428.out⟩
/-! ### spec_CountInside: function 30 -/
def spec_CountInside.f (k : Nat) (a0_0 : Int) (a0_1 : ByteArray) (a1 : Int) (a2 : Int) (a3 : Int) : Option (Int) := (spec_IsAcyclic.f k a0_0 a0_1).bind fun t434 => (if t434 = true then ((spec_l5Different.f k a0_0 (([a1, a2, a3] : List Int))).bind fun t438 => (if t438 = true then ((spec_l5Inside.f k a0_0 a0_1 a1 a2 a3).bind fun t439 => (some t439)) else (some (-1)))) else (some (-1)))
theorem spec_CountInside.mono : ∀ a0 a1 a2 a3 a4 k, LeO (spec_CountInside.f k a0 a1 a2 a3 a4) (spec_CountInside.f (k + 1) a0 a1 a2 a3 a4) := by
 intro a0 a1 a2 a3 a4 k
 unfold spec_CountInside.f
 repeat' first
   | (with_reducible exact spec_IsAcyclic.mono _ _ _)
   | (with_reducible exact spec_l5Different.mono _ _ _)
   | (with_reducible exact spec_l5Inside.mono _ _ _ _ _ _)
   | (with_reducible exact LeO.refl _)
   | (with_reducible exact LeO.none _)
   | (with_reducible refine LeO.ite ?_ ?_)
   | (with_reducible refine LeO.bind ?_ (fun _ => ?_))
   | exact spec_IsAcyclic.mono _ _ _
   | exact spec_l5Different.mono _ _ _
   | exact spec_l5Inside.mono _ _ _ _ _ _
   | exact LeO.none _
   | refine LeO.ite ?_ ?_
   | refine LeO.bind ?_ (fun _ => ?_)
set_option maxHeartbeats 8000000 in
set_option maxRecDepth 100000 in
theorem spec_CountInside.calls (k : Nat) (a0_0 : Int) (a0_1 : ByteArray) (a1 : Int) (a2 : Int) (a3 : Int) (r : Int) (w : World) (h : spec_CountInside.f k a0_0 a0_1 a1 a2 a3 = some r) :
  Calls Try.prog 30 #[.agg #[.int .i64 a0_0, .string a0_1], .int .i64 a1, .int .i64 a2, .int .i64 a3] w fun e w' => e = .returned (.int .i64 r) ∧ Below w.heap.size w w' := by
 have hu27 := Try.underlying27
 have HB := Aside0.mk (Below.refl w.heap.size w)
 have H : ((spec_IsAcyclic.f k a0_0 a0_1).bind fun t434 => (if t434 = true then ((spec_l5Different.f k a0_0 (([a1, a2, a3] : List Int))).bind fun t438 => (if t438 = true then ((spec_l5Inside.f k a0_0 a0_1 a1 a2 a3).bind fun t439 => (some t439)) else (some (-1)))) else (some (-1)))) = some r := h
 clear h
 replace H := Option.bind_eq_some_iff.mp H
 obtain ⟨t434, A50, H⟩ := H
 replace H : (if t434 = true then ((spec_l5Different.f k a0_0 (([a1, a2, a3] : List Int))).bind fun t438 => (if t438 = true then ((spec_l5Inside.f k a0_0 a0_1 a1 a2 a3).bind fun t439 => (some t439)) else (some (-1)))) else (some (-1))) = some r := H
 have A5 := Aside0.mk A50
 clear A50
 by_cases c6 : t434 = true
 ·subst c6
  have H1 : ((spec_l5Different.f k a0_0 (([a1, a2, a3] : List Int))).bind fun t438 => (if t438 = true then ((spec_l5Inside.f k a0_0 a0_1 a1 a2 a3).bind fun t439 => (some t439)) else (some (-1)))) = some r := by rw [if_pos rfl] at H; exact H
  clear H
  have H := H1
  clear H1
  obtain ⟨y435, hy435⟩ : ∃ y_ : List Int, y_ = (([a1, a2, a3] : List Int)) := ⟨_, rfl⟩
  replace H : ((spec_l5Different.f k a0_0 y435).bind fun t438 => (if t438 = true then ((spec_l5Inside.f k a0_0 a0_1 a1 a2 a3).bind fun t439 => (some t439)) else (some (-1)))) = some r := by first | (rw [hy435]; with_reducible exact H) | (have H2_ := (Option.bind_some _ _).symm.trans H; rw [hy435]; with_reducible exact H2_) | (have H2_ := (Option.bind_some _ _).symm.trans H; with_reducible exact H2_) | with_reducible exact H | (rw [hy435]; exact H) | exact H
  have Ny435 := Aside0.mk hy435
  clear hy435
  replace H := Option.bind_eq_some_iff.mp H
  obtain ⟨t438, A70, H⟩ := H
  replace H : (if t438 = true then ((spec_l5Inside.f k a0_0 a0_1 a1 a2 a3).bind fun t439 => (some t439)) else (some (-1))) = some r := H
  have A7 := Aside0.mk A70
  clear A70
  by_cases c8 : t438 = true
  ·subst c8
   have H1 : ((spec_l5Inside.f k a0_0 a0_1 a1 a2 a3).bind fun t439 => (some t439)) = some r := by rw [if_pos rfl] at H; exact H
   clear H
   have H := H1
   clear H1
   replace H := Option.bind_eq_some_iff.mp H
   obtain ⟨t439, A90, H⟩ := H
   replace H : (some t439) = some r := H
   have A9 := Aside0.mk A90
   clear A90
   obtain rfl := Option.some.inj H
   go_enter Try.func30, Try.ntmps30
   go_wp2_with (first | ((with_reducible refine gate_dst (N := 4) rfl ?_); (try (refine gate_guard (by rfl) ?_; dsimp only)); refine box_event ?hg (N := 4) ?hd (cs := #[.int .i64 a0_0, .string a0_1]) (t := 27) ?hr ?_; (case hd => rfl); (case hg => rfl); (case hr => first | (go_simp; done) | (go_simp; rfl)); intro gb433 hg w10 hbox hb; have n0_ := Aside0.mk (below_step zB hb); have n1_ := Aside0.mk (hbox); have n2_ := Aside0.mk ((by rw [hg]; exact (below_size zB) : w.heap.size ≤ gb433)); have n3_ := Aside0.mk ((by rw [hg]; exact (below_size zB) : w.heap.size ≤ gb433)); clear HB; have HB := n0_; have BK433 := n1_; have GW433 := n2_; have GE433 := n3_; clear n0_ n1_ n2_ n3_; clear hb hbox hg; have hcz11_0 : w10.cell? ⟨gb433, 0, none⟩ = some (.int .i64 a0_0) := (blk_cell BK433.out 0).trans rfl; have hcz11_1 : w10.cell? ⟨gb433, 1, none⟩ = some (.string a0_1) := (blk_cell BK433.out 1).trans rfl; have hfz11_0 := blk_frozen BK433.out 0; have hfz11_1 := blk_frozen BK433.out 1) | ((with_reducible refine gate_callee (f := 44) rfl ?_); refine goesL_ (some 10) rfl rfl Try.func44 (by kernel_rfl) rfl #[.agg #[.int .i64 a0_0, .string a0_1]] rfl zM ?_; (with_reducible refine (spec_IsAcyclic.calls k a0_0 a0_1 true _ A5.out).mono ?_); rintro e w12 ⟨rfl, hb⟩; refine ⟨_, rfl, ?_⟩; have n0_ := Aside0.mk (blk_below (g := gb433) (o := .cells #[.int .i64 a0_0, .string a0_1] 27 (0, 0)) (zK BK433.out) hb); have n1_ := Aside0.mk (below_step (zG GE433.out) hb); clear BK433; clear HB; have BK433 := n0_; have HB := n1_; clear n0_ n1_; (try clear hb); (try clear hb2); (try clear hk); (try clear hi); have hcz13_0 : w12.cell? ⟨gb433, 0, none⟩ = some (.int .i64 a0_0) := (blk_cell BK433.out 0).trans rfl; have hcz13_1 : w12.cell? ⟨gb433, 1, none⟩ = some (.string a0_1) := (blk_cell BK433.out 1).trans rfl; have hfz13_0 := blk_frozen BK433.out 0; have hfz13_1 := blk_frozen BK433.out 1) | ((with_reducible refine gate_dst (N := 18) rfl ?_); (try (refine gate_guard (by rfl) ?_; dsimp only)); refine Kd.R_lit (Kd.int .i64) _ 3 ?hg (N := 18) ?hd (xs := ([a1, a2, a3] : List Int)) (inner := [.int .i64 a1, .int .i64 a2, .int .i64 a3]) (ok := fun _ => True) (okp := fun _ => True) ?hr ?hp (fun _ hk => hk) trivial (Below.refl _ _) (Nat.le_refl _) (by simp) ?_; (case hd => rfl); (case hg => rfl); (case hr => first | (go_simp; done) | (go_simp; rfl)); (case hp => exact (Reps.one (show Kd.M (Kd.int .i64) _ _ _ a1 [.int .i64 a1] from rfl) (Reps.one (show Kd.M (Kd.int .i64) _ _ _ a2 [.int .i64 a2] from rfl) (Reps.one (show Kd.M (Kd.int .i64) _ _ _ a3 [.int .i64 a3] from rfl) (Reps.none _ _))))); intro v436 w14 ho15 hb hg_ hnew_; clear hg_ hnew_; (first | rw [← Ny435.out] at ho15 | (simp only [Int.reduceToNat] at ho15; rw [← Ny435.out] at ho15)); have n0_ := Aside0.mk (Kd.R_lower ho15 (below_size (zG GE433.out))); have n1_ := Aside0.mk (blk_below (g := gb433) (o := .cells #[.int .i64 a0_0, .string a0_1] 27 (0, 0)) (zK BK433.out) hb); have n2_ := Aside0.mk (below_step (zG GE433.out) hb); clear BK433; clear HB; have HO437 := n0_; have BK433 := n1_; have HB := n2_; clear n0_ n1_ n2_; clear hb ho15; obtain ⟨Ao16, co16, eo16⟩ := Kd.R_slice HO437.out; subst eo16) | (go_at_call 45; (with_reducible refine (spec_l5Different.calls k a0_0 _ _ y435 true _ ?side1 ?side2 A7.out).mono ?_); (case side1 => repeat (first | exact (Kd.R_reads' HO437.out).2.2 | (with_reducible refine Kd.C_alloc ?_ _) | (with_reducible refine Kd.C_drewN ?_ _) | (with_reducible refine Kd.C_drew ?_))); (case side2 => exact (Kd.R_reads' HO437.out).2.1); rintro e w' ⟨rfl, ⟨nd, rfl⟩⟩; have hcz17_0 : w14.cell? ⟨gb433, 0, none⟩ = some (.int .i64 a0_0) := (blk_cell BK433.out 0).trans rfl; have hcz17_1 : w14.cell? ⟨gb433, 1, none⟩ = some (.string a0_1) := (blk_cell BK433.out 1).trans rfl; have hfz17_0 := blk_frozen BK433.out 0; have hfz17_1 := blk_frozen BK433.out 1) | ((with_reducible refine gate_callee (f := 60) rfl ?_); refine goesL_ (some 26) rfl rfl Try.func60 (by kernel_rfl) rfl #[.agg #[.int .i64 a0_0, .string a0_1], .int .i64 a1, .int .i64 a2, .int .i64 a3] rfl zM ?_; (with_reducible refine (spec_l5Inside.calls k a0_0 a0_1 a1 a2 a3 t439 _ A9.out).mono ?_); rintro e w18 ⟨rfl, hb⟩; refine ⟨_, rfl, ?_⟩; have n0_ := Aside0.mk (Kd.R_below (zR HO437.out) hb); have n1_ := Aside0.mk (blk_below (g := gb433) (o := .cells #[.int .i64 a0_0, .string a0_1] 27 (0, 0)) (zK BK433.out) hb); have n2_ := Aside0.mk (below_step (zG GE433.out) hb); clear HO437; clear BK433; clear HB; have HO437 := n0_; have BK433 := n1_; have HB := n2_; clear n0_ n1_ n2_; (try clear hb); (try clear hb2); (try clear hk); (try clear hi)))
   go_ret
   exact ⟨zE, zG GE433.out⟩
  ·replace c8 := Bool.eq_false_iff.mpr c8
   subst c8
   have H1 : (some (-1)) = some r := by rw [if_neg (show ¬ (false = true) by decide)] at H; exact H
   clear H
   have H := H1
   clear H1
   obtain rfl := Option.some.inj H
   go_enter Try.func30, Try.ntmps30
   go_wp2_with (first | ((with_reducible refine gate_dst (N := 4) rfl ?_); (try (refine gate_guard (by rfl) ?_; dsimp only)); refine box_event ?hg (N := 4) ?hd (cs := #[.int .i64 a0_0, .string a0_1]) (t := 27) ?hr ?_; (case hd => rfl); (case hg => rfl); (case hr => first | (go_simp; done) | (go_simp; rfl)); intro gb433 hg w19 hbox hb; have n0_ := Aside0.mk (below_step zB hb); have n1_ := Aside0.mk (hbox); have n2_ := Aside0.mk ((by rw [hg]; exact (below_size zB) : w.heap.size ≤ gb433)); have n3_ := Aside0.mk ((by rw [hg]; exact (below_size zB) : w.heap.size ≤ gb433)); clear HB; have HB := n0_; have BK433 := n1_; have GW433 := n2_; have GE433 := n3_; clear n0_ n1_ n2_ n3_; clear hb hbox hg; have hcz20_0 : w19.cell? ⟨gb433, 0, none⟩ = some (.int .i64 a0_0) := (blk_cell BK433.out 0).trans rfl; have hcz20_1 : w19.cell? ⟨gb433, 1, none⟩ = some (.string a0_1) := (blk_cell BK433.out 1).trans rfl; have hfz20_0 := blk_frozen BK433.out 0; have hfz20_1 := blk_frozen BK433.out 1) | ((with_reducible refine gate_callee (f := 44) rfl ?_); refine goesL_ (some 10) rfl rfl Try.func44 (by kernel_rfl) rfl #[.agg #[.int .i64 a0_0, .string a0_1]] rfl zM ?_; (with_reducible refine (spec_IsAcyclic.calls k a0_0 a0_1 true _ A5.out).mono ?_); rintro e w21 ⟨rfl, hb⟩; refine ⟨_, rfl, ?_⟩; have n0_ := Aside0.mk (blk_below (g := gb433) (o := .cells #[.int .i64 a0_0, .string a0_1] 27 (0, 0)) (zK BK433.out) hb); have n1_ := Aside0.mk (below_step (zG GE433.out) hb); clear BK433; clear HB; have BK433 := n0_; have HB := n1_; clear n0_ n1_; (try clear hb); (try clear hb2); (try clear hk); (try clear hi); have hcz22_0 : w21.cell? ⟨gb433, 0, none⟩ = some (.int .i64 a0_0) := (blk_cell BK433.out 0).trans rfl; have hcz22_1 : w21.cell? ⟨gb433, 1, none⟩ = some (.string a0_1) := (blk_cell BK433.out 1).trans rfl; have hfz22_0 := blk_frozen BK433.out 0; have hfz22_1 := blk_frozen BK433.out 1) | ((with_reducible refine gate_dst (N := 18) rfl ?_); (try (refine gate_guard (by rfl) ?_; dsimp only)); refine Kd.R_lit (Kd.int .i64) _ 3 ?hg (N := 18) ?hd (xs := ([a1, a2, a3] : List Int)) (inner := [.int .i64 a1, .int .i64 a2, .int .i64 a3]) (ok := fun _ => True) (okp := fun _ => True) ?hr ?hp (fun _ hk => hk) trivial (Below.refl _ _) (Nat.le_refl _) (by simp) ?_; (case hd => rfl); (case hg => rfl); (case hr => first | (go_simp; done) | (go_simp; rfl)); (case hp => exact (Reps.one (show Kd.M (Kd.int .i64) _ _ _ a1 [.int .i64 a1] from rfl) (Reps.one (show Kd.M (Kd.int .i64) _ _ _ a2 [.int .i64 a2] from rfl) (Reps.one (show Kd.M (Kd.int .i64) _ _ _ a3 [.int .i64 a3] from rfl) (Reps.none _ _))))); intro v436 w23 ho24 hb hg_ hnew_; clear hg_ hnew_; (first | rw [← Ny435.out] at ho24 | (simp only [Int.reduceToNat] at ho24; rw [← Ny435.out] at ho24)); have n0_ := Aside0.mk (Kd.R_lower ho24 (below_size (zG GE433.out))); have n1_ := Aside0.mk (blk_below (g := gb433) (o := .cells #[.int .i64 a0_0, .string a0_1] 27 (0, 0)) (zK BK433.out) hb); have n2_ := Aside0.mk (below_step (zG GE433.out) hb); clear BK433; clear HB; have HO437 := n0_; have BK433 := n1_; have HB := n2_; clear n0_ n1_ n2_; clear hb ho24; obtain ⟨Ao25, co25, eo25⟩ := Kd.R_slice HO437.out; subst eo25) | (go_at_call 45; (with_reducible refine (spec_l5Different.calls k a0_0 _ _ y435 false _ ?side1 ?side2 A7.out).mono ?_); (case side1 => repeat (first | exact (Kd.R_reads' HO437.out).2.2 | (with_reducible refine Kd.C_alloc ?_ _) | (with_reducible refine Kd.C_drewN ?_ _) | (with_reducible refine Kd.C_drew ?_))); (case side2 => exact (Kd.R_reads' HO437.out).2.1); rintro e w' ⟨rfl, ⟨nd, rfl⟩⟩))
   go_ret
   exact ⟨zE, zG GE433.out⟩
 ·replace c6 := Bool.eq_false_iff.mpr c6
  subst c6
  have H1 : (some (-1)) = some r := by rw [if_neg (show ¬ (false = true) by decide)] at H; exact H
  clear H
  have H := H1
  clear H1
  obtain rfl := Option.some.inj H
  go_enter Try.func30, Try.ntmps30
  go_wp2_with (first | ((with_reducible refine gate_dst (N := 4) rfl ?_); (try (refine gate_guard (by rfl) ?_; dsimp only)); refine box_event ?hg (N := 4) ?hd (cs := #[.int .i64 a0_0, .string a0_1]) (t := 27) ?hr ?_; (case hd => rfl); (case hg => rfl); (case hr => first | (go_simp; done) | (go_simp; rfl)); intro gb433 hg w26 hbox hb; have n0_ := Aside0.mk (below_step zB hb); have n1_ := Aside0.mk (hbox); have n2_ := Aside0.mk ((by rw [hg]; exact (below_size zB) : w.heap.size ≤ gb433)); have n3_ := Aside0.mk ((by rw [hg]; exact (below_size zB) : w.heap.size ≤ gb433)); clear HB; have HB := n0_; have BK433 := n1_; have GW433 := n2_; have GE433 := n3_; clear n0_ n1_ n2_ n3_; clear hb hbox hg; have hcz27_0 : w26.cell? ⟨gb433, 0, none⟩ = some (.int .i64 a0_0) := (blk_cell BK433.out 0).trans rfl; have hcz27_1 : w26.cell? ⟨gb433, 1, none⟩ = some (.string a0_1) := (blk_cell BK433.out 1).trans rfl; have hfz27_0 := blk_frozen BK433.out 0; have hfz27_1 := blk_frozen BK433.out 1) | ((with_reducible refine gate_callee (f := 44) rfl ?_); refine goesL_ (some 10) rfl rfl Try.func44 (by kernel_rfl) rfl #[.agg #[.int .i64 a0_0, .string a0_1]] rfl zM ?_; (with_reducible refine (spec_IsAcyclic.calls k a0_0 a0_1 false _ A5.out).mono ?_); rintro e w28 ⟨rfl, hb⟩; refine ⟨_, rfl, ?_⟩; have n0_ := Aside0.mk (blk_below (g := gb433) (o := .cells #[.int .i64 a0_0, .string a0_1] 27 (0, 0)) (zK BK433.out) hb); have n1_ := Aside0.mk (below_step (zG GE433.out) hb); clear BK433; clear HB; have BK433 := n0_; have HB := n1_; clear n0_ n1_; (try clear hb); (try clear hb2); (try clear hk); (try clear hi)))
  go_ret
  exact ⟨zE, zG GE433.out⟩
/-! ### impl_chi_countInside: function 61 -/
def impl_chi_countInside.l0 : Nat → List Int → Int → Int → Int → Int → Int → Option (Int)
 | 0, _, _, _, _, _, _ => none
 | k + 1, x0, x1, x2, x3, x9, x10 => if x10 < (rd x0 0) then (if x10 = x1 then (impl_chi_countInside.l0 k x0 x1 x2 x3 x9 (wrap64 (x10 + 1))) else (if x10 = x2 then (impl_chi_countInside.l0 k x0 x1 x2 x3 x9 (wrap64 (x10 + 1))) else (if x10 = x3 then (impl_chi_countInside.l0 k x0 x1 x2 x3 x9 (wrap64 (x10 + 1))) else ((impl_chi_isInside.f k x0 x10 x1 x2 x3).bind fun t441 => (if t441 = true then (impl_chi_countInside.l0 k x0 x1 x2 x3 (wrap64 (x9 + 1)) (wrap64 (x10 + 1))) else (impl_chi_countInside.l0 k x0 x1 x2 x3 x9 (wrap64 (x10 + 1)))))))) else (some x9)
def impl_chi_countInside.f (k : Nat) (l0 : List Int) (a1 : Int) (a2 : Int) (a3 : Int) : Option (Int) := impl_chi_countInside.l0 k l0 a1 a2 a3 0 0
theorem impl_chi_countInside.mono_l : ∀ k, (∀ y0 y1 y2 y3 y4 y5, LeO (impl_chi_countInside.l0 k y0 y1 y2 y3 y4 y5) (impl_chi_countInside.l0 (k + 1) y0 y1 y2 y3 y4 y5))
 | 0 => fun _ _ _ _ _ _ r h => by simp [impl_chi_countInside.l0] at h
 | k + 1 => by
  have ih0 := impl_chi_countInside.mono_l k
  ·intro y0 y1 y2 y3 y4 y5
   unfold impl_chi_countInside.l0
   repeat' first
   | (with_reducible exact ih0 _ _ _ _ _ _)
   | (with_reducible exact impl_chi_isInside.mono _ _ _ _ _ _)
   | (with_reducible exact LeO.refl _)
   | (with_reducible exact LeO.none _)
   | (with_reducible refine LeO.ite ?_ ?_)
   | (with_reducible refine LeO.bind ?_ (fun _ => ?_))
   | exact ih0 _ _ _ _ _ _
   | exact impl_chi_isInside.mono _ _ _ _ _ _
   | exact LeO.none _
   | refine LeO.ite ?_ ?_
   | refine LeO.bind ?_ (fun _ => ?_)
theorem impl_chi_countInside.mono : ∀ a0 a1 a2 a3 k, LeO (impl_chi_countInside.f k a0 a1 a2 a3) (impl_chi_countInside.f (k + 1) a0 a1 a2 a3) := by
 intro a0 a1 a2 a3 k
 have ih0 := impl_chi_countInside.mono_l k
 unfold impl_chi_countInside.f
 repeat' first
   | (with_reducible exact ih0 _ _ _ _ _ _)
   | (with_reducible exact impl_chi_isInside.mono _ _ _ _ _ _)
   | (with_reducible exact LeO.refl _)
   | (with_reducible exact LeO.none _)
   | (with_reducible refine LeO.ite ?_ ?_)
   | (with_reducible refine LeO.bind ?_ (fun _ => ?_))
   | exact ih0 _ _ _ _ _ _
   | exact impl_chi_isInside.mono _ _ _ _ _ _
   | exact LeO.none _
   | refine LeO.ite ?_ ?_
   | refine LeO.bind ?_ (fun _ => ?_)
set_option maxHeartbeats 8000000 in
set_option maxRecDepth 100000 in
theorem impl_chi_countInside.calls (k : Nat) (g0 : Nat) (l0 : List Int) (a1 : Int) (a2 : Int) (a3 : Int) (r : Int) (w : World) (hr0 : Kd.C (Kd.int .i64) w (some ⟨g0, 0, none⟩) l0.length l0) (hc0 : l0.length = 344) (h : impl_chi_countInside.f k l0 a1 a2 a3 = some r) :
  Calls Try.prog 61 #[.pointer (some ⟨g0, 0, none⟩), .int .i64 a1, .int .i64 a2, .int .i64 a3] w fun e w' => e = .returned (.int .i64 r) ∧ Below w.heap.size w w' := by
 have hu84 := Try.underlying84
 have HR0 := Aside0.mk hr0
 have HC0 := Aside0.mk hc0
 clear hr0 hc0
 have HB := Aside0.mk (Below.refl w.heap.size w)
 have H : (impl_chi_countInside.l0 k l0 a1 a2 a3 0 0) = some r := h
 clear h
 have H' := Aside0.mk H
 clear H
 go_enter Try.func61, Try.ntmps61
 go_wp2
 go_loopg [9, 10] k (fun kq v9 v10 w' => ∃ (x9_1 : Int) (x10_1 : Int), v9 = .int .i64 x9_1 ∧ v10 = .int .i64 x10_1 ∧ Aside0 (impl_chi_countInside.l0 kq l0 a1 a2 a3 x9_1 x10_1 = some r) ∧ Aside0 (kq ≤ k) ∧ Aside0 (Below w.heap.size w w'))
 case atStart => exact ⟨(0), (0), zF, zF, H', ⟨Nat.le_refl _⟩, ⟨zB⟩⟩
 case round =>
  clear H'
  try clear p2
  obtain ⟨x9_1, x10_1, rfl, rfl, HA, HK1, HB⟩ := hrel
  cases gk with
  | zero => exact absurd HA.out (by simp [impl_chi_countInside.l0])
  | succ k1 =>
   have H := HA.out
   clear HA
   simp only [impl_chi_countInside.l0] at H
   by_cases c5 : x10_1 < (rd l0 0)
   ·rw [if_pos c5] at H
    have c5b0 : decide (x10_1 < (rd l0 0)) = true := decide_eq_true c5
    clear c5
    by_cases c6 : x10_1 = a1
    ·rw [if_pos c6] at H
     have c6b0 : (x10_1 == a1) = true := beq_iff_eq.mpr c6
     have c6b1 : (x10_1 != a1) = false := bne_eq_false_iff_eq.mpr c6
     clear c6
     have H' := Aside0.mk H
     clear H
     have hL440 := HC0.out
     have dq440 : decide (0 < (l0.length : Int)) = true := decide_eq_true (by omega)
     clear hL440
     have p440 : 0 ≤ (0 : Int) := (by omega)
     have q440 : 0 < (l0.length : Int) := zA
     obtain ⟨ad440, e440, hx440_0⟩ := Kd.at_int HR0.out 0 p440 q440
     obtain rfl : (⟨g0, 0, none⟩ : Addr) = ad440 := (by injection e440)
     (first | simp only [add_plain] at hx440_0 | simp only [add_at] at hx440_0 | simp only [Addr.add, Nat.zero_add] at hx440_0 | skip)
     have qi440 : (0 < l0.length) = True := eq_true (by omega)
     (try rw [show ((0 : Int)).toNat = 0 from rfl] at hx440_0)
     (try rw [Addr.add_zero'] at hx440_0)
     replace hx440_0 := (HB.out.cell (World.block_lt_of_cell? w _ hx440_0)).trans hx440_0
     replace p440 := eq_true p440
     replace q440 := eq_true q440
     clear dq440
     go_wp2
     go_roundg k1
     case measure => have := HK1.out; omega
     case rel => exact ⟨(x9_1), (wrap64 (x10_1 + 1)), zF, zF, H', ⟨by have := HK1.out; omega⟩, ⟨zB⟩⟩
    ·rw [if_neg c6] at H
     have c6b0 : (x10_1 == a1) = false := beq_eq_false_iff_ne.mpr c6
     have c6b1 : (x10_1 != a1) = true := bne_iff_ne.mpr c6
     by_cases c7 : x10_1 = a2
     ·rw [if_pos c7] at H
      have c7b0 : (x10_1 == a2) = true := beq_iff_eq.mpr c7
      have c7b1 : (x10_1 != a2) = false := bne_eq_false_iff_eq.mpr c7
      clear c7
      have H' := Aside0.mk H
      clear H
      have hL440 := HC0.out
      have dq440 : decide (0 < (l0.length : Int)) = true := decide_eq_true (by omega)
      clear hL440
      have p440 : 0 ≤ (0 : Int) := (by omega)
      have q440 : 0 < (l0.length : Int) := zA
      obtain ⟨ad440, e440, hx440_0⟩ := Kd.at_int HR0.out 0 p440 q440
      obtain rfl : (⟨g0, 0, none⟩ : Addr) = ad440 := (by injection e440)
      (first | simp only [add_plain] at hx440_0 | simp only [add_at] at hx440_0 | simp only [Addr.add, Nat.zero_add] at hx440_0 | skip)
      have qi440 : (0 < l0.length) = True := eq_true (by omega)
      (try rw [show ((0 : Int)).toNat = 0 from rfl] at hx440_0)
      (try rw [Addr.add_zero'] at hx440_0)
      replace hx440_0 := (HB.out.cell (World.block_lt_of_cell? w _ hx440_0)).trans hx440_0
      replace p440 := eq_true p440
      replace q440 := eq_true q440
      clear dq440
      go_wp2
      go_roundg k1
      case measure => have := HK1.out; omega
      case rel => exact ⟨(x9_1), (wrap64 (x10_1 + 1)), zF, zF, H', ⟨by have := HK1.out; omega⟩, ⟨zB⟩⟩
     ·rw [if_neg c7] at H
      have c7b0 : (x10_1 == a2) = false := beq_eq_false_iff_ne.mpr c7
      have c7b1 : (x10_1 != a2) = true := bne_iff_ne.mpr c7
      by_cases c8 : x10_1 = a3
      ·rw [if_pos c8] at H
       have c8b0 : (x10_1 == a3) = true := beq_iff_eq.mpr c8
       have c8b1 : (x10_1 != a3) = false := bne_eq_false_iff_eq.mpr c8
       clear c8
       have H' := Aside0.mk H
       clear H
       have hL440 := HC0.out
       have dq440 : decide (0 < (l0.length : Int)) = true := decide_eq_true (by omega)
       clear hL440
       have p440 : 0 ≤ (0 : Int) := (by omega)
       have q440 : 0 < (l0.length : Int) := zA
       obtain ⟨ad440, e440, hx440_0⟩ := Kd.at_int HR0.out 0 p440 q440
       obtain rfl : (⟨g0, 0, none⟩ : Addr) = ad440 := (by injection e440)
       (first | simp only [add_plain] at hx440_0 | simp only [add_at] at hx440_0 | simp only [Addr.add, Nat.zero_add] at hx440_0 | skip)
       have qi440 : (0 < l0.length) = True := eq_true (by omega)
       (try rw [show ((0 : Int)).toNat = 0 from rfl] at hx440_0)
       (try rw [Addr.add_zero'] at hx440_0)
       replace hx440_0 := (HB.out.cell (World.block_lt_of_cell? w _ hx440_0)).trans hx440_0
       replace p440 := eq_true p440
       replace q440 := eq_true q440
       clear dq440
       go_wp2
       go_roundg k1
       case measure => have := HK1.out; omega
       case rel => exact ⟨(x9_1), (wrap64 (x10_1 + 1)), zF, zF, H', ⟨by have := HK1.out; omega⟩, ⟨zB⟩⟩
      ·rw [if_neg c8] at H
       have c8b0 : (x10_1 == a3) = false := beq_eq_false_iff_ne.mpr c8
       have c8b1 : (x10_1 != a3) = true := bne_iff_ne.mpr c8
       replace H := Option.bind_eq_some_iff.mp H
       obtain ⟨t441, A90, H⟩ := H
       replace H : (if t441 = true then (impl_chi_countInside.l0 k1 l0 a1 a2 a3 (wrap64 (x9_1 + 1)) (wrap64 (x10_1 + 1))) else (impl_chi_countInside.l0 k1 l0 a1 a2 a3 x9_1 (wrap64 (x10_1 + 1)))) = some r := H
       have A9 := Aside0.mk A90
       clear A90
       by_cases c10 : t441 = true
       ·subst c10
        have H1 : (impl_chi_countInside.l0 k1 l0 a1 a2 a3 (wrap64 (x9_1 + 1)) (wrap64 (x10_1 + 1))) = some r := by rw [if_pos rfl] at H; exact H
        clear H
        have H := H1
        clear H1
        have H' := Aside0.mk H
        clear H
        have hL440 := HC0.out
        have dq440 : decide (0 < (l0.length : Int)) = true := decide_eq_true (by omega)
        clear hL440
        have p440 : 0 ≤ (0 : Int) := (by omega)
        have q440 : 0 < (l0.length : Int) := zA
        obtain ⟨ad440, e440, hx440_0⟩ := Kd.at_int HR0.out 0 p440 q440
        obtain rfl : (⟨g0, 0, none⟩ : Addr) = ad440 := (by injection e440)
        (first | simp only [add_plain] at hx440_0 | simp only [add_at] at hx440_0 | simp only [Addr.add, Nat.zero_add] at hx440_0 | skip)
        have qi440 : (0 < l0.length) = True := eq_true (by omega)
        (try rw [show ((0 : Int)).toNat = 0 from rfl] at hx440_0)
        (try rw [Addr.add_zero'] at hx440_0)
        replace hx440_0 := (HB.out.cell (World.block_lt_of_cell? w _ hx440_0)).trans hx440_0
        replace p440 := eq_true p440
        replace q440 := eq_true q440
        clear dq440
        go_wp2_with (first | (go_at_call 59; (with_reducible refine (impl_chi_isInside.calls k1 _ l0 x10_1 a1 a2 a3 true _ ?side1 ?side2 A9.out).mono ?_); (case side1 => repeat (first | exact (Kd.C_below HR0.out HB.out) | (with_reducible refine Kd.C_alloc ?_ _) | (with_reducible refine Kd.C_drewN ?_ _) | (with_reducible refine Kd.C_drew ?_))); (case side2 => exact HC0.out); rintro e w11 ⟨rfl, hb⟩; have n0_ := Aside0.mk (below_step zB hb); clear HB; have HB := n0_; clear n0_; (try clear hb); (try clear hb2); (try clear hk); (try clear hi)))
        go_roundg k1
        case measure => have := HK1.out; omega
        case rel => exact ⟨(wrap64 (x9_1 + 1)), (wrap64 (x10_1 + 1)), zF, zF, H', ⟨by have := HK1.out; omega⟩, ⟨zB⟩⟩
       ·replace c10 := Bool.eq_false_iff.mpr c10
        subst c10
        have H1 : (impl_chi_countInside.l0 k1 l0 a1 a2 a3 x9_1 (wrap64 (x10_1 + 1))) = some r := by rw [if_neg (show ¬ (false = true) by decide)] at H; exact H
        clear H
        have H := H1
        clear H1
        have H' := Aside0.mk H
        clear H
        have hL440 := HC0.out
        have dq440 : decide (0 < (l0.length : Int)) = true := decide_eq_true (by omega)
        clear hL440
        have p440 : 0 ≤ (0 : Int) := (by omega)
        have q440 : 0 < (l0.length : Int) := zA
        obtain ⟨ad440, e440, hx440_0⟩ := Kd.at_int HR0.out 0 p440 q440
        obtain rfl : (⟨g0, 0, none⟩ : Addr) = ad440 := (by injection e440)
        (first | simp only [add_plain] at hx440_0 | simp only [add_at] at hx440_0 | simp only [Addr.add, Nat.zero_add] at hx440_0 | skip)
        have qi440 : (0 < l0.length) = True := eq_true (by omega)
        (try rw [show ((0 : Int)).toNat = 0 from rfl] at hx440_0)
        (try rw [Addr.add_zero'] at hx440_0)
        replace hx440_0 := (HB.out.cell (World.block_lt_of_cell? w _ hx440_0)).trans hx440_0
        replace p440 := eq_true p440
        replace q440 := eq_true q440
        clear dq440
        go_wp2_with (first | (go_at_call 59; (with_reducible refine (impl_chi_isInside.calls k1 _ l0 x10_1 a1 a2 a3 false _ ?side1 ?side2 A9.out).mono ?_); (case side1 => repeat (first | exact (Kd.C_below HR0.out HB.out) | (with_reducible refine Kd.C_alloc ?_ _) | (with_reducible refine Kd.C_drewN ?_ _) | (with_reducible refine Kd.C_drew ?_))); (case side2 => exact HC0.out); rintro e w12 ⟨rfl, hb⟩; have n0_ := Aside0.mk (below_step zB hb); clear HB; have HB := n0_; clear n0_; (try clear hb); (try clear hb2); (try clear hk); (try clear hi)))
        go_roundg k1
        case measure => have := HK1.out; omega
        case rel => exact ⟨(x9_1), (wrap64 (x10_1 + 1)), zF, zF, H', ⟨by have := HK1.out; omega⟩, ⟨zB⟩⟩
   ·rw [if_neg c5] at H
    have c5b0 : decide (x10_1 < (rd l0 0)) = false := decide_eq_false c5
    clear c5
    obtain rfl := Option.some.inj H
    have hL440 := HC0.out
    have dq440 : decide (0 < (l0.length : Int)) = true := decide_eq_true (by omega)
    clear hL440
    have p440 : 0 ≤ (0 : Int) := (by omega)
    have q440 : 0 < (l0.length : Int) := zA
    obtain ⟨ad440, e440, hx440_0⟩ := Kd.at_int HR0.out 0 p440 q440
    obtain rfl : (⟨g0, 0, none⟩ : Addr) = ad440 := (by injection e440)
    (first | simp only [add_plain] at hx440_0 | simp only [add_at] at hx440_0 | simp only [Addr.add, Nat.zero_add] at hx440_0 | skip)
    have qi440 : (0 < l0.length) = True := eq_true (by omega)
    (try rw [show ((0 : Int)).toNat = 0 from rfl] at hx440_0)
    (try rw [Addr.add_zero'] at hx440_0)
    replace hx440_0 := (HB.out.cell (World.block_lt_of_cell? w _ hx440_0)).trans hx440_0
    replace p440 := eq_true p440
    replace q440 := eq_true q440
    clear dq440
    go_wp2
    go_ret
    exact ⟨zE, zB⟩
/-! ### impl_CountInside: function 31 -/
def impl_CountInside.f (k : Nat) (a0_0 : Int) (a0_1 : ByteArray) (a1 : Int) (a2 : Int) (a3 : Int) : Option (Int) := (impl_orderOf.f k a0_0 a0_1).bind fun bt443 => (if bt443.2 = true then ((impl_areDifferent.f k a0_0 (([a1, a2, a3] : List Int))).bind fun t450 => (if t450 = true then (if bt443.1.length = 344 then ((impl_chi_countInside.f k bt443.1 a1 a2 a3).bind fun t451 => (some t451)) else (none)) else (some (-1)))) else (some (-1)))
theorem impl_CountInside.mono : ∀ a0 a1 a2 a3 a4 k, LeO (impl_CountInside.f k a0 a1 a2 a3 a4) (impl_CountInside.f (k + 1) a0 a1 a2 a3 a4) := by
 intro a0 a1 a2 a3 a4 k
 unfold impl_CountInside.f
 repeat' first
   | (with_reducible exact impl_areDifferent.mono _ _ _)
   | (with_reducible exact impl_chi_countInside.mono _ _ _ _ _)
   | (with_reducible exact impl_orderOf.mono _ _ _)
   | (with_reducible exact LeO.refl _)
   | (with_reducible exact LeO.none _)
   | (with_reducible refine LeO.ite ?_ ?_)
   | (with_reducible refine LeO.bind ?_ (fun _ => ?_))
   | exact impl_areDifferent.mono _ _ _
   | exact impl_chi_countInside.mono _ _ _ _ _
   | exact impl_orderOf.mono _ _ _
   | exact LeO.none _
   | refine LeO.ite ?_ ?_
   | refine LeO.bind ?_ (fun _ => ?_)
set_option maxHeartbeats 8000000 in
set_option maxRecDepth 100000 in
theorem impl_CountInside.calls (k : Nat) (a0_0 : Int) (a0_1 : ByteArray) (a1 : Int) (a2 : Int) (a3 : Int) (r : Int) (w : World) (h : impl_CountInside.f k a0_0 a0_1 a1 a2 a3 = some r) :
  Calls Try.prog 31 #[.agg #[.int .i64 a0_0, .string a0_1], .int .i64 a1, .int .i64 a2, .int .i64 a3] w fun e w' => e = .returned (.int .i64 r) ∧ Below w.heap.size w w' := by
 have hu27 := Try.underlying27
 have HB := Aside0.mk (Below.refl w.heap.size w)
 have H : ((impl_orderOf.f k a0_0 a0_1).bind fun bt443 => (if bt443.2 = true then ((impl_areDifferent.f k a0_0 (([a1, a2, a3] : List Int))).bind fun t450 => (if t450 = true then (if bt443.1.length = 344 then ((impl_chi_countInside.f k bt443.1 a1 a2 a3).bind fun t451 => (some t451)) else (none)) else (some (-1)))) else (some (-1)))) = some r := h
 clear h
 replace H := Option.bind_eq_some_iff.mp H
 obtain ⟨⟨t443, t446⟩, A50, H⟩ := H
 replace H : (if t446 = true then ((impl_areDifferent.f k a0_0 (([a1, a2, a3] : List Int))).bind fun t450 => (if t450 = true then (if t443.length = 344 then ((impl_chi_countInside.f k t443 a1 a2 a3).bind fun t451 => (some t451)) else (none)) else (some (-1)))) else (some (-1))) = some r := H
 have A5 := Aside0.mk A50
 clear A50
 by_cases c6 : t446 = true
 ·subst c6
  have H1 : ((impl_areDifferent.f k a0_0 (([a1, a2, a3] : List Int))).bind fun t450 => (if t450 = true then (if t443.length = 344 then ((impl_chi_countInside.f k t443 a1 a2 a3).bind fun t451 => (some t451)) else (none)) else (some (-1)))) = some r := by rw [if_pos rfl] at H; exact H
  clear H
  have H := H1
  clear H1
  obtain ⟨y447, hy447⟩ : ∃ y_ : List Int, y_ = (([a1, a2, a3] : List Int)) := ⟨_, rfl⟩
  replace H : ((impl_areDifferent.f k a0_0 y447).bind fun t450 => (if t450 = true then (if t443.length = 344 then ((impl_chi_countInside.f k t443 a1 a2 a3).bind fun t451 => (some t451)) else (none)) else (some (-1)))) = some r := by first | (rw [hy447]; with_reducible exact H) | (have H2_ := (Option.bind_some _ _).symm.trans H; rw [hy447]; with_reducible exact H2_) | (have H2_ := (Option.bind_some _ _).symm.trans H; with_reducible exact H2_) | with_reducible exact H | (rw [hy447]; exact H) | exact H
  have Ny447 := Aside0.mk hy447
  clear hy447
  replace H := Option.bind_eq_some_iff.mp H
  obtain ⟨t450, A70, H⟩ := H
  replace H : (if t450 = true then (if t443.length = 344 then ((impl_chi_countInside.f k t443 a1 a2 a3).bind fun t451 => (some t451)) else (none)) else (some (-1))) = some r := H
  have A7 := Aside0.mk A70
  clear A70
  by_cases c8 : t450 = true
  ·subst c8
   have H1 : (if t443.length = 344 then ((impl_chi_countInside.f k t443 a1 a2 a3).bind fun t451 => (some t451)) else (none)) = some r := by rw [if_pos rfl] at H; exact H
   clear H
   have H := H1
   clear H1
   by_cases c9 : t443.length = 344
   ·rw [if_pos c9] at H
    have c9b0 := eq_true c9
    have c9b1 : decide (t443.length = 344) = true := decide_eq_true c9
    clear c9
    replace H := Option.bind_eq_some_iff.mp H
    obtain ⟨t451, A100, H⟩ := H
    replace H : (some t451) = some r := H
    have A10 := Aside0.mk A100
    clear A100
    obtain rfl := Option.some.inj H
    go_enter Try.func31, Try.ntmps31
    go_wp2_with (first | ((with_reducible refine gate_dst (N := 4) rfl ?_); (try (refine gate_guard (by rfl) ?_; dsimp only)); refine box_event ?hg (N := 4) ?hd (cs := #[.int .i64 a0_0, .string a0_1]) (t := 27) ?hr ?_; (case hd => rfl); (case hg => rfl); (case hr => first | (go_simp; done) | (go_simp; rfl)); intro gb442 hg w11 hbox hb; have n0_ := Aside0.mk (below_step zB hb); have n1_ := Aside0.mk (hbox); have n2_ := Aside0.mk ((by rw [hg]; exact (below_size zB) : w.heap.size ≤ gb442)); have n3_ := Aside0.mk ((by rw [hg]; exact (below_size zB) : w.heap.size ≤ gb442)); clear HB; have HB := n0_; have BK442 := n1_; have GW442 := n2_; have GE442 := n3_; clear n0_ n1_ n2_ n3_; clear hb hbox hg; have hcz12_0 : w11.cell? ⟨gb442, 0, none⟩ = some (.int .i64 a0_0) := (blk_cell BK442.out 0).trans rfl; have hcz12_1 : w11.cell? ⟨gb442, 1, none⟩ = some (.string a0_1) := (blk_cell BK442.out 1).trans rfl; have hfz12_0 := blk_frozen BK442.out 0; have hfz12_1 := blk_frozen BK442.out 1) | ((with_reducible refine gate_callee (f := 47) rfl ?_); refine goesL_ (some 13) rfl rfl Try.func47 (by kernel_rfl) rfl #[.agg #[.int .i64 a0_0, .string a0_1]] rfl zM ?_; (with_reducible refine (impl_orderOf.calls k a0_0 a0_1 t443 true _ A5.out).mono ?_); rintro e w13 ⟨v444, rfl, ho0, hb⟩; refine ⟨_, rfl, ?_⟩; have n0_ := Aside0.mk (Kd.R_lower ho0 (below_size (zG GE442.out))); have n1_ := Aside0.mk (blk_below (g := gb442) (o := .cells #[.int .i64 a0_0, .string a0_1] 27 (0, 0)) (zK BK442.out) hb); have n2_ := Aside0.mk (below_step (zG GE442.out) hb); clear BK442; clear HB; have HO445 := n0_; have BK442 := n1_; have HB := n2_; clear n0_ n1_ n2_; (try clear hb); (try clear hb2); (try clear hk); (try clear hi); (try clear ho0); have hcz14_0 : w13.cell? ⟨gb442, 0, none⟩ = some (.int .i64 a0_0) := (blk_cell BK442.out 0).trans rfl; have hcz14_1 : w13.cell? ⟨gb442, 1, none⟩ = some (.string a0_1) := (blk_cell BK442.out 1).trans rfl; have hfz14_0 := blk_frozen BK442.out 0; have hfz14_1 := blk_frozen BK442.out 1) | ((with_reducible refine gate_dst (N := 24) rfl ?_); (try (refine gate_guard (by rfl) ?_; dsimp only)); refine Kd.R_lit (Kd.int .i64) _ 3 ?hg (N := 24) ?hd (xs := ([a1, a2, a3] : List Int)) (inner := [.int .i64 a1, .int .i64 a2, .int .i64 a3]) (ok := fun _ => True) (okp := fun _ => True) ?hr ?hp (fun _ hk => hk) trivial (Below.refl _ _) (Nat.le_refl _) (by simp) ?_; (case hd => rfl); (case hg => rfl); (case hr => first | (go_simp; done) | (go_simp; rfl)); (case hp => exact (Reps.one (show Kd.M (Kd.int .i64) _ _ _ a1 [.int .i64 a1] from rfl) (Reps.one (show Kd.M (Kd.int .i64) _ _ _ a2 [.int .i64 a2] from rfl) (Reps.one (show Kd.M (Kd.int .i64) _ _ _ a3 [.int .i64 a3] from rfl) (Reps.none _ _))))); intro v448 w15 ho16 hb hg_ hnew_; clear hg_ hnew_; (first | rw [← Ny447.out] at ho16 | (simp only [Int.reduceToNat] at ho16; rw [← Ny447.out] at ho16)); have n0_ := Aside0.mk (Kd.R_below (zR HO445.out) hb); have n1_ := Aside0.mk (Kd.R_lower ho16 (below_size (zG GE442.out))); have n2_ := Aside0.mk (blk_below (g := gb442) (o := .cells #[.int .i64 a0_0, .string a0_1] 27 (0, 0)) (zK BK442.out) hb); have n3_ := Aside0.mk (below_step (zG GE442.out) hb); clear HO445; clear BK442; clear HB; have HO445 := n0_; have HO449 := n1_; have BK442 := n2_; have HB := n3_; clear n0_ n1_ n2_ n3_; clear hb ho16; obtain ⟨Ao17, co17, eo17⟩ := Kd.R_slice HO449.out; subst eo17) | (go_at_call 48; (with_reducible refine (impl_areDifferent.calls k a0_0 _ _ y447 true _ ?side1 ?side2 A7.out).mono ?_); (case side1 => repeat (first | exact (Kd.R_reads' HO449.out).2.2 | (with_reducible refine Kd.C_alloc ?_ _) | (with_reducible refine Kd.C_drewN ?_ _) | (with_reducible refine Kd.C_drew ?_))); (case side2 => exact (Kd.R_reads' HO449.out).2.1); rintro e w' ⟨rfl, ⟨nd, rfl⟩⟩; obtain ⟨go18, co18, eo18, gb18, gl18, cl18, HG18⟩ := Kd.R_form HO445.out (by have hl_ := Nat.le_of_eq (Eq.symm (zA : t443.length = 344)); omega); (first | cases eo18 | (injection eo18 with ea_ en_ ec_; (first | subst ea_ | (injection ea_ with ea_; subst ea_)); subst ec_; clear en_)); have GB18 := Aside0.mk gb18; have GG18 := Aside0.mk HG18; clear gb18 gl18 HG18) | ((with_reducible refine gate_callee (f := 61) rfl ?_); refine goesL_ (some 32) rfl rfl Try.func61 (by kernel_rfl) rfl #[.pointer (some ⟨go18, 0, none⟩), .int .i64 a1, .int .i64 a2, .int .i64 a3] rfl zM ?_; (with_reducible refine (impl_chi_countInside.calls k _ t443 a1 a2 a3 t451 _ ?side1 ?side2 A10.out).mono ?_); (case side1 => repeat (first | exact (Kd.R_reads' HO445.out).2.2 | (with_reducible refine Kd.C_alloc ?_ _) | (with_reducible refine Kd.C_drewN ?_ _) | (with_reducible refine Kd.C_drew ?_))); (case side2 => exact (zA : t443.length = 344)); rintro e w19 ⟨rfl, hb⟩; refine ⟨_, rfl, ?_⟩; have n0_ := Aside0.mk (Kd.R_below (zR HO445.out) hb); have n1_ := Aside0.mk (Kd.R_below (zR HO449.out) hb); have n2_ := Aside0.mk (blk_below (g := gb442) (o := .cells #[.int .i64 a0_0, .string a0_1] 27 (0, 0)) (zK BK442.out) hb); have n3_ := Aside0.mk (below_step (zG GE442.out) hb); clear HO445; clear HO449; clear BK442; clear HB; have HO445 := n0_; have HO449 := n1_; have BK442 := n2_; have HB := n3_; clear n0_ n1_ n2_ n3_; (try clear hb); (try clear hb2); (try clear hk); (try clear hi)))
    go_ret
    exact ⟨zE, zG GE442.out⟩
   ·rw [if_neg c9] at H
    exact absurd H (by simp)
  ·replace c8 := Bool.eq_false_iff.mpr c8
   subst c8
   have H1 : (some (-1)) = some r := by rw [if_neg (show ¬ (false = true) by decide)] at H; exact H
   clear H
   have H := H1
   clear H1
   obtain rfl := Option.some.inj H
   go_enter Try.func31, Try.ntmps31
   go_wp2_with (first | ((with_reducible refine gate_dst (N := 4) rfl ?_); (try (refine gate_guard (by rfl) ?_; dsimp only)); refine box_event ?hg (N := 4) ?hd (cs := #[.int .i64 a0_0, .string a0_1]) (t := 27) ?hr ?_; (case hd => rfl); (case hg => rfl); (case hr => first | (go_simp; done) | (go_simp; rfl)); intro gb442 hg w20 hbox hb; have n0_ := Aside0.mk (below_step zB hb); have n1_ := Aside0.mk (hbox); have n2_ := Aside0.mk ((by rw [hg]; exact (below_size zB) : w.heap.size ≤ gb442)); have n3_ := Aside0.mk ((by rw [hg]; exact (below_size zB) : w.heap.size ≤ gb442)); clear HB; have HB := n0_; have BK442 := n1_; have GW442 := n2_; have GE442 := n3_; clear n0_ n1_ n2_ n3_; clear hb hbox hg; have hcz21_0 : w20.cell? ⟨gb442, 0, none⟩ = some (.int .i64 a0_0) := (blk_cell BK442.out 0).trans rfl; have hcz21_1 : w20.cell? ⟨gb442, 1, none⟩ = some (.string a0_1) := (blk_cell BK442.out 1).trans rfl; have hfz21_0 := blk_frozen BK442.out 0; have hfz21_1 := blk_frozen BK442.out 1) | ((with_reducible refine gate_callee (f := 47) rfl ?_); refine goesL_ (some 13) rfl rfl Try.func47 (by kernel_rfl) rfl #[.agg #[.int .i64 a0_0, .string a0_1]] rfl zM ?_; (with_reducible refine (impl_orderOf.calls k a0_0 a0_1 t443 true _ A5.out).mono ?_); rintro e w22 ⟨v444, rfl, ho0, hb⟩; refine ⟨_, rfl, ?_⟩; have n0_ := Aside0.mk (Kd.R_lower ho0 (below_size (zG GE442.out))); have n1_ := Aside0.mk (blk_below (g := gb442) (o := .cells #[.int .i64 a0_0, .string a0_1] 27 (0, 0)) (zK BK442.out) hb); have n2_ := Aside0.mk (below_step (zG GE442.out) hb); clear BK442; clear HB; have HO445 := n0_; have BK442 := n1_; have HB := n2_; clear n0_ n1_ n2_; (try clear hb); (try clear hb2); (try clear hk); (try clear hi); (try clear ho0); have hcz23_0 : w22.cell? ⟨gb442, 0, none⟩ = some (.int .i64 a0_0) := (blk_cell BK442.out 0).trans rfl; have hcz23_1 : w22.cell? ⟨gb442, 1, none⟩ = some (.string a0_1) := (blk_cell BK442.out 1).trans rfl; have hfz23_0 := blk_frozen BK442.out 0; have hfz23_1 := blk_frozen BK442.out 1) | ((with_reducible refine gate_dst (N := 24) rfl ?_); (try (refine gate_guard (by rfl) ?_; dsimp only)); refine Kd.R_lit (Kd.int .i64) _ 3 ?hg (N := 24) ?hd (xs := ([a1, a2, a3] : List Int)) (inner := [.int .i64 a1, .int .i64 a2, .int .i64 a3]) (ok := fun _ => True) (okp := fun _ => True) ?hr ?hp (fun _ hk => hk) trivial (Below.refl _ _) (Nat.le_refl _) (by simp) ?_; (case hd => rfl); (case hg => rfl); (case hr => first | (go_simp; done) | (go_simp; rfl)); (case hp => exact (Reps.one (show Kd.M (Kd.int .i64) _ _ _ a1 [.int .i64 a1] from rfl) (Reps.one (show Kd.M (Kd.int .i64) _ _ _ a2 [.int .i64 a2] from rfl) (Reps.one (show Kd.M (Kd.int .i64) _ _ _ a3 [.int .i64 a3] from rfl) (Reps.none _ _))))); intro v448 w24 ho25 hb hg_ hnew_; clear hg_ hnew_; (first | rw [← Ny447.out] at ho25 | (simp only [Int.reduceToNat] at ho25; rw [← Ny447.out] at ho25)); have n0_ := Aside0.mk (Kd.R_below (zR HO445.out) hb); have n1_ := Aside0.mk (Kd.R_lower ho25 (below_size (zG GE442.out))); have n2_ := Aside0.mk (blk_below (g := gb442) (o := .cells #[.int .i64 a0_0, .string a0_1] 27 (0, 0)) (zK BK442.out) hb); have n3_ := Aside0.mk (below_step (zG GE442.out) hb); clear HO445; clear BK442; clear HB; have HO445 := n0_; have HO449 := n1_; have BK442 := n2_; have HB := n3_; clear n0_ n1_ n2_ n3_; clear hb ho25; obtain ⟨Ao26, co26, eo26⟩ := Kd.R_slice HO449.out; subst eo26) | (go_at_call 48; (with_reducible refine (impl_areDifferent.calls k a0_0 _ _ y447 false _ ?side1 ?side2 A7.out).mono ?_); (case side1 => repeat (first | exact (Kd.R_reads' HO449.out).2.2 | (with_reducible refine Kd.C_alloc ?_ _) | (with_reducible refine Kd.C_drewN ?_ _) | (with_reducible refine Kd.C_drew ?_))); (case side2 => exact (Kd.R_reads' HO449.out).2.1); rintro e w' ⟨rfl, ⟨nd, rfl⟩⟩))
   go_ret
   exact ⟨zE, zG GE442.out⟩
 ·replace c6 := Bool.eq_false_iff.mpr c6
  subst c6
  have H1 : (some (-1)) = some r := by rw [if_neg (show ¬ (false = true) by decide)] at H; exact H
  clear H
  have H := H1
  clear H1
  obtain rfl := Option.some.inj H
  go_enter Try.func31, Try.ntmps31
  go_wp2_with (first | ((with_reducible refine gate_dst (N := 4) rfl ?_); (try (refine gate_guard (by rfl) ?_; dsimp only)); refine box_event ?hg (N := 4) ?hd (cs := #[.int .i64 a0_0, .string a0_1]) (t := 27) ?hr ?_; (case hd => rfl); (case hg => rfl); (case hr => first | (go_simp; done) | (go_simp; rfl)); intro gb442 hg w27 hbox hb; have n0_ := Aside0.mk (below_step zB hb); have n1_ := Aside0.mk (hbox); have n2_ := Aside0.mk ((by rw [hg]; exact (below_size zB) : w.heap.size ≤ gb442)); have n3_ := Aside0.mk ((by rw [hg]; exact (below_size zB) : w.heap.size ≤ gb442)); clear HB; have HB := n0_; have BK442 := n1_; have GW442 := n2_; have GE442 := n3_; clear n0_ n1_ n2_ n3_; clear hb hbox hg; have hcz28_0 : w27.cell? ⟨gb442, 0, none⟩ = some (.int .i64 a0_0) := (blk_cell BK442.out 0).trans rfl; have hcz28_1 : w27.cell? ⟨gb442, 1, none⟩ = some (.string a0_1) := (blk_cell BK442.out 1).trans rfl; have hfz28_0 := blk_frozen BK442.out 0; have hfz28_1 := blk_frozen BK442.out 1) | ((with_reducible refine gate_callee (f := 47) rfl ?_); refine goesL_ (some 13) rfl rfl Try.func47 (by kernel_rfl) rfl #[.agg #[.int .i64 a0_0, .string a0_1]] rfl zM ?_; (with_reducible refine (impl_orderOf.calls k a0_0 a0_1 t443 false _ A5.out).mono ?_); rintro e w29 ⟨v444, rfl, ho0, hb⟩; refine ⟨_, rfl, ?_⟩; have n0_ := Aside0.mk (Kd.R_lower ho0 (below_size (zG GE442.out))); have n1_ := Aside0.mk (blk_below (g := gb442) (o := .cells #[.int .i64 a0_0, .string a0_1] 27 (0, 0)) (zK BK442.out) hb); have n2_ := Aside0.mk (below_step (zG GE442.out) hb); clear BK442; clear HB; have HO445 := n0_; have BK442 := n1_; have HB := n2_; clear n0_ n1_ n2_; (try clear hb); (try clear hb2); (try clear hk); (try clear hi); (try clear ho0)))
  go_ret
  exact ⟨zE, zG GE442.out⟩
end Go.Proofs.Ytgnghhelalablaa.PX
namespace Go.Proofs.Ytgnghhelalablaa.M
open Go.RowKit Go.Proofs.YtgnghhelalablaaW.PrintWords Go.Proofs.Ytgnghhelalablaa.PX Go.Proofs.Ytgnghhelalablaa.G
/-- The byte of a sign. -/
def sgC (x : Int) : UInt8 := if x > 0 then 43 else 45
def mkB (l : List UInt8) : ByteArray := ⟨l.toArray⟩
theorem mkB_size (l : List UInt8) : (mkB l).size = l.length := by simp [mkB, ByteArray.size]
theorem mkB_append (l l' : List UInt8) : mkB l ++ mkB l' = mkB (l ++ l') := by
  apply ByteArray.ext
  rw [ByteArray.data_append]
  simp [mkB]
theorem mkB_list (t : ByteArray) : mkB t.data.toList = t := rfl
theorem byte_ev (x : Int) : spec_l3Byte.f x = some (mkB [sgC x]) := by
  unfold spec_l3Byte.f sgC
  split <;> rfl
/-- The bytes of the places (i, j, m), m from k on. -/
def byt (n : Nat) (t : ByteArray) (l : List Nat) (i j k : Nat) : UInt8 := sgC (chi n t (l.getD i 0) (l.getD j 0) (l.getD k 0))
def pk2 (n : Nat) (t : ByteArray) (l : List Nat) (i j k d : Nat) : List UInt8 := (List.range' k d).map fun k => byt n t l i j k
def pk1 (n : Nat) (t : ByteArray) (l : List Nat) (i j d : Nat) : List UInt8 := (List.range' j d).flatMap fun j => pk2 n t l i j (j + 1) (l.length - (j + 1))
def pk0 (n : Nat) (t : ByteArray) (l : List Nat) (i d : Nat) : List UInt8 := (List.range' i d).flatMap fun i => pk1 n t l i (i + 1) (l.length - (i + 1))
theorem pk2_length (n : Nat) (t : ByteArray) (l : List Nat) (i j k d : Nat) : (pk2 n t l i j k d).length = d := by simp [pk2]
theorem pk1_length (n : Nat) (t : ByteArray) (l : List Nat) (hl : l.length ≤ 7) (i : Nat) (d : Nat) : ∀ j, (pk1 n t l i j d).length ≤ 7 * d := by
  induction d with
  | zero => intro j; simp [pk1]
  | succ d ih =>
    intro j
    have e : pk1 n t l i j (d + 1) = pk2 n t l i j (j + 1) (l.length - (j + 1)) ++ pk1 n t l i (j + 1) d := by rw [pk1, List.range'_succ, List.flatMap_cons]; rfl
    have := ih (j + 1)
    rw [e, List.length_append, pk2_length]
    omega
/-- The places of a list's triples in the text, as the tables hold them. -/
def lkL (n : Nat) (l : List Nat) : List (Option (Bool × Nat)) := (List.range' 0 l.length).flatMap fun i => (List.range' (i + 1) (l.length - (i + 1))).flatMap fun j => (List.range' (j + 1) (l.length - (j + 1))).map fun k => lookT (tripN n) 0 (ix3 (l.getD i 0) (l.getD j 0) (l.getD k 0))
def lkB (t : ByteArray) (z : Option (Bool × Nat)) : UInt8 := sgC (match z with | some z => sgv z.1 (sgB t z.2) | none => 0)
theorem pk0_look (n : Nat) (t : ByteArray) (l : List Nat) : pk0 n t l 0 l.length = (lkL n l).map (lkB t) := by
  simp only [pk0, pk1, pk2, lkL, List.map_flatMap, List.map_map]
  rfl
theorem lkB_text {t : ByteArray} (ht : ∀ c ∈ t.data.toList, c = 43 ∨ c = 45) {p : Nat} (hp : p < t.data.toList.length) : lkB t (some (false, p)) = t.data.toList[p] := by
  show sgC (sgB t p) = _
  unfold sgB
  rw [bt_nat hp]
  rcases ht _ (List.getElem_mem hp) with e | e <;> rw [e] <;> rfl
theorem lkB_neg {t : ByteArray} (ht : ∀ c ∈ t.data.toList, c = 43 ∨ c = 45) {p : Nat} (hp : p < t.data.toList.length) : lkB t (some (true, p)) = oppB t.data.toList[p] := by
  show sgC (-sgB t p) = _
  unfold sgB
  rw [bt_nat hp]
  rcases ht _ (List.getElem_mem hp) with e | e <;> rw [e] <;> rfl
end Go.Proofs.Ytgnghhelalablaa.M
namespace Go.Proofs.Ytgnghhelalablaa.M
open Go.RowKit Go.Proofs.YtgnghhelalablaaW.PrintWords Go.Proofs.Ytgnghhelalablaa.PX Go.Proofs.Ytgnghhelalablaa.G
theorem list_ext0 {l l' : List Int} (h : l.length = l'.length) (h' : ∀ x, x < l.length → l.getD x 0 = l'.getD x 0) : l = l' := by
  refine List.ext_getElem h fun x h1 h2 => ?_
  have := h' x h1
  rw [List.getD_eq_getElem?_getD, List.getD_eq_getElem?_getD, List.getElem?_eq_getElem h1, List.getElem?_eq_getElem h2] at this
  exact this
/-- The sign at a cell, out of the signs at the places. -/
def valS (n : Nat) (s : Nat → Int) (x : Nat) : Int := match lookT (tripN n) 0 x with | some z => sgv z.1 (s z.2) | none => 0
/-- The sign of three elements, out of the signs at the places. -/
def chiS (n : Nat) (s : Nat → Int) (a b c : Nat) : Int := valS n s (ix3 a b c)
def tblS (n : Nat) (s : Nat → Int) : List Int := (n : Int) :: (List.range 343).map fun x => valS n s (x + 1)
theorem tblS_length (n : Nat) (s : Nat → Int) : (tblS n s).length = 344 := by simp [tblS]
theorem tblS_getD (n : Nat) (s : Nat → Int) {x : Nat} (h0 : x ≠ 0) (hx : x < 344) : (tblS n s).getD x 0 = valS n s x := by
  obtain ⟨y, rfl⟩ : ∃ y, x = y + 1 := ⟨x - 1, by omega⟩
  rw [tblS, List.getD_cons_succ, List.getD_eq_getElem?_getD, List.getElem?_map, List.getElem?_range (by omega)]
  rfl
theorem tblS_n (n : Nat) (s : Nat → Int) : rd (tblS n s) 0 = n := rfl
theorem tblS_rd (n : Nat) (s : Nat → Int) {a b c : Nat} (ha : a < 7) (hb : b < 7) (hc : c < 7) : rd3 (tblS n s) (a : Int) (b : Int) (c : Int) = chiS n s a b c := by
  have e : rd3 (tblS n s) (a : Int) (b : Int) (c : Int) = (tblS n s).getD (ix3 a b c) 0 := by
    unfold rd3 rd
    have : (1 + (a : Int) * 49 + (b : Int) * 7 + (c : Int)).toNat = ix3 a b c := by unfold ix3; omega
    rw [this]
  rw [e, tblS_getD n s (by unfold ix3; omega) (by unfold ix3; omega)]
  rfl
theorem chi_chiS (n : Nat) (t : ByteArray) (a b c : Nat) : chi n t a b c = chiS n (sgB t) a b c := rfl
theorem tblL_S (n : Nat) (t : ByteArray) : tblL n t = tblS n (sgB t) := by
  refine list_ext0 (by rw [tblL_length, tblS_length]) fun x hx => ?_
  rw [tblL_length] at hx
  by_cases h0 : x = 0
  · subst h0
    exact tbl_n n t
  · rw [tblS_getD n _ h0 hx]
    unfold tblL valS
    rw [foldTbl_getD t _ _ _ _ (by rw [List.length_cons, List.length_replicate]; exact hx)]
    obtain ⟨y, rfl⟩ : ∃ y, x = y + 1 := ⟨x - 1, by omega⟩
    have : ((n : Int) :: List.replicate 343 (0 : Int)).getD (y + 1) 0 = 0 := by
      rw [List.getD_cons_succ, List.getD_eq_getElem?_getD, List.getElem?_replicate]
      split <;> rfl
    rw [this]
    cases lookT (tripN n) 0 (y + 1) <;> rfl
theorem tblS_zero (n : Nat) : (n : Int) :: List.replicate 343 (0 : Int) = tblS n (fun _ => 0) := by
  unfold tblS
  congr 1
  refine List.ext_getElem (by rw [List.length_replicate, List.length_map, List.length_range]) fun x h1 h2 => ?_
  simp only [List.getElem_replicate, List.getElem_map, List.getElem_range, valS]
  cases lookT (tripN n) 0 (x + 1) with
  | none => rfl
  | some z => obtain ⟨b, m⟩ := z; cases b <;> rfl
theorem six_mem {i j k m x : Nat} {z : Bool × Nat} (h : six i j k m x = some z) : z.2 = m := six_snd h
/-- What a cell's place is: the three elements there, in some order. -/
theorem lookT_at (ts : List S67) : ∀ (m0 x : Nat) (z : Bool × Nat), lookT ts m0 x = some z → ∃ p, ∃ h : p < ts.length, z.2 = m0 + p ∧ six ts[p].f0.toNat ts[p].f1.toNat ts[p].f2.toNat (m0 + p) x = some z := by
  induction ts with
  | nil => intro m0 x z h; cases h
  | cons y r ih =>
    intro m0 x z h
    rw [lookT] at h
    cases hr : lookT r (m0 + 1) x with
    | some z' =>
      rw [hr] at h
      cases h
      obtain ⟨p, hp, h1, h2⟩ := ih (m0 + 1) x _ hr
      refine ⟨p + 1, by simp only [List.length_cons]; omega, by omega, ?_⟩
      simp only [List.getElem_cons_succ]
      rw [show m0 + (p + 1) = m0 + 1 + p by omega]
      exact h2
    | none =>
      rw [hr] at h
      have h' : six y.f0.toNat y.f1.toNat y.f2.toNat m0 x = some z := h
      exact ⟨0, by simp, by rw [six_snd h']; rfl, h'⟩
def idx6 (a b c : Nat) : List Nat := [ix3 b a c, ix3 c b a, ix3 a c b, ix3 c a b, ix3 b c a, ix3 a b c]
theorem six_none {a b c m x : Nat} : six a b c m x = none ↔ x ∉ idx6 a b c := by
  unfold six idx6
  simp only [List.mem_cons, List.not_mem_nil, or_false, not_or]
  constructor
  · intro h
    (repeat' split at h) <;> first | exact ⟨by assumption, by assumption, by assumption, by assumption, by assumption, by assumption⟩ | cases h
  · rintro ⟨h1, h2, h3, h4, h5, h6⟩
    rw [if_neg h1, if_neg h2, if_neg h3, if_neg h4, if_neg h5, if_neg h6]
def tripAt (n p : Nat) : S67 := (tripN n).getD p ⟨0, 0, 0⟩
theorem tripAt_eq {n p : Nat} (h : p < (tripN n).length) : tripAt n p = (tripN n)[p] := by
  unfold tripAt
  rw [List.getD_eq_getElem?_getD, List.getElem?_eq_getElem h]; rfl
def chkP1 (n a b c : Nat) : Bool :=
  match lookT (tripN n) 0 (ix3 a b c) with
  | some (neg, p) => decide (p < (tripN n).length) && (lookT (tripN n) 0 (ix3 b a c) == some (!neg, p)) && (lookT (tripN n) 0 (ix3 c b a) == some (!neg, p)) && (lookT (tripN n) 0 (ix3 a c b) == some (!neg, p)) &&
      (lookT (tripN n) 0 (ix3 c a b) == some (neg, p)) && (lookT (tripN n) 0 (ix3 b c a) == some (neg, p)) &&
      ((idx6 (tripAt n p).f0.toNat (tripAt n p).f1.toNat (tripAt n p).f2.toNat).all fun x => (idx6 a b c).contains x)
  | none => false
def chkP (n : Nat) : Bool := (List.range n).all fun a => (List.range n).all fun b => (List.range n).all fun c => (decide (a = b) || decide (b = c) || decide (a = c)) || chkP1 n a b c
theorem chkP_all {n : Nat} (h0 : 3 ≤ n) (h1 : n ≤ 7) : chkP n = true := by
  refine five (p := fun n => chkP n = true) h0 h1 ?_ ?_ ?_ ?_ ?_ <;> decide +kernel
theorem look_of {n a b c : Nat} (h0 : 3 ≤ n) (h1 : n ≤ 7) (ha : a < n) (hb : b < n) (hc : c < n) (hab : a ≠ b) (hbc : b ≠ c) (hac : a ≠ c) :
    ∃ neg p, lookT (tripN n) 0 (ix3 a b c) = some (neg, p) ∧ p < (tripN n).length ∧ lookT (tripN n) 0 (ix3 b a c) = some (!neg, p) ∧ lookT (tripN n) 0 (ix3 c b a) = some (!neg, p) ∧ lookT (tripN n) 0 (ix3 a c b) = some (!neg, p) ∧
      lookT (tripN n) 0 (ix3 c a b) = some (neg, p) ∧ lookT (tripN n) 0 (ix3 b c a) = some (neg, p) ∧ ∀ x ∈ idx6 (tripAt n p).f0.toNat (tripAt n p).f1.toNat (tripAt n p).f2.toNat, x ∈ idx6 a b c := by
  have h := chkP_all h0 h1
  have h := List.all_eq_true.1 h a (List.mem_range.2 ha)
  have h := List.all_eq_true.1 h b (List.mem_range.2 hb)
  have h := List.all_eq_true.1 h c (List.mem_range.2 hc)
  rw [decide_eq_false hab, decide_eq_false hbc, decide_eq_false hac] at h
  simp only [Bool.or_self, Bool.false_or] at h
  unfold chkP1 at h
  split at h
  · rename_i neg p hp
    simp only [Bool.and_eq_true, decide_eq_true_eq, beq_iff_eq, List.all_eq_true, List.contains_iff_mem] at h
    obtain ⟨⟨⟨⟨⟨⟨g0, g1⟩, g2⟩, g3⟩, g4⟩, g5⟩, g6⟩ := h
    exact ⟨neg, p, hp, g0, g1, g2, g3, g4, g5, g6⟩
  · cases h
def upd (s : Nat → Int) (p : Nat) (v : Int) : Nat → Int := fun q => if q = p then v else s q
theorem upd_self (s : Nat → Int) (p : Nat) (v : Int) : upd s p v p = v := if_pos rfl
theorem upd_ne (s : Nat → Int) {p q : Nat} (v : Int) (h : q ≠ p) : upd s p v q = s q := if_neg h
theorem sgv_sgv (f neg : Bool) (v : Int) : sgv (f ^^ neg) (sgv neg v) = sgv f v := by
  cases f <;> cases neg <;> simp [sgv]
/-- Giving three elements a sign, in any order. -/
theorem set_tblS {n a b c p : Nat} {neg : Bool} (s : Nat → Int) (v : Int) (h0 : 3 ≤ n) (h1 : n ≤ 7) (ha : a < n) (hb : b < n) (hc : c < n) (hab : a ≠ b) (hbc : b ≠ c) (hac : a ≠ c) (hl : lookT (tripN n) 0 (ix3 a b c) = some (neg, p)) :
    set6 (tblS n s) a b c v = tblS n (upd s p (sgv neg v)) := by
  obtain ⟨neg', p', e0, hp, e1, e2, e3, e4, e5, e6⟩ := look_of h0 h1 ha hb hc hab hbc hac
  rw [hl] at e0
  cases e0
  refine list_ext0 (by rw [set6_length, tblS_length, tblS_length]) fun x hx => ?_
  rw [set6_length] at hx
  have hx' := hx
  rw [tblS_length] at hx'
  rw [set6_getD _ _ _ _ 0 _ _ hx]
  have key : ∀ (f : Bool) (y : Nat), y ≠ 0 → y < 344 → lookT (tripN n) 0 y = some (f ^^ neg, p) → sgv f v = (tblS n (upd s p (sgv neg v))).getD y 0 := by
    intro f y hy0 hy hly
    rw [tblS_getD _ _ hy0 hy]
    unfold valS
    rw [hly]
    show _ = sgv (f ^^ neg) (upd s p (sgv neg v) p)
    rw [upd_self, sgv_sgv]
  have nz : ∀ i j k : Nat, ix3 i j k ≠ 0 := fun i j k => by unfold ix3; omega
  cases hs : six a b c 0 x with
  | some z =>
    have hs' := hs
    unfold six at hs'
    split at hs'
    · rename_i e; cases hs'; subst e; exact key true _ (nz _ _ _) hx' (by rw [e1]; cases neg <;> rfl)
    split at hs'
    · rename_i e; cases hs'; subst e; exact key true _ (nz _ _ _) hx' (by rw [e2]; cases neg <;> rfl)
    split at hs'
    · rename_i e; cases hs'; subst e; exact key true _ (nz _ _ _) hx' (by rw [e3]; cases neg <;> rfl)
    split at hs'
    · rename_i e; cases hs'; subst e; exact key false _ (nz _ _ _) hx' (by rw [e4]; cases neg <;> rfl)
    split at hs'
    · rename_i e; cases hs'; subst e; exact key false _ (nz _ _ _) hx' (by rw [e5]; cases neg <;> rfl)
    split at hs'
    · rename_i e; cases hs'; subst e; exact key false _ (nz _ _ _) hx' (by rw [hl]; cases neg <;> rfl)
    · cases hs'
  | none =>
    show (tblS n s).getD x 0 = _
    by_cases hz : x = 0
    · subst hz; rfl
    rw [tblS_getD _ _ hz hx', tblS_getD _ _ hz hx']
    unfold valS
    cases hx0 : lookT (tripN n) 0 x with
    | none => rfl
    | some z =>
      show sgv z.1 (s z.2) = sgv z.1 (upd s p (sgv neg v) z.2)
      rw [upd_ne]
      intro hzp
      obtain ⟨q, hq, g1, g2⟩ := lookT_at (tripN n) 0 x z hx0
      obtain rfl : q = p := by omega
      rw [← tripAt_eq hq] at g2
      refine six_none.1 hs (e6 x ?_)
      refine Classical.byContradiction fun hn => ?_
      rw [six_none.2 hn] at g2
      cases g2
theorem tblS_congr {n : Nat} {s s' : Nat → Int} (h : ∀ p, p < (tripN n).length → s p = s' p) : tblS n s = tblS n s' := by
  unfold tblS
  congr 1
  refine List.map_congr_left fun x _ => ?_
  unfold valS
  cases hx0 : lookT (tripN n) 0 (x + 1) with
  | none => rfl
  | some z =>
    obtain ⟨q, hq, g1, g2⟩ := lookT_at (tripN n) 0 _ z hx0
    show sgv z.1 (s z.2) = sgv z.1 (s' z.2)
    rw [h z.2 (by omega)]
def chkI (n : Nat) : Bool := (List.range (tripN n).length).all fun p => (lookT (tripN n) 0 (ix3 (tripAt n p).f0.toNat (tripAt n p).f1.toNat (tripAt n p).f2.toNat) == some (false, p)) && decide ((tripAt n p).f0 < (tripAt n p).f1) && decide ((tripAt n p).f1 < (tripAt n p).f2) && decide ((tripAt n p).f2 < n) && decide (0 ≤ (tripAt n p).f0)
theorem chkI_all {n : Nat} (h0 : 3 ≤ n) (h1 : n ≤ 7) : (chkI n && decide ((tripN n).length ≤ 35)) = true := by
  refine five (p := fun n => (chkI n && decide ((tripN n).length ≤ 35)) = true) h0 h1 ?_ ?_ ?_ ?_ ?_ <;> decide +kernel
theorem trip_len {n : Nat} (h0 : 3 ≤ n) (h1 : n ≤ 7) : (tripN n).length ≤ 35 := by
  have h := chkI_all h0 h1
  simp only [Bool.and_eq_true, decide_eq_true_eq] at h
  exact h.2
theorem tripN_L {n : Nat} (h0 : 3 ≤ n) (h1 : n ≤ 7) : tripN n = (tripsL n).map fun q => ⟨(q.1 : Int), (q.2.1 : Int), (q.2.2 : Int)⟩ := by
  refine five (p := fun n => tripN n = (tripsL n).map fun q => ⟨(q.1 : Int), (q.2.1 : Int), (q.2.2 : Int)⟩) h0 h1 ?_ ?_ ?_ ?_ ?_ <;> kernel_rfl
/-- The elements at a place: ascending, and their sign is the place's. -/
theorem trip_at {n p : Nat} (h0 : 3 ≤ n) (h1 : n ≤ 7) (hp : p < (tripN n).length) : ∃ a b c : Nat, (tripN n)[p] = ⟨(a : Int), (b : Int), (c : Int)⟩ ∧ a < b ∧ b < c ∧ c < n ∧ lookT (tripN n) 0 (ix3 a b c) = some (false, p) := by
  have h := chkI_all h0 h1
  simp only [Bool.and_eq_true, decide_eq_true_eq] at h
  have h := List.all_eq_true.1 h.1 p (List.mem_range.2 hp)
  simp only [Bool.and_eq_true, decide_eq_true_eq, beq_iff_eq] at h
  obtain ⟨⟨⟨⟨g0, g1⟩, g2⟩, g3⟩, g4⟩ := h
  rw [tripAt_eq hp] at *
  generalize (tripN n)[p] = y at *
  obtain ⟨x0, x1, x2⟩ := y
  simp only at *
  refine ⟨x0.toNat, x1.toNat, x2.toNat, ?_, by omega, by omega, by omega, g0⟩
  rw [Int.toNat_of_nonneg (by omega), Int.toNat_of_nonneg (by omega), Int.toNat_of_nonneg (by omega)]
theorem chiS_at {n p a b c : Nat} {neg : Bool} (s : Nat → Int) (h : lookT (tripN n) 0 (ix3 a b c) = some (neg, p)) : chiS n s a b c = sgv neg (s p) := by
  unfold chiS valS
  rw [h]
/-- The text of a table. -/
def txtS (n : Nat) (s : Nat → Int) : ByteArray := mkB ((List.range (tripN n).length).map fun p => sgC (s p))
theorem foldl_snoc {α β : Type} (f : α → β) (l : List α) : ∀ s : List β, l.foldl (fun s a => s ++ [f a]) s = s ++ l.map f := by
  induction l with
  | nil => intro s; simp
  | cons x l ih => intro s; rw [List.foldl_cons, ih, List.map_cons, List.append_assoc]; rfl
theorem txtS_list (n : Nat) (s : Nat → Int) : (txtS n s).data.toList = (List.range (tripN n).length).map fun p => sgC (s p) := rfl
theorem txtS_congr {n : Nat} {s s' : Nat → Int} (h : ∀ p, p < (tripN n).length → s p = s' p) : txtS n s = txtS n s' := by
  unfold txtS
  congr 1
  refine List.map_congr_left fun p hp => ?_
  rw [h p (List.mem_range.1 hp)]
theorem txtS_ok {n : Nat} (s : Nat → Int) (h0 : 3 ≤ n) (h1 : n ≤ 7) : areOk n (txtS n s) = true := by
  rw [areOk_iff]
  refine ⟨by omega, ?_, fun c hc => ?_⟩
  · rw [← (trip_small h0 h1).2, txtS, mkB_size, List.length_map, List.length_range]
  · rw [txtS_list, List.mem_map] at hc
    obtain ⟨p, _, rfl⟩ := hc
    unfold sgC
    split <;> simp
theorem sgB_txtS {n p : Nat} {s : Nat → Int} (hp : p < (tripN n).length) (hs : s p = 1 ∨ s p = -1) : sgB (txtS n s) p = s p := by
  have hl : p < (txtS n s).data.toList.length := by rw [txtS_list, List.length_map, List.length_range]; exact hp
  unfold sgB
  rw [bt_nat hl]
  have : (txtS n s).data.toList[p] = sgC (s p) := by simp only [txtS_list, List.getElem_map, List.getElem_range]
  rw [this]
  rcases hs with h | h <;> rw [h] <;> rfl
theorem tblL_txtS {n : Nat} {s : Nat → Int} (hs : ∀ p, p < (tripN n).length → s p = 1 ∨ s p = -1) : tblL n (txtS n s) = tblS n s := by
  rw [tblL_S]
  exact tblS_congr fun p hp => sgB_txtS hp (hs p hp)
theorem txtS_sgB {n : Nat} {t : ByteArray} (h : areOk n t = true) : txtS n (sgB t) = t := by
  obtain ⟨⟨h0, h1⟩, h2, ht⟩ := (areOk_iff _ _).1 h
  have hc := (trip_small (n := n) (by omega) (by omega)).2
  rw [size_list] at h2
  have e : (List.range (tripN n).length).map (fun p => sgC (sgB t p)) = t.data.toList := ?_
  · unfold txtS
    rw [e]
    rfl
  refine List.ext_getElem (by rw [List.length_map, List.length_range]; omega) fun p hp1 hp2 => ?_
  simp only [List.getElem_map, List.getElem_range]
  unfold sgB
  rw [bt_nat hp2]
  rcases ht _ (List.getElem_mem hp2) with e | e
  · rw [e]; rfl
  · rw [e]; rfl
theorem chiS_pm {n a b c : Nat} {s : Nat → Int} (h0 : 3 ≤ n) (h1 : n ≤ 7) (hs : ∀ p, p < (tripN n).length → s p = 1 ∨ s p = -1) (ha : a < n) (hb : b < n) (hc : c < n) (hab : a ≠ b) (hbc : b ≠ c) (hac : a ≠ c) : chiS n s a b c = 1 ∨ chiS n s a b c = -1 := by
  obtain ⟨neg, p, e0, hp, _⟩ := look_of h0 h1 ha hb hc hab hbc hac
  rw [chiS_at s e0]
  rcases hs p hp with e | e <;> rw [e] <;> cases neg <;> simp [sgv]
theorem chi_txtS {n a b c : Nat} {s : Nat → Int} (hs : ∀ p, p < (tripN n).length → s p = 1 ∨ s p = -1) : chi n (txtS n s) a b c = chiS n s a b c := by
  rw [chi_chiS]
  unfold chiS valS
  cases hx0 : lookT (tripN n) 0 (ix3 a b c) with
  | none => rfl
  | some z =>
    obtain ⟨q, hq, g1, g2⟩ := lookT_at (tripN n) 0 _ z hx0
    show sgv z.1 _ = sgv z.1 _
    have hz : z.2 < (tripN n).length := by omega
    rw [sgB_txtS hz (hs _ hz)]
theorem rd_trip {ts : List S67} {i : Nat} (h : i < ts.length) : rd_T67 ts (i : Int) = ts[i] := by
  unfold rd_T67
  rw [Int.toNat_natCast, List.getD_eq_getElem?_getD, List.getElem?_eq_getElem h]
  rfl
end Go.Proofs.Ytgnghhelalablaa.M
namespace Go.Proofs.Ytgnghhelalablaa.PX
open Go.RowKit Go.Proofs.Ytgnghhelalablaa.G Go.Proofs.YtgnghhelalablaaW.PrintWords Go.Proofs.YtgnghhelalablaaW.PrintLast Go.Proofs.YtgnghhelalablaaW.PrintMore
attribute [local go_sem] max2_int min2_int max_two min_two max_three min_three max_four min_four   -- for this text's walks alone
set_option linter.unusedVariables false
set_option linter.unusedSimpArgs false
/-! ### spec_l1Bit: function 62 -/
def spec_l1Bit.f (a0 : Bool) : Option (Int) := if a0 = true then (some 1) else (some 0)
set_option maxHeartbeats 8000000 in
set_option maxRecDepth 100000 in
theorem spec_l1Bit.calls (a0 : Bool) (r : Int) (w : World) (h : spec_l1Bit.f a0 = some r) :
  Calls Try.prog 62 #[.bool a0] w fun e w' => e = .returned (.int .i64 r) ∧ Drawn0 w w' := by
 have H : (if a0 = true then (some 1) else (some 0)) = some r := h
 clear h
 by_cases c2 : a0 = true
 ·subst c2
  have H1 : (some 1) = some r := by rw [if_pos rfl] at H; exact H
  clear H
  have H := H1
  clear H1
  obtain rfl := Option.some.inj H
  go_enter Try.func62, Try.ntmps62
  go_wp2
  go_ret
  exact ⟨by first | rfl | (simp; done) | (simp [*]; done), by repeat (first | exact Drawn0.refl _ | apply Drawn0.step)⟩
 ·replace c2 := Bool.eq_false_iff.mpr c2
  subst c2
  have H1 : (some 0) = some r := by rw [if_neg (show ¬ (false = true) by decide)] at H; exact H
  clear H
  have H := H1
  clear H1
  obtain rfl := Option.some.inj H
  go_enter Try.func62, Try.ntmps62
  go_wp2
  go_ret
  exact ⟨by first | rfl | (simp; done) | (simp [*]; done), by repeat (first | exact Drawn0.refl _ | apply Drawn0.step)⟩
/-! ### spec_EmptyTriangles: function 32 -/
mutual
def spec_EmptyTriangles.l0 : Nat → Int → Int → Int → ByteArray → Option (Int)
 | 0, _, _, _, _ => none
 | k + 1, x3, x4, x461000, x461001 => if x4 < x461000 then (spec_EmptyTriangles.l1 k x3 x4 (wrap64 (x4 + 1)) x461000 x461001) else (some x3)
def spec_EmptyTriangles.l1 : Nat → Int → Int → Int → Int → ByteArray → Option (Int)
 | 0, _, _, _, _, _ => none
 | k + 1, x3, x4, x5, x461000, x461001 => if x5 < x461000 then (spec_EmptyTriangles.l2 k x3 x4 x5 (wrap64 (x5 + 1)) x461000 x461001) else (spec_EmptyTriangles.l0 k x3 (wrap64 (x4 + 1)) x461000 x461001)
def spec_EmptyTriangles.l2 : Nat → Int → Int → Int → Int → Int → ByteArray → Option (Int)
 | 0, _, _, _, _, _, _ => none
 | k + 1, x3, x4, x5, x6, x461000, x461001 => if x6 < x461000 then ((spec_l5Inside.f k x461000 x461001 x4 x5 x6).bind fun t462 => ((spec_l1Bit.f (t462 == 0)).bind fun t463 => (spec_EmptyTriangles.l2 k (wrap64 (x3 + t463)) x4 x5 (wrap64 (x6 + 1)) x461000 x461001))) else (spec_EmptyTriangles.l1 k x3 x4 (wrap64 (x5 + 1)) x461000 x461001)
end
def spec_EmptyTriangles.f (k : Nat) (a0_0 : Int) (a0_1 : ByteArray) : Option (Int) := (spec_IsAcyclic.f k a0_0 a0_1).bind fun t461 => (if t461 = true then (spec_EmptyTriangles.l0 k 0 0 a0_0 a0_1) else (some (-1)))
theorem spec_EmptyTriangles.mono_l : ∀ k, (∀ y0 y1 y2 y3, LeO (spec_EmptyTriangles.l0 k y0 y1 y2 y3) (spec_EmptyTriangles.l0 (k + 1) y0 y1 y2 y3)) ∧ (∀ y0 y1 y2 y3 y4, LeO (spec_EmptyTriangles.l1 k y0 y1 y2 y3 y4) (spec_EmptyTriangles.l1 (k + 1) y0 y1 y2 y3 y4)) ∧ (∀ y0 y1 y2 y3 y4 y5, LeO (spec_EmptyTriangles.l2 k y0 y1 y2 y3 y4 y5) (spec_EmptyTriangles.l2 (k + 1) y0 y1 y2 y3 y4 y5))
 | 0 => ⟨fun _ _ _ _ r h => by simp [spec_EmptyTriangles.l0] at h, fun _ _ _ _ _ r h => by simp [spec_EmptyTriangles.l1] at h, fun _ _ _ _ _ _ r h => by simp [spec_EmptyTriangles.l2] at h⟩
 | k + 1 => by
  obtain ⟨ih0, ih1, ih2⟩ := spec_EmptyTriangles.mono_l k
  refine ⟨?_, ?_, ?_⟩
  ·intro y0 y1 y2 y3
   unfold spec_EmptyTriangles.l0
   repeat' first
   | (with_reducible exact ih0 _ _ _ _)
   | (with_reducible exact ih1 _ _ _ _ _)
   | (with_reducible exact ih2 _ _ _ _ _ _)
   | (with_reducible exact spec_IsAcyclic.mono _ _ _)
   | (with_reducible exact spec_l5Inside.mono _ _ _ _ _ _)
   | (with_reducible exact LeO.refl _)
   | (with_reducible exact LeO.none _)
   | (with_reducible refine LeO.ite ?_ ?_)
   | (with_reducible refine LeO.bind ?_ (fun _ => ?_))
   | exact ih0 _ _ _ _
   | exact ih1 _ _ _ _ _
   | exact ih2 _ _ _ _ _ _
   | exact spec_IsAcyclic.mono _ _ _
   | exact spec_l5Inside.mono _ _ _ _ _ _
   | exact LeO.none _
   | refine LeO.ite ?_ ?_
   | refine LeO.bind ?_ (fun _ => ?_)
  ·intro y0 y1 y2 y3 y4
   unfold spec_EmptyTriangles.l1
   repeat' first
   | (with_reducible exact ih0 _ _ _ _)
   | (with_reducible exact ih1 _ _ _ _ _)
   | (with_reducible exact ih2 _ _ _ _ _ _)
   | (with_reducible exact spec_IsAcyclic.mono _ _ _)
   | (with_reducible exact spec_l5Inside.mono _ _ _ _ _ _)
   | (with_reducible exact LeO.refl _)
   | (with_reducible exact LeO.none _)
   | (with_reducible refine LeO.ite ?_ ?_)
   | (with_reducible refine LeO.bind ?_ (fun _ => ?_))
   | exact ih0 _ _ _ _
   | exact ih1 _ _ _ _ _
   | exact ih2 _ _ _ _ _ _
   | exact spec_IsAcyclic.mono _ _ _
   | exact spec_l5Inside.mono _ _ _ _ _ _
   | exact LeO.none _
   | refine LeO.ite ?_ ?_
   | refine LeO.bind ?_ (fun _ => ?_)
  ·intro y0 y1 y2 y3 y4 y5
   unfold spec_EmptyTriangles.l2
   repeat' first
   | (with_reducible exact ih0 _ _ _ _)
   | (with_reducible exact ih1 _ _ _ _ _)
   | (with_reducible exact ih2 _ _ _ _ _ _)
   | (with_reducible exact spec_IsAcyclic.mono _ _ _)
   | (with_reducible exact spec_l5Inside.mono _ _ _ _ _ _)
   | (with_reducible exact LeO.refl _)
   | (with_reducible exact LeO.none _)
   | (with_reducible refine LeO.ite ?_ ?_)
   | (with_reducible refine LeO.bind ?_ (fun _ => ?_))
   | exact ih0 _ _ _ _
   | exact ih1 _ _ _ _ _
   | exact ih2 _ _ _ _ _ _
   | exact spec_IsAcyclic.mono _ _ _
   | exact spec_l5Inside.mono _ _ _ _ _ _
   | exact LeO.none _
   | refine LeO.ite ?_ ?_
   | refine LeO.bind ?_ (fun _ => ?_)
theorem spec_EmptyTriangles.mono : ∀ a0 a1 k, LeO (spec_EmptyTriangles.f k a0 a1) (spec_EmptyTriangles.f (k + 1) a0 a1) := by
 intro a0 a1 k
 obtain ⟨ih0, ih1, ih2⟩ := spec_EmptyTriangles.mono_l k
 unfold spec_EmptyTriangles.f
 repeat' first
   | (with_reducible exact ih0 _ _ _ _)
   | (with_reducible exact ih1 _ _ _ _ _)
   | (with_reducible exact ih2 _ _ _ _ _ _)
   | (with_reducible exact spec_IsAcyclic.mono _ _ _)
   | (with_reducible exact spec_l5Inside.mono _ _ _ _ _ _)
   | (with_reducible exact LeO.refl _)
   | (with_reducible exact LeO.none _)
   | (with_reducible refine LeO.ite ?_ ?_)
   | (with_reducible refine LeO.bind ?_ (fun _ => ?_))
   | exact ih0 _ _ _ _
   | exact ih1 _ _ _ _ _
   | exact ih2 _ _ _ _ _ _
   | exact spec_IsAcyclic.mono _ _ _
   | exact spec_l5Inside.mono _ _ _ _ _ _
   | exact LeO.none _
   | refine LeO.ite ?_ ?_
   | refine LeO.bind ?_ (fun _ => ?_)
set_option maxHeartbeats 8000000 in
set_option maxRecDepth 100000 in
theorem spec_EmptyTriangles.calls (k : Nat) (a0_0 : Int) (a0_1 : ByteArray) (r : Int) (w : World) (h : spec_EmptyTriangles.f k a0_0 a0_1 = some r) :
  Calls Try.prog 32 #[.agg #[.int .i64 a0_0, .string a0_1]] w fun e w' => e = .returned (.int .i64 r) ∧ Below w.heap.size w w' := by
 have hu27 := Try.underlying27
 have HB := Aside0.mk (Below.refl w.heap.size w)
 have H : ((spec_IsAcyclic.f k a0_0 a0_1).bind fun t461 => (if t461 = true then (spec_EmptyTriangles.l0 k 0 0 a0_0 a0_1) else (some (-1)))) = some r := h
 clear h
 replace H := Option.bind_eq_some_iff.mp H
 obtain ⟨t461, A20, H⟩ := H
 replace H : (if t461 = true then (spec_EmptyTriangles.l0 k 0 0 a0_0 a0_1) else (some (-1))) = some r := H
 have A2 := Aside0.mk A20
 clear A20
 by_cases c3 : t461 = true
 ·subst c3
  have H1 : (spec_EmptyTriangles.l0 k 0 0 a0_0 a0_1) = some r := by rw [if_pos rfl] at H; exact H
  clear H
  have H := H1
  clear H1
  have H' := Aside0.mk H
  clear H
  go_enter Try.func32, Try.ntmps32
  go_wp2_with (first | ((with_reducible refine gate_dst (N := 1) rfl ?_); refine box_event ?hg (N := 1) ?hd (cs := #[.int .i64 a0_0, .string a0_1]) (t := 27) ?hr ?_; (case hd => rfl); (case hg => rfl); (case hr => first | (go_simp; done) | (go_simp; rfl)); intro gb460 hg w4 hbox hb; have n0_ := Aside0.mk (below_step zB hb); have n1_ := Aside0.mk (hbox); have n2_ := Aside0.mk ((by rw [hg]; exact (below_size zB) : w.heap.size ≤ gb460)); have n3_ := Aside0.mk ((by rw [hg]; exact (below_size zB) : w.heap.size ≤ gb460)); clear HB; have HB := n0_; have BK460 := n1_; have GW460 := n2_; have GE460 := n3_; clear n0_ n1_ n2_ n3_; clear hb hbox hg; have hcz5_0 : w4.cell? ⟨gb460, 0, none⟩ = some (.int .i64 a0_0) := (blk_cell BK460.out 0).trans rfl; have hcz5_1 : w4.cell? ⟨gb460, 1, none⟩ = some (.string a0_1) := (blk_cell BK460.out 1).trans rfl; have hfz5_0 := blk_frozen BK460.out 0; have hfz5_1 := blk_frozen BK460.out 1) | ((with_reducible refine gate_callee (f := 44) rfl ?_); refine goesL_ (some 8) rfl rfl Try.func44 (by kernel_rfl) rfl #[.agg #[.int .i64 a0_0, .string a0_1]] rfl zM ?_; (with_reducible refine (spec_IsAcyclic.calls k a0_0 a0_1 true _ A2.out).mono ?_); rintro e w6 ⟨rfl, hb⟩; refine ⟨_, rfl, ?_⟩; have n0_ := Aside0.mk (blk_below (g := gb460) (o := .cells #[.int .i64 a0_0, .string a0_1] 27 (0, 0)) (zK BK460.out) hb); have n1_ := Aside0.mk (below_step (zG GE460.out) hb); clear BK460; clear HB; have BK460 := n0_; have HB := n1_; clear n0_ n1_; (try clear hb); (try clear hb2); (try clear hk); (try clear hi)))
  go_loopg [3, 4] k (fun kq v3 v4 w' => ∃ (x3_1 : Int) (x4_1 : Int), v3 = .int .i64 x3_1 ∧ v4 = .int .i64 x4_1 ∧ Aside0 (spec_EmptyTriangles.l0 kq x3_1 x4_1 a0_0 a0_1 = some r) ∧ Aside0 (kq ≤ k) ∧ Aside0 (w'.heap[gb460]? = some (.cells #[.int .i64 a0_0, .string a0_1] 27 (0, 0))) ∧ Aside0 (Below w.heap.size w w'))
  case atStart => exact ⟨(0), (0), zF, zF, H', ⟨Nat.le_refl _⟩, ⟨zK BK460.out⟩, ⟨zG GE460.out⟩⟩
  case round =>
   clear H'
   try clear p2
   try clear c3
   try clear c4
   try clear hcz5_0
   try clear hcz5_1
   try clear hfz5_0
   try clear hfz5_1
   obtain ⟨x3_1, x4_1, rfl, rfl, HA, HK1, BK460, HB⟩ := hrel
   cases gk with
   | zero => exact absurd HA.out (by simp [spec_EmptyTriangles.l0])
   | succ k1 =>
    have H := HA.out
    clear HA
    simp only [spec_EmptyTriangles.l0] at H
    by_cases c7 : x4_1 < a0_0
    ·rw [if_pos c7] at H
     have c7b0 : decide (x4_1 < a0_0) = true := decide_eq_true c7
     clear c7
     have H' := Aside0.mk H
     clear H
     have hcz8_0 : wr.cell? ⟨gb460, 0, none⟩ = some (.int .i64 a0_0) := (blk_cell BK460.out 0).trans rfl
     have hcz8_1 : wr.cell? ⟨gb460, 1, none⟩ = some (.string a0_1) := (blk_cell BK460.out 1).trans rfl
     have hfz8_0 := blk_frozen BK460.out 0
     have hfz8_1 := blk_frozen BK460.out 1
     go_wp2
     go_loopg [3, 5] k1 (fun kq v3 v5 w' => ∃ (x3_2 : Int) (x5_2 : Int), v3 = .int .i64 x3_2 ∧ v5 = .int .i64 x5_2 ∧ Aside0 (spec_EmptyTriangles.l1 kq x3_2 x4_1 x5_2 a0_0 a0_1 = some r) ∧ Aside0 (kq ≤ k1) ∧ Aside0 (w'.heap[gb460]? = some (.cells #[.int .i64 a0_0, .string a0_1] 27 (0, 0))) ∧ Aside0 (Below w.heap.size w w'))
     case atStart => exact ⟨(x3_1), (wrap64 (x4_1 + 1)), zF, zF, H', ⟨Nat.le_refl _⟩, ⟨zK BK460.out⟩, ⟨zG GE460.out⟩⟩
     case round =>
      clear H'
      try clear p2
      try clear c3
      try clear c4
      try clear p6
      try clear c7
      try clear c7b0
      try clear hcz5_0
      try clear hcz5_1
      try clear hcz8_0
      try clear hcz8_1
      try clear hfz5_0
      try clear hfz5_1
      try clear hfz8_0
      try clear hfz8_1
      try clear p2
      obtain ⟨x3_2, x5_2, rfl, rfl, HA, HK2, BK460, HB⟩ := hrel
      cases gk with
      | zero => exact absurd HA.out (by simp [spec_EmptyTriangles.l1])
      | succ k2 =>
       have H := HA.out
       clear HA
       simp only [spec_EmptyTriangles.l1] at H
       by_cases c9 : x5_2 < a0_0
       ·rw [if_pos c9] at H
        have c9b0 : decide (x5_2 < a0_0) = true := decide_eq_true c9
        clear c9
        have H' := Aside0.mk H
        clear H
        have hcz10_0 : wr.cell? ⟨gb460, 0, none⟩ = some (.int .i64 a0_0) := (blk_cell BK460.out 0).trans rfl
        have hcz10_1 : wr.cell? ⟨gb460, 1, none⟩ = some (.string a0_1) := (blk_cell BK460.out 1).trans rfl
        have hfz10_0 := blk_frozen BK460.out 0
        have hfz10_1 := blk_frozen BK460.out 1
        go_wp2
        go_loopg [3, 6] k2 (fun kq v3 v6 w' => ∃ (x3_3 : Int) (x6_3 : Int), v3 = .int .i64 x3_3 ∧ v6 = .int .i64 x6_3 ∧ Aside0 (spec_EmptyTriangles.l2 kq x3_3 x4_1 x5_2 x6_3 a0_0 a0_1 = some r) ∧ Aside0 (kq ≤ k2) ∧ Aside0 (w'.heap[gb460]? = some (.cells #[.int .i64 a0_0, .string a0_1] 27 (0, 0))) ∧ Aside0 (Below w.heap.size w w'))
        case atStart => exact ⟨(x3_2), (wrap64 (x5_2 + 1)), zF, zF, H', ⟨Nat.le_refl _⟩, ⟨zK BK460.out⟩, ⟨zG GE460.out⟩⟩
        case round =>
         clear H'
         try clear p2
         try clear c3
         try clear c4
         try clear p6
         try clear c7
         try clear c7b0
         try clear c9
         try clear c9b0
         try clear hcz10_0
         try clear hcz10_1
         try clear hcz5_0
         try clear hcz5_1
         try clear hcz8_0
         try clear hcz8_1
         try clear hfz10_0
         try clear hfz10_1
         try clear hfz5_0
         try clear hfz5_1
         try clear hfz8_0
         try clear hfz8_1
         try clear p2
         try clear p6
         obtain ⟨x3_3, x6_3, rfl, rfl, HA, HK3, BK460, HB⟩ := hrel
         cases gk with
         | zero => exact absurd HA.out (by simp [spec_EmptyTriangles.l2])
         | succ k3 =>
          have H := HA.out
          clear HA
          simp only [spec_EmptyTriangles.l2] at H
          by_cases c11 : x6_3 < a0_0
          ·rw [if_pos c11] at H
           have c11b0 : decide (x6_3 < a0_0) = true := decide_eq_true c11
           clear c11
           replace H := Option.bind_eq_some_iff.mp H
           obtain ⟨t462, A120, H⟩ := H
           replace H : ((spec_l1Bit.f (t462 == 0)).bind fun t463 => (spec_EmptyTriangles.l2 k3 (wrap64 (x3_3 + t463)) x4_1 x5_2 (wrap64 (x6_3 + 1)) a0_0 a0_1)) = some r := H
           have A12 := Aside0.mk A120
           clear A120
           replace H := Option.bind_eq_some_iff.mp H
           obtain ⟨t463, A130, H⟩ := H
           replace H : (spec_EmptyTriangles.l2 k3 (wrap64 (x3_3 + t463)) x4_1 x5_2 (wrap64 (x6_3 + 1)) a0_0 a0_1) = some r := H
           have A13 := Aside0.mk A130
           clear A130
           have H' := Aside0.mk H
           clear H
           have hcz14_0 : wr.cell? ⟨gb460, 0, none⟩ = some (.int .i64 a0_0) := (blk_cell BK460.out 0).trans rfl
           have hcz14_1 : wr.cell? ⟨gb460, 1, none⟩ = some (.string a0_1) := (blk_cell BK460.out 1).trans rfl
           have hfz14_0 := blk_frozen BK460.out 0
           have hfz14_1 := blk_frozen BK460.out 1
           go_wp2_with (first | ((with_reducible refine gate_callee (f := 60) rfl ?_); refine goesL_ (some 37) rfl rfl Try.func60 (by kernel_rfl) rfl #[.agg #[.int .i64 a0_0, .string a0_1], .int .i64 x4_1, .int .i64 x5_2, .int .i64 x6_3] rfl zM ?_; (with_reducible refine (spec_l5Inside.calls k3 a0_0 a0_1 x4_1 x5_2 x6_3 t462 _ A12.out).mono ?_); rintro e w15 ⟨rfl, hb⟩; refine ⟨_, rfl, ?_⟩; have n0_ := Aside0.mk (blk_below (g := gb460) (o := .cells #[.int .i64 a0_0, .string a0_1] 27 (0, 0)) (zK BK460.out) hb); have n1_ := Aside0.mk (below_step (zG GE460.out) hb); clear BK460; clear HB; have BK460 := n0_; have HB := n1_; clear n0_ n1_; (try clear hb); (try clear hb2); (try clear hk); (try clear hi)) | ((with_reducible refine gate_callee (f := 62) rfl ?_); refine goesL_ (some 39) rfl rfl Try.func62 (by kernel_rfl) rfl #[.bool (t462 == 0)] rfl zM ?_; (with_reducible refine (spec_l1Bit.calls (t462 == 0) t463 _ A13.out).mono ?_); rintro e w' ⟨rfl, ⟨nd, rfl⟩⟩; refine ⟨_, rfl, ?_⟩))
           go_roundg k3
           case measure => have := HK1.out; have := HK2.out; have := HK3.out; omega
           case rel => exact ⟨(wrap64 (x3_3 + t463)), (wrap64 (x6_3 + 1)), zF, zF, H', ⟨by have := HK1.out; have := HK2.out; have := HK3.out; omega⟩, ⟨zK BK460.out⟩, ⟨zG GE460.out⟩⟩
          ·rw [if_neg c11] at H
           have c11b0 : decide (x6_3 < a0_0) = false := decide_eq_false c11
           clear c11
           have H' := Aside0.mk H
           clear H
           have hcz16_0 : wr.cell? ⟨gb460, 0, none⟩ = some (.int .i64 a0_0) := (blk_cell BK460.out 0).trans rfl
           have hcz16_1 : wr.cell? ⟨gb460, 1, none⟩ = some (.string a0_1) := (blk_cell BK460.out 1).trans rfl
           have hfz16_0 := blk_frozen BK460.out 0
           have hfz16_1 := blk_frozen BK460.out 1
           go_wp2
           go_roundg k3
           case measure => have := HK1.out; have := HK2.out; have := HK3.out; omega
           case rel => exact ⟨(x3_3), (wrap64 (x5_2 + 1)), zF, zF, H', ⟨by have := HK1.out; have := HK2.out; have := HK3.out; omega⟩, ⟨zK BK460.out⟩, ⟨zG GE460.out⟩⟩
       ·rw [if_neg c9] at H
        have c9b0 : decide (x5_2 < a0_0) = false := decide_eq_false c9
        clear c9
        have H' := Aside0.mk H
        clear H
        have hcz17_0 : wr.cell? ⟨gb460, 0, none⟩ = some (.int .i64 a0_0) := (blk_cell BK460.out 0).trans rfl
        have hcz17_1 : wr.cell? ⟨gb460, 1, none⟩ = some (.string a0_1) := (blk_cell BK460.out 1).trans rfl
        have hfz17_0 := blk_frozen BK460.out 0
        have hfz17_1 := blk_frozen BK460.out 1
        go_wp2
        go_roundg k2
        case measure => have := HK1.out; have := HK2.out; omega
        case rel => exact ⟨(x3_2), (wrap64 (x4_1 + 1)), zF, zF, H', ⟨by have := HK1.out; have := HK2.out; omega⟩, ⟨zK BK460.out⟩, ⟨zG GE460.out⟩⟩
    ·rw [if_neg c7] at H
     have c7b0 : decide (x4_1 < a0_0) = false := decide_eq_false c7
     clear c7
     obtain rfl := Option.some.inj H
     have hcz18_0 : wr.cell? ⟨gb460, 0, none⟩ = some (.int .i64 a0_0) := (blk_cell BK460.out 0).trans rfl
     have hcz18_1 : wr.cell? ⟨gb460, 1, none⟩ = some (.string a0_1) := (blk_cell BK460.out 1).trans rfl
     have hfz18_0 := blk_frozen BK460.out 0
     have hfz18_1 := blk_frozen BK460.out 1
     go_wp2
     go_ret
     exact ⟨zE, zG GE460.out⟩
 ·replace c3 := Bool.eq_false_iff.mpr c3
  subst c3
  have H1 : (some (-1)) = some r := by rw [if_neg (show ¬ (false = true) by decide)] at H; exact H
  clear H
  have H := H1
  clear H1
  obtain rfl := Option.some.inj H
  go_enter Try.func32, Try.ntmps32
  go_wp2_with (first | ((with_reducible refine gate_dst (N := 1) rfl ?_); refine box_event ?hg (N := 1) ?hd (cs := #[.int .i64 a0_0, .string a0_1]) (t := 27) ?hr ?_; (case hd => rfl); (case hg => rfl); (case hr => first | (go_simp; done) | (go_simp; rfl)); intro gb460 hg w19 hbox hb; have n0_ := Aside0.mk (below_step zB hb); have n1_ := Aside0.mk (hbox); have n2_ := Aside0.mk ((by rw [hg]; exact (below_size zB) : w.heap.size ≤ gb460)); have n3_ := Aside0.mk ((by rw [hg]; exact (below_size zB) : w.heap.size ≤ gb460)); clear HB; have HB := n0_; have BK460 := n1_; have GW460 := n2_; have GE460 := n3_; clear n0_ n1_ n2_ n3_; clear hb hbox hg; have hcz20_0 : w19.cell? ⟨gb460, 0, none⟩ = some (.int .i64 a0_0) := (blk_cell BK460.out 0).trans rfl; have hcz20_1 : w19.cell? ⟨gb460, 1, none⟩ = some (.string a0_1) := (blk_cell BK460.out 1).trans rfl; have hfz20_0 := blk_frozen BK460.out 0; have hfz20_1 := blk_frozen BK460.out 1) | ((with_reducible refine gate_callee (f := 44) rfl ?_); refine goesL_ (some 8) rfl rfl Try.func44 (by kernel_rfl) rfl #[.agg #[.int .i64 a0_0, .string a0_1]] rfl zM ?_; (with_reducible refine (spec_IsAcyclic.calls k a0_0 a0_1 false _ A2.out).mono ?_); rintro e w21 ⟨rfl, hb⟩; refine ⟨_, rfl, ?_⟩; have n0_ := Aside0.mk (blk_below (g := gb460) (o := .cells #[.int .i64 a0_0, .string a0_1] 27 (0, 0)) (zK BK460.out) hb); have n1_ := Aside0.mk (below_step (zG GE460.out) hb); clear BK460; clear HB; have BK460 := n0_; have HB := n1_; clear n0_ n1_; (try clear hb); (try clear hb2); (try clear hk); (try clear hi)))
  go_ret
  exact ⟨zE, zG GE460.out⟩
/-! ### impl_EmptyTriangles: function 33 -/
def impl_EmptyTriangles.l0 : Nat → List Int → Int → List (S67) → Int → Int → Option (Int)
 | 0, _, _, _, _, _ => none
 | k + 1, x3, x5, x17, x18, x19 => if x19 < x18 then (if 0 ≤ x19 then (if x19 < (x17.length : Int) then (if x3.length = 344 then ((impl_chi_countInside.f k x3 ((rd_T67 x17 x19).f0) ((rd_T67 x17 x19).f1) ((rd_T67 x17 x19).f2)).bind fun t474 => (if t474 = 0 then (impl_EmptyTriangles.l0 k x3 (wrap64 (x5 + 1)) x17 x18 (wrap64 (x19 + 1))) else (impl_EmptyTriangles.l0 k x3 x5 x17 x18 (wrap64 (x19 + 1))))) else (none)) else (none)) else (none)) else (some x5)
def impl_EmptyTriangles.f (k : Nat) (a0_0 : Int) (a0_1 : ByteArray) : Option (Int) := (impl_orderOf.f k a0_0 a0_1).bind fun bt465 => (if bt465.2 = true then ((impl_triplesOf.f k a0_0).bind fun t469 => (impl_EmptyTriangles.l0 k bt465.1 0 t469 (t469.length : Int) 0)) else (some (-1)))
theorem impl_EmptyTriangles.mono_l : ∀ k, (∀ y0 y1 y2 y3 y4, LeO (impl_EmptyTriangles.l0 k y0 y1 y2 y3 y4) (impl_EmptyTriangles.l0 (k + 1) y0 y1 y2 y3 y4))
 | 0 => fun _ _ _ _ _ r h => by simp [impl_EmptyTriangles.l0] at h
 | k + 1 => by
  have ih0 := impl_EmptyTriangles.mono_l k
  ·intro y0 y1 y2 y3 y4
   unfold impl_EmptyTriangles.l0
   repeat' first
   | (with_reducible exact ih0 _ _ _ _ _)
   | (with_reducible exact impl_chi_countInside.mono _ _ _ _ _)
   | (with_reducible exact impl_orderOf.mono _ _ _)
   | (with_reducible exact impl_triplesOf.mono _ _)
   | (with_reducible exact LeO.refl _)
   | (with_reducible exact LeO.none _)
   | (with_reducible refine LeO.ite ?_ ?_)
   | (with_reducible refine LeO.bind ?_ (fun _ => ?_))
   | exact ih0 _ _ _ _ _
   | exact impl_chi_countInside.mono _ _ _ _ _
   | exact impl_orderOf.mono _ _ _
   | exact impl_triplesOf.mono _ _
   | exact LeO.none _
   | refine LeO.ite ?_ ?_
   | refine LeO.bind ?_ (fun _ => ?_)
theorem impl_EmptyTriangles.mono : ∀ a0 a1 k, LeO (impl_EmptyTriangles.f k a0 a1) (impl_EmptyTriangles.f (k + 1) a0 a1) := by
 intro a0 a1 k
 have ih0 := impl_EmptyTriangles.mono_l k
 unfold impl_EmptyTriangles.f
 repeat' first
   | (with_reducible exact ih0 _ _ _ _ _)
   | (with_reducible exact impl_chi_countInside.mono _ _ _ _ _)
   | (with_reducible exact impl_orderOf.mono _ _ _)
   | (with_reducible exact impl_triplesOf.mono _ _)
   | (with_reducible exact LeO.refl _)
   | (with_reducible exact LeO.none _)
   | (with_reducible refine LeO.ite ?_ ?_)
   | (with_reducible refine LeO.bind ?_ (fun _ => ?_))
   | exact ih0 _ _ _ _ _
   | exact impl_chi_countInside.mono _ _ _ _ _
   | exact impl_orderOf.mono _ _ _
   | exact impl_triplesOf.mono _ _
   | exact LeO.none _
   | refine LeO.ite ?_ ?_
   | refine LeO.bind ?_ (fun _ => ?_)
set_option maxHeartbeats 8000000 in
set_option maxRecDepth 100000 in
theorem impl_EmptyTriangles.calls (k : Nat) (a0_0 : Int) (a0_1 : ByteArray) (r : Int) (w : World) (h : impl_EmptyTriangles.f k a0_0 a0_1 = some r) :
  Calls Try.prog 33 #[.agg #[.int .i64 a0_0, .string a0_1]] w fun e w' => e = .returned (.int .i64 r) ∧ Below w.heap.size w w' := by
 have hu27 := Try.underlying27
 have hu67 := Try.underlying67
 have HB := Aside0.mk (Below.refl w.heap.size w)
 have H : ((impl_orderOf.f k a0_0 a0_1).bind fun bt465 => (if bt465.2 = true then ((impl_triplesOf.f k a0_0).bind fun t469 => (impl_EmptyTriangles.l0 k bt465.1 0 t469 (t469.length : Int) 0)) else (some (-1)))) = some r := h
 clear h
 replace H := Option.bind_eq_some_iff.mp H
 obtain ⟨⟨t465, t468⟩, A20, H⟩ := H
 replace H : (if t468 = true then ((impl_triplesOf.f k a0_0).bind fun t469 => (impl_EmptyTriangles.l0 k t465 0 t469 (t469.length : Int) 0)) else (some (-1))) = some r := H
 have A2 := Aside0.mk A20
 clear A20
 by_cases c3 : t468 = true
 ·subst c3
  have H1 : ((impl_triplesOf.f k a0_0).bind fun t469 => (impl_EmptyTriangles.l0 k t465 0 t469 (t469.length : Int) 0)) = some r := by rw [if_pos rfl] at H; exact H
  clear H
  have H := H1
  clear H1
  replace H := Option.bind_eq_some_iff.mp H
  obtain ⟨t469, A40, H⟩ := H
  replace H : (impl_EmptyTriangles.l0 k t465 0 t469 (t469.length : Int) 0) = some r := H
  have A4 := Aside0.mk A40
  clear A40
  have H' := Aside0.mk H
  clear H
  go_enter Try.func33, Try.ntmps33
  go_wp2_with (first | ((with_reducible refine gate_dst (N := 1) rfl ?_); refine box_event ?hg (N := 1) ?hd (cs := #[.int .i64 a0_0, .string a0_1]) (t := 27) ?hr ?_; (case hd => rfl); (case hg => rfl); (case hr => first | (go_simp; done) | (go_simp; rfl)); intro gb464 hg w5 hbox hb; have n0_ := Aside0.mk (below_step zB hb); have n1_ := Aside0.mk (hbox); have n2_ := Aside0.mk ((by rw [hg]; exact (below_size zB) : w.heap.size ≤ gb464)); have n3_ := Aside0.mk ((by rw [hg]; exact (below_size zB) : w.heap.size ≤ gb464)); clear HB; have HB := n0_; have BK464 := n1_; have GW464 := n2_; have GE464 := n3_; clear n0_ n1_ n2_ n3_; clear hb hbox hg; have hcz6_0 : w5.cell? ⟨gb464, 0, none⟩ = some (.int .i64 a0_0) := (blk_cell BK464.out 0).trans rfl; have hcz6_1 : w5.cell? ⟨gb464, 1, none⟩ = some (.string a0_1) := (blk_cell BK464.out 1).trans rfl; have hfz6_0 := blk_frozen BK464.out 0; have hfz6_1 := blk_frozen BK464.out 1) | ((with_reducible refine gate_callee (f := 47) rfl ?_); refine goesL_ (some 10) rfl rfl Try.func47 (by kernel_rfl) rfl #[.agg #[.int .i64 a0_0, .string a0_1]] rfl zM ?_; (with_reducible refine (impl_orderOf.calls k a0_0 a0_1 t465 true _ A2.out).mono ?_); rintro e w7 ⟨v466, rfl, ho0, hb⟩; refine ⟨_, rfl, ?_⟩; have n0_ := Aside0.mk (Kd.R_lower ho0 (below_size (zG GE464.out))); have n1_ := Aside0.mk (blk_below (g := gb464) (o := .cells #[.int .i64 a0_0, .string a0_1] 27 (0, 0)) (zK BK464.out) hb); have n2_ := Aside0.mk (below_step (zG GE464.out) hb); clear BK464; clear HB; have HO467 := n0_; have BK464 := n1_; have HB := n2_; clear n0_ n1_ n2_; (try clear hb); (try clear hb2); (try clear hk); (try clear hi); (try clear ho0); have hcz8_0 : w7.cell? ⟨gb464, 0, none⟩ = some (.int .i64 a0_0) := (blk_cell BK464.out 0).trans rfl; have hcz8_1 : w7.cell? ⟨gb464, 1, none⟩ = some (.string a0_1) := (blk_cell BK464.out 1).trans rfl; have hfz8_0 := blk_frozen BK464.out 0; have hfz8_1 := blk_frozen BK464.out 1) | ((with_reducible refine gate_callee (f := 63) rfl ?_); refine goesL_ (some 17) rfl rfl Try.func63 (by kernel_rfl) rfl #[.int .i64 a0_0] rfl zM ?_; (with_reducible refine (impl_triplesOf.calls k a0_0 t469 _ A4.out).mono ?_); rintro e w9 ⟨v470, rfl, ho0, hb⟩; refine ⟨_, rfl, ?_⟩; have n0_ := Aside0.mk (Kd.R_below (zR HO467.out) hb); have n1_ := Aside0.mk (Kd.R_lower ho0 (below_size (zG GE464.out))); have n2_ := Aside0.mk (blk_below (g := gb464) (o := .cells #[.int .i64 a0_0, .string a0_1] 27 (0, 0)) (zK BK464.out) hb); have n3_ := Aside0.mk (below_step (zG GE464.out) hb); clear HO467; clear BK464; clear HB; have HO467 := n0_; have HO471 := n1_; have BK464 := n2_; have HB := n3_; clear n0_ n1_ n2_ n3_; (try clear hb); (try clear hb2); (try clear hk); (try clear hi); (try clear ho0); obtain ⟨Ao10, co10, eo10⟩ := Kd.R_slice HO471.out; subst eo10))
  go_loopg [5, 19] k (fun kq v5 v19 w' => ∃ (x5_1 : Int) (x19_1 : Int), v5 = .int .i64 x5_1 ∧ v19 = .int .i64 x19_1 ∧ Aside0 (impl_EmptyTriangles.l0 kq t465 x5_1 t469 (t469.length : Int) x19_1 = some r) ∧ Aside0 (kq ≤ k) ∧ Aside0 (Kd.R (Kd.int .i64) 84 w' w.heap.size (fun _ => True) v466 t465) ∧ Aside0 (Kd.R k67 67 w' w.heap.size (fun _ => True) (.slice Ao10 t469.length co10) t469) ∧ Aside0 (w'.heap[gb464]? = some (.cells #[.int .i64 a0_0, .string a0_1] 27 (0, 0))) ∧ Aside0 (Below w.heap.size w w'))
  case atStart => exact ⟨(0), (0), zF, zF, H', ⟨Nat.le_refl _⟩, ⟨zR HO467.out⟩, ⟨zR HO471.out⟩, ⟨zK BK464.out⟩, ⟨zG GE464.out⟩⟩
  case round =>
   clear H'
   try clear p2
   try clear c3
   try clear c4
   try clear c6
   try clear hcz6_0
   try clear hcz6_1
   try clear hcz8_0
   try clear hcz8_1
   try clear hfz6_0
   try clear hfz6_1
   try clear hfz8_0
   try clear hfz8_1
   obtain ⟨x5_1, x19_1, rfl, rfl, HA, HK1, HO_3, HO_17, BK464, HB⟩ := hrel
   cases gk with
   | zero => exact absurd HA.out (by simp [impl_EmptyTriangles.l0])
   | succ k1 =>
    have H := HA.out
    clear HA
    simp only [impl_EmptyTriangles.l0] at H
    by_cases c11 : x19_1 < (t469.length : Int)
    ·rw [if_pos c11] at H
     have c11b0 : decide (x19_1 < (t469.length : Int)) = true := decide_eq_true c11
     clear c11
     by_cases c12 : 0 ≤ x19_1
     ·rw [if_pos c12] at H
      have c12b0 : decide (0 ≤ x19_1) = true := decide_eq_true c12
      clear c12
      by_cases c13 : x19_1 < (t469.length : Int)
      ·rw [if_pos c13] at H
       have c13b0 : decide (x19_1 < (t469.length : Int)) = true := decide_eq_true c13
       clear c13
       by_cases c14 : t465.length = 344
       ·rw [if_pos c14] at H
        have c14b0 := eq_true c14
        have c14b1 : decide (t465.length = 344) = true := decide_eq_true c14
        clear c14
        replace H := Option.bind_eq_some_iff.mp H
        obtain ⟨t474, A150, H⟩ := H
        replace H : (if t474 = 0 then (impl_EmptyTriangles.l0 k1 t465 (wrap64 (x5_1 + 1)) t469 (t469.length : Int) (wrap64 (x19_1 + 1))) else (impl_EmptyTriangles.l0 k1 t465 x5_1 t469 (t469.length : Int) (wrap64 (x19_1 + 1)))) = some r := H
        have A15 := Aside0.mk A150
        clear A150
        by_cases c16 : t474 = 0
        ·rw [if_pos c16] at H
         have c16b0 : (t474 == 0) = true := beq_iff_eq.mpr c16
         have c16b1 : (t474 != 0) = false := bne_eq_false_iff_eq.mpr c16
         clear c16
         have H' := Aside0.mk H
         clear H
         have p472 : 0 ≤ (x19_1 : Int) := zA
         have q472 : x19_1 < (t469.length : Int) := zA
         obtain ⟨ad472, e472, hx472_0, hx472_1, hx472_2⟩ := at_T67 (Kd.R_reads' HO_17.out).2.2 x19_1 p472 q472
         cases e472
         replace p472 := eq_true p472
         replace q472 := eq_true q472
         go_wp2_with (first | ((with_reducible refine gate_dst (N := 7) rfl ?_); refine box_event ?hg (N := 7) ?hd (cs := #[.int .i64 0, .int .i64 0, .int .i64 0]) (t := 67) ?hr ?_; (case hd => rfl); (case hg => rfl); (case hr => first | (go_simp; done) | (go_simp; rfl)); intro gb473 hg w17 hbox hb; have n0_ := Aside0.mk (Kd.R_below (zR HO_3.out) hb); have n1_ := Aside0.mk (Kd.R_below (Kd.R_elderB (zR HO_17.out) gb473 (Nat.le_of_eq hg.symm)) hb); have n2_ := Aside0.mk (blk_below (g := gb464) (o := .cells #[.int .i64 a0_0, .string a0_1] 27 (0, 0)) (zK BK464.out) hb); have n3_ := Aside0.mk (below_step (zG GE464.out) hb); have n4_ := Aside0.mk (hbox); have n5_ := Aside0.mk ((by rw [hg]; exact (below_size (zG GE464.out)) : w.heap.size ≤ gb473)); have n6_ := Aside0.mk ((by rw [hg]; exact (below_size (zG GE464.out)) : w.heap.size ≤ gb473)); have n7_ := Aside0.mk ((by rw [hg]; exact Nat.ne_of_lt (blk_lt (g := gb464) (o := .cells #[.int .i64 a0_0, .string a0_1] 27 (0, 0)) (zK BK464.out)) : gb464 ≠ gb473)); have n8_ := Aside0.mk ((by rw [hg]; exact Nat.ne_of_gt (blk_lt (g := gb464) (o := .cells #[.int .i64 a0_0, .string a0_1] 27 (0, 0)) (zK BK464.out)) : gb473 ≠ gb464)); clear HO_3; clear HO_17; clear BK464; clear HB; have HO_3 := n0_; have HO_17 := n1_; have BK464 := n2_; have HB := n3_; have BK473 := n4_; have GW473 := n5_; have GE473 := n6_; have NB464_473 := n7_; have NB473_464 := n8_; clear n0_ n1_ n2_ n3_ n4_ n5_ n6_ n7_ n8_; clear hb hbox hg; have hnb18 := NB473_464.out; have hnc18 := NB464_473.out; have hcz19_0 : w17.cell? ⟨gb473, 0, none⟩ = some (.int .i64 0) := (blk_cell BK473.out 0).trans rfl; have hcz19_1 : w17.cell? ⟨gb473, 1, none⟩ = some (.int .i64 0) := (blk_cell BK473.out 1).trans rfl; have hcz19_2 : w17.cell? ⟨gb473, 2, none⟩ = some (.int .i64 0) := (blk_cell BK473.out 2).trans rfl; have hfz19_0 := blk_frozen BK473.out 0; have hfz19_1 := blk_frozen BK473.out 1; have hfz19_2 := blk_frozen BK473.out 2; obtain ⟨go20, co20, eo20, gb20, gl20, cl20, HG20⟩ := Kd.R_form HO_3.out (by have hl_ := Nat.le_of_eq (Eq.symm (zA : t465.length = 344)); omega); (first | cases eo20 | (injection eo20 with ea_ en_ ec_; (first | subst ea_ | (injection ea_ with ea_; subst ea_)); subst ec_; clear en_)); have GB20 := Aside0.mk gb20; have GG20 := Aside0.mk HG20; clear gb20 gl20 HG20) | ((with_reducible refine gate_callee (f := 61) rfl ?_); refine goesL_ (some 30) rfl rfl Try.func61 (by kernel_rfl) rfl #[.pointer (some ⟨go20, 0, none⟩), .int .i64 ((rd_T67 t469 x19_1).f0), .int .i64 ((rd_T67 t469 x19_1).f1), .int .i64 ((rd_T67 t469 x19_1).f2)] rfl zM ?_; (with_reducible refine (impl_chi_countInside.calls k1 _ t465 ((rd_T67 t469 x19_1).f0) ((rd_T67 t469 x19_1).f1) ((rd_T67 t469 x19_1).f2) t474 _ ?side1 ?side2 A15.out).mono ?_); (case side1 => refine (Kd.R_reads' (e := 84) (base := w.heap.size) (ok := fun k_ => True) (n := t465.length) (c := co20) ?_).2.2; exact (by (with_reducible repeat (first | apply Kd.R_alloc | apply Kd.R_drewN | apply Kd.R_drew)); exact (Kd.R_mono (Kd.R_far (p := ⟨gb473, 2, none⟩) (Kd.R_far (p := ⟨gb473, 1, none⟩) (Kd.R_far (p := ⟨gb473, 0, none⟩) (Kd.R_types HO_3.out BK473.out (by decide)) (fun _ hk => hk.2) (.int .i64 ((rd_T67 t469 x19_1).f0))) (fun _ hk => hk.2) (.int .i64 ((rd_T67 t469 x19_1).f1))) (fun _ hk => hk.2) (.int .i64 ((rd_T67 t469 x19_1).f2))) (fun _ h_ => h_.1)))); (case side2 => exact (zA : t465.length = 344)); rintro e w21 ⟨rfl, hb⟩; refine ⟨_, rfl, ?_⟩; have n0_ := Aside0.mk (Kd.R_below (by (with_reducible repeat (first | apply Kd.R_alloc | apply Kd.R_drewN | apply Kd.R_drew)); exact (Kd.R_mono (Kd.R_far (p := ⟨gb473, 2, none⟩) (Kd.R_far (p := ⟨gb473, 1, none⟩) (Kd.R_far (p := ⟨gb473, 0, none⟩) (Kd.R_types HO_3.out BK473.out (by decide)) (fun _ hk => hk.2) (.int .i64 ((rd_T67 t469 x19_1).f0))) (fun _ hk => hk.2) (.int .i64 ((rd_T67 t469 x19_1).f1))) (fun _ hk => hk.2) (.int .i64 ((rd_T67 t469 x19_1).f2))) (fun _ h_ => h_.1))) hb); have n1_ := Aside0.mk (Kd.R_below (by (with_reducible repeat (first | apply Kd.R_alloc | apply Kd.R_drewN | apply Kd.R_drew)); exact (Kd.R_mono (Kd.R_far (p := ⟨gb473, 2, none⟩) (Kd.R_far (p := ⟨gb473, 1, none⟩) (Kd.R_far (p := ⟨gb473, 0, none⟩) (Kd.R_mono HO_17.out (fun k_ hk => (⟨hk, hk.2⟩ : _ ∧ k_ ≠ gb473))) (fun _ hk => hk.2) (.int .i64 ((rd_T67 t469 x19_1).f0))) (fun _ hk => hk.2) (.int .i64 ((rd_T67 t469 x19_1).f1))) (fun _ hk => hk.2) (.int .i64 ((rd_T67 t469 x19_1).f2))) (fun _ h_ => h_.1))) hb); have n2_ := Aside0.mk (blk_below (g := gb464) (o := .cells #[.int .i64 a0_0, .string a0_1] 27 (0, 0)) (by (with_reducible repeat (first | refine blk_drewN ?_ _ | refine blk_drew ?_ | refine blk_alloc ?_ _)); refine blk_far ?_ NB464_473.out _; (with_reducible repeat (first | refine blk_drewN ?_ _ | refine blk_drew ?_ | refine blk_alloc ?_ _)); refine blk_far ?_ NB464_473.out _; (with_reducible repeat (first | refine blk_drewN ?_ _ | refine blk_drew ?_ | refine blk_alloc ?_ _)); refine blk_far ?_ NB464_473.out _; (with_reducible repeat (first | refine blk_drewN ?_ _ | refine blk_drew ?_ | refine blk_alloc ?_ _)); exact BK464.out) hb); have n3_ := Aside0.mk (blk_below (g := gb473) (o := .cells #[.int .i64 ((rd_T67 t469 x19_1).f0), .int .i64 ((rd_T67 t469 x19_1).f1), .int .i64 ((rd_T67 t469 x19_1).f2)] 67 (0, 0)) (by (with_reducible repeat (first | refine blk_drewN ?_ _ | refine blk_drew ?_ | refine blk_alloc ?_ _)); refine blk_put (cs := #[.int .i64 ((rd_T67 t469 x19_1).f0), .int .i64 ((rd_T67 t469 x19_1).f1), .int .i64 0]) ?_ 2 _ rfl; (with_reducible repeat (first | refine blk_drewN ?_ _ | refine blk_drew ?_ | refine blk_alloc ?_ _)); refine blk_put (cs := #[.int .i64 ((rd_T67 t469 x19_1).f0), .int .i64 0, .int .i64 0]) ?_ 1 _ rfl; (with_reducible repeat (first | refine blk_drewN ?_ _ | refine blk_drew ?_ | refine blk_alloc ?_ _)); refine blk_put (cs := #[.int .i64 0, .int .i64 0, .int .i64 0]) ?_ 0 _ rfl; (with_reducible repeat (first | refine blk_drewN ?_ _ | refine blk_drew ?_ | refine blk_alloc ?_ _)); exact BK473.out) hb); have n4_ := Aside0.mk (below_step (by repeat (first | (with_reducible first | exact HB.out | apply below_alloc | apply pw_below_drewN | apply below_drew1 | refine below_set ?_ GE464.out | refine below_set ?_ GE473.out) | exact HB.out)) hb); clear HO_3; clear HO_17; clear BK464; clear BK473; clear HB; have HO_3 := n0_; have HO_17 := n1_; have BK464 := n2_; have BK473 := n3_; have HB := n4_; clear n0_ n1_ n2_ n3_ n4_; (try clear hb); (try clear hb2); (try clear hk); (try clear hi)))
         go_roundg k1
         case measure => have := HK1.out; omega
         case rel => exact ⟨(wrap64 (x5_1 + 1)), (wrap64 (x19_1 + 1)), zF, zF, H', ⟨by have := HK1.out; omega⟩, ⟨zR HO_3.out⟩, ⟨by (with_reducible repeat (first | apply Kd.R_alloc | apply Kd.R_drewN | apply Kd.R_drew)); exact Kd.R_mono HO_17.out (fun _ hk => trivial)⟩, ⟨zK BK464.out⟩, ⟨by repeat (first | (with_reducible first | exact HB.out | apply below_alloc | apply pw_below_drewN | apply below_drew1 | refine below_set ?_ GE464.out | refine below_set ?_ GE473.out) | exact HB.out)⟩⟩
        ·rw [if_neg c16] at H
         have c16b0 : (t474 == 0) = false := beq_eq_false_iff_ne.mpr c16
         have c16b1 : (t474 != 0) = true := bne_iff_ne.mpr c16
         have H' := Aside0.mk H
         clear H
         have p472 : 0 ≤ (x19_1 : Int) := zA
         have q472 : x19_1 < (t469.length : Int) := zA
         obtain ⟨ad472, e472, hx472_0, hx472_1, hx472_2⟩ := at_T67 (Kd.R_reads' HO_17.out).2.2 x19_1 p472 q472
         cases e472
         replace p472 := eq_true p472
         replace q472 := eq_true q472
         go_wp2_with (first | ((with_reducible refine gate_dst (N := 7) rfl ?_); refine box_event ?hg (N := 7) ?hd (cs := #[.int .i64 0, .int .i64 0, .int .i64 0]) (t := 67) ?hr ?_; (case hd => rfl); (case hg => rfl); (case hr => first | (go_simp; done) | (go_simp; rfl)); intro gb473 hg w22 hbox hb; have n0_ := Aside0.mk (Kd.R_below (zR HO_3.out) hb); have n1_ := Aside0.mk (Kd.R_below (Kd.R_elderB (zR HO_17.out) gb473 (Nat.le_of_eq hg.symm)) hb); have n2_ := Aside0.mk (blk_below (g := gb464) (o := .cells #[.int .i64 a0_0, .string a0_1] 27 (0, 0)) (zK BK464.out) hb); have n3_ := Aside0.mk (below_step (zG GE464.out) hb); have n4_ := Aside0.mk (hbox); have n5_ := Aside0.mk ((by rw [hg]; exact (below_size (zG GE464.out)) : w.heap.size ≤ gb473)); have n6_ := Aside0.mk ((by rw [hg]; exact (below_size (zG GE464.out)) : w.heap.size ≤ gb473)); have n7_ := Aside0.mk ((by rw [hg]; exact Nat.ne_of_lt (blk_lt (g := gb464) (o := .cells #[.int .i64 a0_0, .string a0_1] 27 (0, 0)) (zK BK464.out)) : gb464 ≠ gb473)); have n8_ := Aside0.mk ((by rw [hg]; exact Nat.ne_of_gt (blk_lt (g := gb464) (o := .cells #[.int .i64 a0_0, .string a0_1] 27 (0, 0)) (zK BK464.out)) : gb473 ≠ gb464)); clear HO_3; clear HO_17; clear BK464; clear HB; have HO_3 := n0_; have HO_17 := n1_; have BK464 := n2_; have HB := n3_; have BK473 := n4_; have GW473 := n5_; have GE473 := n6_; have NB464_473 := n7_; have NB473_464 := n8_; clear n0_ n1_ n2_ n3_ n4_ n5_ n6_ n7_ n8_; clear hb hbox hg; have hnb23 := NB473_464.out; have hnc23 := NB464_473.out; have hcz24_0 : w22.cell? ⟨gb473, 0, none⟩ = some (.int .i64 0) := (blk_cell BK473.out 0).trans rfl; have hcz24_1 : w22.cell? ⟨gb473, 1, none⟩ = some (.int .i64 0) := (blk_cell BK473.out 1).trans rfl; have hcz24_2 : w22.cell? ⟨gb473, 2, none⟩ = some (.int .i64 0) := (blk_cell BK473.out 2).trans rfl; have hfz24_0 := blk_frozen BK473.out 0; have hfz24_1 := blk_frozen BK473.out 1; have hfz24_2 := blk_frozen BK473.out 2; obtain ⟨go25, co25, eo25, gb25, gl25, cl25, HG25⟩ := Kd.R_form HO_3.out (by have hl_ := Nat.le_of_eq (Eq.symm (zA : t465.length = 344)); omega); (first | cases eo25 | (injection eo25 with ea_ en_ ec_; (first | subst ea_ | (injection ea_ with ea_; subst ea_)); subst ec_; clear en_)); have GB25 := Aside0.mk gb25; have GG25 := Aside0.mk HG25; clear gb25 gl25 HG25) | ((with_reducible refine gate_callee (f := 61) rfl ?_); refine goesL_ (some 30) rfl rfl Try.func61 (by kernel_rfl) rfl #[.pointer (some ⟨go25, 0, none⟩), .int .i64 ((rd_T67 t469 x19_1).f0), .int .i64 ((rd_T67 t469 x19_1).f1), .int .i64 ((rd_T67 t469 x19_1).f2)] rfl zM ?_; (with_reducible refine (impl_chi_countInside.calls k1 _ t465 ((rd_T67 t469 x19_1).f0) ((rd_T67 t469 x19_1).f1) ((rd_T67 t469 x19_1).f2) t474 _ ?side1 ?side2 A15.out).mono ?_); (case side1 => refine (Kd.R_reads' (e := 84) (base := w.heap.size) (ok := fun k_ => True) (n := t465.length) (c := co25) ?_).2.2; exact (by (with_reducible repeat (first | apply Kd.R_alloc | apply Kd.R_drewN | apply Kd.R_drew)); exact (Kd.R_mono (Kd.R_far (p := ⟨gb473, 2, none⟩) (Kd.R_far (p := ⟨gb473, 1, none⟩) (Kd.R_far (p := ⟨gb473, 0, none⟩) (Kd.R_types HO_3.out BK473.out (by decide)) (fun _ hk => hk.2) (.int .i64 ((rd_T67 t469 x19_1).f0))) (fun _ hk => hk.2) (.int .i64 ((rd_T67 t469 x19_1).f1))) (fun _ hk => hk.2) (.int .i64 ((rd_T67 t469 x19_1).f2))) (fun _ h_ => h_.1)))); (case side2 => exact (zA : t465.length = 344)); rintro e w26 ⟨rfl, hb⟩; refine ⟨_, rfl, ?_⟩; have n0_ := Aside0.mk (Kd.R_below (by (with_reducible repeat (first | apply Kd.R_alloc | apply Kd.R_drewN | apply Kd.R_drew)); exact (Kd.R_mono (Kd.R_far (p := ⟨gb473, 2, none⟩) (Kd.R_far (p := ⟨gb473, 1, none⟩) (Kd.R_far (p := ⟨gb473, 0, none⟩) (Kd.R_types HO_3.out BK473.out (by decide)) (fun _ hk => hk.2) (.int .i64 ((rd_T67 t469 x19_1).f0))) (fun _ hk => hk.2) (.int .i64 ((rd_T67 t469 x19_1).f1))) (fun _ hk => hk.2) (.int .i64 ((rd_T67 t469 x19_1).f2))) (fun _ h_ => h_.1))) hb); have n1_ := Aside0.mk (Kd.R_below (by (with_reducible repeat (first | apply Kd.R_alloc | apply Kd.R_drewN | apply Kd.R_drew)); exact (Kd.R_mono (Kd.R_far (p := ⟨gb473, 2, none⟩) (Kd.R_far (p := ⟨gb473, 1, none⟩) (Kd.R_far (p := ⟨gb473, 0, none⟩) (Kd.R_mono HO_17.out (fun k_ hk => (⟨hk, hk.2⟩ : _ ∧ k_ ≠ gb473))) (fun _ hk => hk.2) (.int .i64 ((rd_T67 t469 x19_1).f0))) (fun _ hk => hk.2) (.int .i64 ((rd_T67 t469 x19_1).f1))) (fun _ hk => hk.2) (.int .i64 ((rd_T67 t469 x19_1).f2))) (fun _ h_ => h_.1))) hb); have n2_ := Aside0.mk (blk_below (g := gb464) (o := .cells #[.int .i64 a0_0, .string a0_1] 27 (0, 0)) (by (with_reducible repeat (first | refine blk_drewN ?_ _ | refine blk_drew ?_ | refine blk_alloc ?_ _)); refine blk_far ?_ NB464_473.out _; (with_reducible repeat (first | refine blk_drewN ?_ _ | refine blk_drew ?_ | refine blk_alloc ?_ _)); refine blk_far ?_ NB464_473.out _; (with_reducible repeat (first | refine blk_drewN ?_ _ | refine blk_drew ?_ | refine blk_alloc ?_ _)); refine blk_far ?_ NB464_473.out _; (with_reducible repeat (first | refine blk_drewN ?_ _ | refine blk_drew ?_ | refine blk_alloc ?_ _)); exact BK464.out) hb); have n3_ := Aside0.mk (blk_below (g := gb473) (o := .cells #[.int .i64 ((rd_T67 t469 x19_1).f0), .int .i64 ((rd_T67 t469 x19_1).f1), .int .i64 ((rd_T67 t469 x19_1).f2)] 67 (0, 0)) (by (with_reducible repeat (first | refine blk_drewN ?_ _ | refine blk_drew ?_ | refine blk_alloc ?_ _)); refine blk_put (cs := #[.int .i64 ((rd_T67 t469 x19_1).f0), .int .i64 ((rd_T67 t469 x19_1).f1), .int .i64 0]) ?_ 2 _ rfl; (with_reducible repeat (first | refine blk_drewN ?_ _ | refine blk_drew ?_ | refine blk_alloc ?_ _)); refine blk_put (cs := #[.int .i64 ((rd_T67 t469 x19_1).f0), .int .i64 0, .int .i64 0]) ?_ 1 _ rfl; (with_reducible repeat (first | refine blk_drewN ?_ _ | refine blk_drew ?_ | refine blk_alloc ?_ _)); refine blk_put (cs := #[.int .i64 0, .int .i64 0, .int .i64 0]) ?_ 0 _ rfl; (with_reducible repeat (first | refine blk_drewN ?_ _ | refine blk_drew ?_ | refine blk_alloc ?_ _)); exact BK473.out) hb); have n4_ := Aside0.mk (below_step (by repeat (first | (with_reducible first | exact HB.out | apply below_alloc | apply pw_below_drewN | apply below_drew1 | refine below_set ?_ GE464.out | refine below_set ?_ GE473.out) | exact HB.out)) hb); clear HO_3; clear HO_17; clear BK464; clear BK473; clear HB; have HO_3 := n0_; have HO_17 := n1_; have BK464 := n2_; have BK473 := n3_; have HB := n4_; clear n0_ n1_ n2_ n3_ n4_; (try clear hb); (try clear hb2); (try clear hk); (try clear hi)))
         go_roundg k1
         case measure => have := HK1.out; omega
         case rel => exact ⟨(x5_1), (wrap64 (x19_1 + 1)), zF, zF, H', ⟨by have := HK1.out; omega⟩, ⟨zR HO_3.out⟩, ⟨by (with_reducible repeat (first | apply Kd.R_alloc | apply Kd.R_drewN | apply Kd.R_drew)); exact Kd.R_mono HO_17.out (fun _ hk => trivial)⟩, ⟨zK BK464.out⟩, ⟨by repeat (first | (with_reducible first | exact HB.out | apply below_alloc | apply pw_below_drewN | apply below_drew1 | refine below_set ?_ GE464.out | refine below_set ?_ GE473.out) | exact HB.out)⟩⟩
       ·rw [if_neg c14] at H
        exact absurd H (by simp)
      ·rw [if_neg c13] at H
       exact absurd H (by simp)
     ·rw [if_neg c12] at H
      exact absurd H (by simp)
    ·rw [if_neg c11] at H
     have c11b0 : decide (x19_1 < (t469.length : Int)) = false := decide_eq_false c11
     clear c11
     obtain rfl := Option.some.inj H
     go_wp2
     go_ret
     exact ⟨zE, zG GE464.out⟩
 ·replace c3 := Bool.eq_false_iff.mpr c3
  subst c3
  have H1 : (some (-1)) = some r := by rw [if_neg (show ¬ (false = true) by decide)] at H; exact H
  clear H
  have H := H1
  clear H1
  obtain rfl := Option.some.inj H
  go_enter Try.func33, Try.ntmps33
  go_wp2_with (first | ((with_reducible refine gate_dst (N := 1) rfl ?_); refine box_event ?hg (N := 1) ?hd (cs := #[.int .i64 a0_0, .string a0_1]) (t := 27) ?hr ?_; (case hd => rfl); (case hg => rfl); (case hr => first | (go_simp; done) | (go_simp; rfl)); intro gb464 hg w27 hbox hb; have n0_ := Aside0.mk (below_step zB hb); have n1_ := Aside0.mk (hbox); have n2_ := Aside0.mk ((by rw [hg]; exact (below_size zB) : w.heap.size ≤ gb464)); have n3_ := Aside0.mk ((by rw [hg]; exact (below_size zB) : w.heap.size ≤ gb464)); clear HB; have HB := n0_; have BK464 := n1_; have GW464 := n2_; have GE464 := n3_; clear n0_ n1_ n2_ n3_; clear hb hbox hg; have hcz28_0 : w27.cell? ⟨gb464, 0, none⟩ = some (.int .i64 a0_0) := (blk_cell BK464.out 0).trans rfl; have hcz28_1 : w27.cell? ⟨gb464, 1, none⟩ = some (.string a0_1) := (blk_cell BK464.out 1).trans rfl; have hfz28_0 := blk_frozen BK464.out 0; have hfz28_1 := blk_frozen BK464.out 1) | ((with_reducible refine gate_callee (f := 47) rfl ?_); refine goesL_ (some 10) rfl rfl Try.func47 (by kernel_rfl) rfl #[.agg #[.int .i64 a0_0, .string a0_1]] rfl zM ?_; (with_reducible refine (impl_orderOf.calls k a0_0 a0_1 t465 false _ A2.out).mono ?_); rintro e w29 ⟨v466, rfl, ho0, hb⟩; refine ⟨_, rfl, ?_⟩; have n0_ := Aside0.mk (Kd.R_lower ho0 (below_size (zG GE464.out))); have n1_ := Aside0.mk (blk_below (g := gb464) (o := .cells #[.int .i64 a0_0, .string a0_1] 27 (0, 0)) (zK BK464.out) hb); have n2_ := Aside0.mk (below_step (zG GE464.out) hb); clear BK464; clear HB; have HO467 := n0_; have BK464 := n1_; have HB := n2_; clear n0_ n1_ n2_; (try clear hb); (try clear hb2); (try clear hk); (try clear hi); (try clear ho0)))
  go_ret
  exact ⟨zE, zG GE464.out⟩
end Go.Proofs.Ytgnghhelalablaa.PX
namespace Go.Proofs.Ytgnghhelalablaa.M
open Go.RowKit Go.Proofs.YtgnghhelalablaaW.PrintWords Go.Proofs.Ytgnghhelalablaa.PX Go.Proofs.Ytgnghhelalablaa.G Go.Proofs.YtgnghhelalablaaW.PrintMore
def toS3 (q : Nat × Nat × Nat) : S67 := ⟨(q.1 : Int), (q.2.1 : Int), (q.2.2 : Int)⟩
theorem tripN_S {n : Nat} (h0 : 3 ≤ n) (h1 : n ≤ 7) : tripN n = (tripsL n).map toS3 := tripN_L h0 h1
theorem rd_toS3 {qs : List (Nat × Nat × Nat)} {i : Nat} (h : i < qs.length) : rd_T67 (qs.map toS3) (i : Int) = toS3 qs[i] := by
  rw [rd_trip (by rw [List.length_map]; exact h), List.getElem_map]
theorem quads_len {n : Nat} (h0 : 3 ≤ n) (h1 : n ≤ 7) : (tripsL n).length ≤ 35 := by
  refine five (p := fun n => (tripsL n).length ≤ 35) h0 h1 ?_ ?_ ?_ ?_ ?_ <;> decide +kernel
/-- Is p another element than three, and inside their triangle? -/
def insB (n : Nat) (t : ByteArray) (p a b c : Nat) : Bool := decide (p ≠ a) && decide (p ≠ b) && decide (p ≠ c) && (innerV n t p a b c == (p : Int))
def cntV (n : Nat) (t : ByteArray) (a b c : Nat) : Nat := ((List.range n).filter fun p => insB n t p a b c).length
theorem insB_dist {n : Nat} {t : ByteArray} {p a b c : Nat} (h1 : p ≠ a) (h2 : p ≠ b) (h3 : p ≠ c) : insB n t p a b c = (innerV n t p a b c == (p : Int)) := by
  unfold insB
  rw [decide_eq_true h1, decide_eq_true h2, decide_eq_true h3]
  rfl
theorem cnt_fold {ρ : Type} (c : Nat → Bool) (n : Nat) : (List.range' 0 (n - 0)).foldlM (fun (s : Nat) p => (.ok (if c p then s + 1 else s) : Except ρ Nat)) 0 = .ok ((List.range n).filter c).length := by
  rw [foldlM_ok, Nat.sub_zero, ← List.range_eq_range']
  have key : ∀ (l : List Nat) (s : Nat), l.foldl (fun s p => if c p then s + 1 else s) s = s + (l.filter c).length := by
    intro l
    induction l with
    | nil => intro s; rfl
    | cons x l ih =>
      intro s
      rw [List.foldl_cons, ih, List.filter_cons]
      split
      · rw [List.length_cons]; omega
      · rfl
  rw [key, Nat.zero_add]
section
variable {n : Nat} {t : ByteArray} (h : areOk n t = true) {a b c : Nat} (ha : a < n) (hb : b < n) (hc : c < n) (hab : a ≠ b) (hac : a ≠ c) (hbc : b ≠ c)
include h ha hb hc hab hac hbc
theorem spec_cnt : Ev (fun k => spec_l5Inside.f k (n : Int) t (a : Int) (b : Int) (c : Int)) (cntV n t a b c : Int) := by
  obtain ⟨⟨h0, h1⟩, _, _⟩ := (areOk_iff _ _).1 h
  unfold spec_l5Inside.f
  have key := loop_up' (σ := Nat) (ρ := Int) (lo := 0) (n := n) (K := fun s _ => some (s : Int)) (L := fun i s k => spec_l5Inside.l0 k (a : Int) (b : Int) (c : Int) (s : Int) i (n : Int) t)
    (fun i s => s ≤ i) (fun s p => .ok (if insB n t p a b c then s + 1 else s)) (fun s _ => ?_) (fun p _ hp s hs => ?_) (fun p _ hp s hs s' e => ?_) (by omega) 0 (by omega)
  · rw [cnt_fold] at key
    exact key _ (Ev.now _)
  · refine Goes.step ?_
    simp only [spec_l5Inside.l0]
    exact Goes.neg (by omega) (Goes.ok (K := fun s _ => some (s : Int)) s)
  · refine Goes.step ?_
    simp only [spec_l5Inside.l0]
    refine Goes.pos (by omega) ?_
    rw [wrap_id (x := (p : Int) + 1) (by omega) (by omega), wrap_id (x := (s : Int) + 1) (by omega) (by omega)]
    by_cases e1 : p = a
    · rw [show insB n t p a b c = false by simp [insB, e1]]
      exact Goes.pos (by omega) (Goes.ok _)
    refine Goes.neg (by omega) ?_
    by_cases e2 : p = b
    · rw [show insB n t p a b c = false by simp [insB, e2]]
      exact Goes.pos (by omega) (Goes.ok _)
    refine Goes.neg (by omega) ?_
    by_cases e3 : p = c
    · rw [show insB n t p a b c = false by simp [insB, e3]]
      exact Goes.pos (by omega) (Goes.ok _)
    refine Goes.neg (by omega) (Goes.ev (spec_inner h hp ha hb hc (dist4_iff.2 (by omega))) ?_)
    rw [insB_dist e1 e2 e3]
    by_cases g : innerV n t p a b c = (p : Int)
    · rw [beq_iff_eq.2 g]
      exact Goes.pos g (Goes.ok (K := fun (s : Nat) k => spec_l5Inside.l0 k (a : Int) (b : Int) (c : Int) (s : Int) ((p + 1 : Nat) : Int) (n : Int) t) (s + 1))
    · rw [beq_eq_false_iff_ne.2 g]
      exact Goes.neg g (Goes.ok _)
  · cases e
    split <;> omega
theorem impl_cnt : Ev (fun k => impl_chi_countInside.f k (tblL n t) (a : Int) (b : Int) (c : Int)) (cntV n t a b c : Int) := by
  obtain ⟨⟨h0, h1⟩, _, _⟩ := (areOk_iff _ _).1 h
  unfold impl_chi_countInside.f
  have key := loop_up' (σ := Nat) (ρ := Int) (lo := 0) (n := n) (K := fun s _ => some (s : Int)) (L := fun i s k => impl_chi_countInside.l0 k (tblL n t) (a : Int) (b : Int) (c : Int) (s : Int) i)
    (fun i s => s ≤ i) (fun s p => .ok (if insB n t p a b c then s + 1 else s)) (fun s _ => ?_) (fun p _ hp s hs => ?_) (fun p _ hp s hs s' e => ?_) (by omega) 0 (by omega)
  · rw [cnt_fold] at key
    exact key _ (Ev.now _)
  · refine Goes.step ?_
    simp only [impl_chi_countInside.l0, tbl_n]
    exact Goes.neg (by omega) (Goes.ok (K := fun s _ => some (s : Int)) s)
  · refine Goes.step ?_
    simp only [impl_chi_countInside.l0, tbl_n]
    refine Goes.pos (by omega) ?_
    rw [wrap_id (x := (p : Int) + 1) (by omega) (by omega), wrap_id (x := (s : Int) + 1) (by omega) (by omega)]
    by_cases e1 : p = a
    · rw [show insB n t p a b c = false by simp [insB, e1]]
      exact Goes.pos (by omega) (Goes.ok _)
    refine Goes.neg (by omega) ?_
    by_cases e2 : p = b
    · rw [show insB n t p a b c = false by simp [insB, e2]]
      exact Goes.pos (by omega) (Goes.ok _)
    refine Goes.neg (by omega) ?_
    by_cases e3 : p = c
    · rw [show insB n t p a b c = false by simp [insB, e3]]
      exact Goes.pos (by omega) (Goes.ok _)
    refine Goes.neg (by omega) (Goes.ev (impl_inside h hp ha hb hc (dist4_iff.2 (by omega))) ?_)
    rw [insB_dist e1 e2 e3]
    cases g : innerV n t p a b c == (p : Int) with
    | true => exact Goes.pos (by trivial) (Goes.ok (K := fun (s : Nat) k => impl_chi_countInside.l0 k (tblL n t) (a : Int) (b : Int) (c : Int) (s : Int) ((p + 1 : Nat) : Int)) (s + 1))
    | false => exact Goes.neg (by decide) (Goes.ok _)
  · cases e
    split <;> omega
end
/-- What CountInside answers. -/
def cntA (n : Int) (t : ByteArray) (a b c : Int) : Int := if acyOk n t = true ∧ areD n [a, b, c] = true then (cntV n.toNat t a.toNat b.toNat c.toNat : Int) else -1
theorem three_nat {n : Nat} {a b c : Int} (h : areD n [a, b, c] = true) : ∃ A B C : Nat, a = (A : Int) ∧ b = (B : Int) ∧ c = (C : Int) ∧ A < n ∧ B < n ∧ C < n ∧ A ≠ B ∧ A ≠ C ∧ B ≠ C := by
  obtain ⟨ha, hb, hc, e1, e2, e3⟩ := (areD_3 _ _ _ _).1 h
  exact ⟨a.toNat, b.toNat, c.toNat, by omega, by omega, by omega, by omega, by omega, by omega, by omega, by omega, by omega⟩
theorem impl_countInside (n : Int) (t : ByteArray) (a b c : Int) (hs : t.size ≤ 9223372036854775807) : Ev (fun k => impl_CountInside.f k n t a b c) (cntA n t a b c) := by
  unfold impl_CountInside.f cntA
  refine Ev.bind (order_ev n t hs) ?_
  by_cases h : acyOk n t = true
  · rw [if_pos h]
    obtain ⟨N, rfl, ho, h0, h1⟩ := acy_are h
    refine ev_pos rfl (Ev.bind (different_ev N [a, b, c] (by simp)) ?_)
    by_cases hd : areD N [a, b, c] = true
    · rw [if_pos ⟨h, hd⟩]
      obtain ⟨A, B, C, rfl, rfl, rfl, ha, hb, hc, hab, hac, hbc⟩ := three_nat hd
      simp only [Int.toNat_natCast]
      exact ev_pos hd (ev_pos (tblL_length _ _) (Ev.bind (impl_cnt ho ha hb hc hab hac hbc) (Ev.now _)))
    · rw [if_neg (fun e => hd e.2)]
      exact ev_neg hd (Ev.now _)
  · rw [if_neg h, if_neg (fun e => h e.1)]
    exact ev_neg (by simp) (Ev.now _)
theorem spec_countInside (n : Int) (t : ByteArray) (a b c : Int) (hs : t.size ≤ 9223372036854775807) : Ev (fun k => spec_CountInside.f k n t a b c) (cntA n t a b c) := by
  unfold spec_CountInside.f cntA
  refine Ev.bind (spec_isA n t hs) ?_
  by_cases h : acyOk n t = true
  · obtain ⟨N, rfl, ho, h0, h1⟩ := acy_are h
    refine ev_pos h (Ev.bind (dif5_ev (by omega) (by omega) [a, b, c] (by simp)) ?_)
    by_cases hd : areD N [a, b, c] = true
    · rw [if_pos ⟨h, hd⟩]
      obtain ⟨A, B, C, rfl, rfl, rfl, ha, hb, hc, hab, hac, hbc⟩ := three_nat hd
      simp only [Int.toNat_natCast]
      exact ev_pos hd (Ev.bind (spec_cnt ho ha hb hc hab hac hbc) (Ev.now _))
    · rw [if_neg (fun e => hd e.2)]
      exact ev_neg hd (Ev.now _)
  · rw [if_neg (fun e => h e.1)]
    exact ev_neg h (Ev.now _)
/-- How many triangles are empty. -/
def emptV (n : Nat) (t : ByteArray) : Nat := ((tripsL n).filter fun q => cntV n t q.1 q.2.1 q.2.2 == 0).length
def emptA (n : Int) (t : ByteArray) : Int := if acyOk n t = true then (emptV n.toNat t : Int) else -1
theorem cntL_fold {ρ α : Type} (c : α → Bool) (l : List α) : l.foldlM (fun (s : Nat) p => (.ok (if c p then s + 1 else s) : Except ρ Nat)) 0 = .ok (l.filter c).length := by
  rw [foldlM_ok]
  have key : ∀ (l : List α) (s : Nat), l.foldl (fun s p => if c p then s + 1 else s) s = s + (l.filter c).length := by
    intro l
    induction l with
    | nil => intro s; rfl
    | cons x l ih =>
      intro s
      rw [List.foldl_cons, ih, List.filter_cons]
      split
      · rw [List.length_cons]; omega
      · rfl
  rw [key, Nat.zero_add]
theorem impl_empt (n : Int) (t : ByteArray) (hs : t.size ≤ 9223372036854775807) : Ev (fun k => impl_EmptyTriangles.f k n t) (emptA n t) := by
  unfold impl_EmptyTriangles.f emptA
  refine Ev.bind (order_ev n t hs) ?_
  by_cases h : acyOk n t = true
  · rw [if_pos h, if_pos h]
    obtain ⟨N, rfl, ho, h0, h1⟩ := acy_are h
    simp only [Int.toNat_natCast]
    refine ev_pos (by trivial) (Ev.bind (triples_ev h0 h1) ?_)
    rw [tripN_S h0 h1]
    have hl : ((tripsL N).map toS3).length = (tripsL N).length := List.length_map ..
    have h35 := quads_len h0 h1
    have key := loop_up' (σ := Nat) (ρ := Int) (lo := 0) (n := (tripsL N).length) (K := fun s _ => some (s : Int)) (L := fun i s k => impl_EmptyTriangles.l0 k (tblL N t) (s : Int) ((tripsL N).map toS3) (((tripsL N).map toS3).length : Int) i)
      (fun i s => s ≤ i) (fun s i => .ok (if cntV N t ((tripsL N).getD i (0, 0, 0)).1 ((tripsL N).getD i (0, 0, 0)).2.1 ((tripsL N).getD i (0, 0, 0)).2.2 == 0 then s + 1 else s)) (fun s _ => ?_) (fun i _ hi s hs => ?_) (fun p _ hp s hs s' e => ?_) (by omega) 0 (by omega)
    · rw [foldlM_index (0, 0, 0) (fun (s : Nat) (q : Nat × Nat × Nat) => (.ok (if cntV N t q.1 q.2.1 q.2.2 == 0 then s + 1 else s) : Except Int Nat)), cntL_fold] at key
      exact key _ (Ev.now _)
    · refine Goes.step ?_
      simp only [impl_EmptyTriangles.l0]
      exact Goes.neg (by omega) (Goes.ok (K := fun s _ => some (s : Int)) s)
    · have hg : (tripsL N).getD i (0, 0, 0) = (tripsL N)[i] := by rw [List.getD_eq_getElem?_getD, List.getElem?_eq_getElem hi]; rfl
      have hm := List.getElem_mem hi
      rw [hg]
      refine Goes.step ?_
      simp only [impl_EmptyTriangles.l0, rd_toS3 hi]
      generalize (tripsL N)[i] = q at *
      obtain ⟨a, b, c⟩ := q
      obtain ⟨hab, hbc, hc⟩ := mem_trips hm
      simp only [toS3]
      refine Goes.pos (by omega) (Goes.pos (by omega) (Goes.pos (by omega) (Goes.pos (tblL_length _ _) (Goes.ev (impl_cnt ho (by omega) (by omega) hc (by omega) (by omega) (by omega)) ?_))))
      rw [wrap_id (x := (i : Int) + 1) (by omega) (by omega), wrap_id (x := (s : Int) + 1) (by omega) (by omega)]
      by_cases g : cntV N t a b c = 0
      · rw [beq_iff_eq.2 g]
        exact Goes.pos (by omega) (Goes.ok (K := fun (s : Nat) k => impl_EmptyTriangles.l0 k (tblL N t) (s : Int) ((tripsL N).map toS3) (((tripsL N).map toS3).length : Int) ((i + 1 : Nat) : Int)) (s + 1))
      · rw [beq_eq_false_iff_ne.2 g]
        exact Goes.neg (by omega) (Goes.ok _)
    · cases e
      split <;> omega
  · rw [if_neg h, if_neg h]
    exact ev_neg (by simp) (Ev.now _)
theorem spec_empt (n : Int) (t : ByteArray) (hs : t.size ≤ 9223372036854775807) : Ev (fun k => spec_EmptyTriangles.f k n t) (emptA n t) := by
  unfold spec_EmptyTriangles.f emptA
  refine Ev.bind (spec_isA n t hs) ?_
  by_cases h : acyOk n t = true
  · rw [if_pos h]
    refine ev_pos h ?_
    obtain ⟨N, rfl, ho, h0, h1⟩ := acy_are h
    simp only [Int.toNat_natCast]
    have key := loops3B (σ := Nat) (ρ := Int) (n := N) (K := fun s _ => some (s : Int)) (L0 := fun a s k => spec_EmptyTriangles.l0 k (s : Int) a (N : Int) t) (L1 := fun a b s k => spec_EmptyTriangles.l1 k (s : Int) a b (N : Int) t) (L2 := fun a b c s k => spec_EmptyTriangles.l2 k (s : Int) a b c (N : Int) t)
      h1 id 0 (fun s q => .ok (if cntV N t q.1 q.2.1 q.2.2 == 0 then s + 1 else s)) (foldlM_okL _ _ fun s a => by simp only [id]; split <;> omega) (fun s => ?_) (fun a ha s => ?_) (fun a ha s => ?_) (fun a b hab hb s => ?_) (fun a b hab hb s => ?_) (fun a b c hab hbc hc s hs => ?_) 0 (Nat.le_refl _)
    · rw [cntL_fold] at key
      exact key _ (Ev.now _)
    · refine Goes.step ?_
      simp only [spec_EmptyTriangles.l0]
      exact Goes.neg (by omega) (Goes.ok (K := fun s _ => some (s : Int)) s)
    · refine Goes.step ?_
      simp only [spec_EmptyTriangles.l0]
      refine Goes.pos (by omega) ?_
      rw [wrap_id (by omega) (by omega)]
      exact Goes.ok (K := fun (s : Nat) k => spec_EmptyTriangles.l1 k (s : Int) (a : Int) ((a + 1 : Nat) : Int) (N : Int) t) s
    · refine Goes.step ?_
      simp only [spec_EmptyTriangles.l1]
      refine Goes.neg (by omega) ?_
      rw [wrap_id (by omega) (by omega)]
      exact Goes.ok (K := fun (s : Nat) k => spec_EmptyTriangles.l0 k (s : Int) ((a + 1 : Nat) : Int) (N : Int) t) s
    · refine Goes.step ?_
      simp only [spec_EmptyTriangles.l1]
      refine Goes.pos (by omega) ?_
      rw [wrap_id (by omega) (by omega)]
      exact Goes.ok (K := fun (s : Nat) k => spec_EmptyTriangles.l2 k (s : Int) (a : Int) (b : Int) ((b + 1 : Nat) : Int) (N : Int) t) s
    · refine Goes.step ?_
      simp only [spec_EmptyTriangles.l2]
      refine Goes.neg (by omega) ?_
      rw [wrap_id (by omega) (by omega)]
      exact Goes.ok (K := fun (s : Nat) k => spec_EmptyTriangles.l1 k (s : Int) (a : Int) ((b + 1 : Nat) : Int) (N : Int) t) s
    · simp only [id] at hs
      refine Goes.step ?_
      simp only [spec_EmptyTriangles.l2]
      have hb1 : ∀ x : Bool, spec_l1Bit.f x = some (if x = true then 1 else 0) := fun x => by unfold spec_l1Bit.f; split <;> rfl
      refine Goes.pos (by omega) (Goes.ev (spec_cnt ho (by omega) (by omega) hc (by omega) (by omega) (by omega)) (Goes.call (hb1 _) ?_))
      rw [wrap_id (x := (c : Int) + 1) (by omega) (by omega)]
      by_cases g : cntV N t a b c = 0
      · have e : ((cntV N t a b c : Nat) : Int) = 0 := by omega
        rw [beq_iff_eq.2 g, beq_iff_eq.2 e, if_pos rfl, if_pos rfl, wrap_id (by omega) (by omega)]
        exact Goes.ok (K := fun (s : Nat) k => spec_EmptyTriangles.l2 k (s : Int) (a : Int) (b : Int) ((c + 1 : Nat) : Int) (N : Int) t) (s + 1)
      · have e : ¬ ((cntV N t a b c : Nat) : Int) = 0 := by omega
        rw [beq_eq_false_iff_ne.2 g, beq_eq_false_iff_ne.2 e, if_neg (by decide), if_neg (by decide), wrap_id (by omega) (by omega), Int.add_zero]
        exact Goes.ok (K := fun (s : Nat) k => spec_EmptyTriangles.l2 k (s : Int) (a : Int) (b : Int) ((c + 1 : Nat) : Int) (N : Int) t) s
  · rw [if_neg h]
    exact ev_neg h (Ev.now _)
end Go.Proofs.Ytgnghhelalablaa.M
