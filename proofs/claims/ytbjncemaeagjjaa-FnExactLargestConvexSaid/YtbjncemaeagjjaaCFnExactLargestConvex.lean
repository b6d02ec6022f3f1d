/- FnExactLargestConvex returns true for all arguments and leaves them as they were. No condition. -/
import Derived.Test.YtbjncemaeagjjaaProg
import Derived.Test.YtbjncemaeagjjaaRows
import Derived.WalkKit
import Derived.ProofKit
import Derived.OpenShut
import Derived.ShutString
import Derived.ChangeOld
import Derived.Below
import Derived.SizedLaws
import Derived.Lib.SmallJoins
import Derived.ChangeSame
import Derived.Test.YtbjncemaeagjjaaV1
import Derived.Test.YtbjncemaeagjjaaBmknilo1
import Derived.Test.YtbjncemaeagjjaaBmknilo2
import Derived.Test.YtbjncemaeagjjaaBnvcpjt1
import Derived.Test.YtbjncemaeagjjaaBmknilo3
set_option linter.unusedVariables false
set_option linter.unusedSimpArgs false
namespace Go.Proofs.Ytbjncemaeagjjaa.PX
open Go.RowKit Go.Proofs.Ytbjncemaeagjjaa.G Go.Proofs.YtbjncemaeagjjaaW.PrintWords Go.Proofs.YtbjncemaeagjjaaW.PrintLast Go.Proofs.YtbjncemaeagjjaaW.PrintMore
attribute [local go_sem] max2_int min2_int max_two min_two max_three min_three max_four min_four   -- for this text's walks alone
set_option linter.unusedVariables false
set_option linter.unusedSimpArgs false
/-! ### spec_LargestConvex: function 34 -/
def spec_LargestConvex.l0 : Nat → Int → Int → ByteArray → Option (Int)
 | 0, _, _, _ => none
 | k + 1, x3, x621000, x621001 => (spec_l8Sets.f k x621000 x621001 x3 false).bind fun t622 => (if (t622.length : Int) = 0 then (spec_LargestConvex.l0 k (wrap64 (x3 - 1)) x621000 x621001) else (some x3))
def spec_LargestConvex.f (k : Nat) (a0_0 : Int) (a0_1 : ByteArray) : Option (Int) := (spec_IsAcyclic.f k a0_0 a0_1).bind fun t621 => (if t621 = true then (spec_LargestConvex.l0 k a0_0 a0_0 a0_1) else (some (-1)))
theorem spec_LargestConvex.mono_l : ∀ k, (∀ y0 y1 y2, LeO (spec_LargestConvex.l0 k y0 y1 y2) (spec_LargestConvex.l0 (k + 1) y0 y1 y2))
 | 0 => fun _ _ _ r h => by simp [spec_LargestConvex.l0] at h
 | k + 1 => by
  have ih0 := spec_LargestConvex.mono_l k
  ·intro y0 y1 y2
   unfold spec_LargestConvex.l0
   repeat' first
   | (with_reducible exact ih0 _ _ _)
   | (with_reducible exact spec_IsAcyclic.mono _ _ _)
   | (with_reducible exact spec_l8Sets.mono _ _ _ _ _)
   | (with_reducible exact LeO.refl _)
   | (with_reducible exact LeO.none _)
   | (with_reducible refine LeO.ite ?_ ?_)
   | (with_reducible refine LeO.bind ?_ (fun _ => ?_))
   | exact ih0 _ _ _
   | exact spec_IsAcyclic.mono _ _ _
   | exact spec_l8Sets.mono _ _ _ _ _
   | exact LeO.none _
   | refine LeO.ite ?_ ?_
   | refine LeO.bind ?_ (fun _ => ?_)
theorem spec_LargestConvex.mono : ∀ a0 a1 k, LeO (spec_LargestConvex.f k a0 a1) (spec_LargestConvex.f (k + 1) a0 a1) := by
 intro a0 a1 k
 have ih0 := spec_LargestConvex.mono_l k
 unfold spec_LargestConvex.f
 repeat' first
   | (with_reducible exact ih0 _ _ _)
   | (with_reducible exact spec_IsAcyclic.mono _ _ _)
   | (with_reducible exact spec_l8Sets.mono _ _ _ _ _)
   | (with_reducible exact LeO.refl _)
   | (with_reducible exact LeO.none _)
   | (with_reducible refine LeO.ite ?_ ?_)
   | (with_reducible refine LeO.bind ?_ (fun _ => ?_))
   | exact ih0 _ _ _
   | exact spec_IsAcyclic.mono _ _ _
   | exact spec_l8Sets.mono _ _ _ _ _
   | exact LeO.none _
   | refine LeO.ite ?_ ?_
   | refine LeO.bind ?_ (fun _ => ?_)
set_option maxHeartbeats 8000000 in
set_option maxRecDepth 100000 in
theorem spec_LargestConvex.calls (k : Nat) (a0_0 : Int) (a0_1 : ByteArray) (r : Int) (w : World) (h : spec_LargestConvex.f k a0_0 a0_1 = some r) :
  Calls Try.prog 34 #[.agg #[.int .i64 a0_0, .string a0_1]] w fun e w' => e = .returned (.int .i64 r) ∧ Below w.heap.size w w' := by
 have hu26 := Try.underlying26
 have HB := Aside0.mk (Below.refl w.heap.size w)
 have H : ((spec_IsAcyclic.f k a0_0 a0_1).bind fun t621 => (if t621 = true then (spec_LargestConvex.l0 k a0_0 a0_0 a0_1) else (some (-1)))) = some r := h
 clear h
 replace H := Option.bind_eq_some_iff.mp H
 obtain ⟨t621, A20, H⟩ := H
 replace H : (if t621 = true then (spec_LargestConvex.l0 k a0_0 a0_0 a0_1) else (some (-1))) = some r := H
 have A2 := Aside0.mk A20
 clear A20
 by_cases c3 : t621 = true
 ·subst c3
  have H1 : (spec_LargestConvex.l0 k a0_0 a0_0 a0_1) = some r := by rw [if_pos rfl] at H; exact H
  clear H
  have H := H1
  clear H1
  have H' := Aside0.mk H
  clear H
  go_enter Try.func34, Try.ntmps34
  go_wp2_with (first | ((with_reducible refine gate_dst (N := 1) rfl ?_); refine box_event ?hg (N := 1) ?hd (cs := #[.int .i64 a0_0, .string a0_1]) (t := 26) ?hr ?_; (case hd => rfl); (case hg => rfl); (case hr => first | (go_simp; done) | (go_simp; rfl)); intro gb620 hg w4 hbox hb; have BK620 := Aside0.mk (hbox); have GW620 := Aside0.mk ((by rw [hg]; exact (below_size zB) : w.heap.size ≤ gb620)); have GE620 := Aside0.mk ((by rw [hg]; exact (below_size zB) : w.heap.size ≤ gb620)); replace HB := Aside0.mk (below_step zB hb); clear hb hbox hg; have hcz5_0 : w4.cell? ⟨gb620, 0, none⟩ = some (.int .i64 a0_0) := (blk_cell BK620.out 0).trans rfl; have hcz5_1 : w4.cell? ⟨gb620, 1, none⟩ = some (.string a0_1) := (blk_cell BK620.out 1).trans rfl; have hfz5_0 := blk_frozen BK620.out 0; have hfz5_1 := blk_frozen BK620.out 1) | ((with_reducible refine gate_callee (f := 38) rfl ?_); refine goesL_ (some 5) rfl rfl Try.func38 (by kernel_rfl) rfl #[.agg #[.int .i64 a0_0, .string a0_1]] rfl zM ?_; (with_reducible refine (spec_IsAcyclic.calls k a0_0 a0_1 true _ A2.out).mono ?_); rintro e w6 ⟨rfl, hb⟩; refine ⟨_, rfl, ?_⟩; replace BK620 := Aside0.mk (blk_below (g := gb620) (o := .cells #[.int .i64 a0_0, .string a0_1] 26 (0, 0)) (zK BK620.out) hb); replace HB := Aside0.mk (below_step (zG GE620.out) hb); (try clear hb); have hcz7_0 : w6.cell? ⟨gb620, 0, none⟩ = some (.int .i64 a0_0) := (blk_cell BK620.out 0).trans rfl; have hcz7_1 : w6.cell? ⟨gb620, 1, none⟩ = some (.string a0_1) := (blk_cell BK620.out 1).trans rfl; have hfz7_0 := blk_frozen BK620.out 0; have hfz7_1 := blk_frozen BK620.out 1))
  go_loopg [3] k (fun kq v3 w' => ∃ (x3_1 : Int), v3 = .int .i64 x3_1 ∧ Aside0 (spec_LargestConvex.l0 kq x3_1 a0_0 a0_1 = some r) ∧ Aside0 (kq ≤ k) ∧ Aside0 (w'.heap[gb620]? = some (.cells #[.int .i64 a0_0, .string a0_1] 26 (0, 0))) ∧ Aside0 (Below w.heap.size w w'))
  case atStart => exact ⟨(a0_0), zF, H', ⟨Nat.le_refl _⟩, ⟨zK BK620.out⟩, ⟨zG GE620.out⟩⟩
  case round =>
   clear H'
   try clear p2
   try clear c3
   try clear hcz5_0
   try clear hcz5_1
   try clear hcz7_0
   try clear hcz7_1
   try clear hfz5_0
   try clear hfz5_1
   try clear hfz7_0
   try clear hfz7_1
   obtain ⟨x3_1, rfl, HA, HK1, BK620, HB⟩ := hrel
   cases gk with
   | zero => exact absurd HA.out (by simp [spec_LargestConvex.l0])
   | succ k1 =>
    have H := HA.out
    clear HA
    simp only [spec_LargestConvex.l0] at H
    replace H := Option.bind_eq_some_iff.mp H
    obtain ⟨t622, A80, H⟩ := H
    replace H : (if (t622.length : Int) = 0 then (spec_LargestConvex.l0 k1 (wrap64 (x3_1 - 1)) a0_0 a0_1) else (some x3_1)) = some r := H
    have A8 := Aside0.mk A80
    clear A80
    by_cases c9 : (t622.length : Int) = 0
    ·rw [if_pos c9] at H
     have c9b0 : ((t622.length : Int) == 0) = true := beq_iff_eq.mpr c9
     have c9b1 : ((t622.length : Int) != 0) = false := bne_eq_false_iff_eq.mpr c9
     clear c9
     have H' := Aside0.mk H
     clear H
     have hcz10_0 : wr.cell? ⟨gb620, 0, none⟩ = some (.int .i64 a0_0) := (blk_cell BK620.out 0).trans rfl
     have hcz10_1 : wr.cell? ⟨gb620, 1, none⟩ = some (.string a0_1) := (blk_cell BK620.out 1).trans rfl
     have hfz10_0 := blk_frozen BK620.out 0
     have hfz10_1 := blk_frozen BK620.out 1
     go_wp2_with (first | ((with_reducible refine gate_callee (f := 54) rfl ?_); refine goesL_ (some 11) rfl rfl Try.func54 (by kernel_rfl) rfl #[.agg #[.int .i64 a0_0, .string a0_1], .int .i64 x3_1, .bool false] rfl zM ?_; (with_reducible refine (spec_l8Sets.calls k1 a0_0 a0_1 x3_1 false t622 _ A8.out).mono ?_); rintro e w11 ⟨v623, rfl, ho0, hb⟩; refine ⟨_, rfl, ?_⟩; have HO624 := Aside0.mk (Kd.R_lower ho0 (below_size (zG GE620.out))); replace BK620 := Aside0.mk (blk_below (g := gb620) (o := .cells #[.int .i64 a0_0, .string a0_1] 26 (0, 0)) (zK BK620.out) hb); replace HB := Aside0.mk (below_step (zG GE620.out) hb); (try clear hb); (try clear ho0); obtain ⟨Ao12, co12, eo12⟩ := Kd.R_slice HO624.out; subst eo12))
     go_roundg k1
     case measure => have := HK1.out; omega
     case rel => exact ⟨(wrap64 (x3_1 - 1)), zF, H', ⟨by have := HK1.out; omega⟩, ⟨zK BK620.out⟩, ⟨zG GE620.out⟩⟩
    ·rw [if_neg c9] at H
     have c9b0 : ((t622.length : Int) == 0) = false := beq_eq_false_iff_ne.mpr c9
     have c9b1 : ((t622.length : Int) != 0) = true := bne_iff_ne.mpr c9
     have c9b2 : ¬ (t622 = []) := fun h_ => c9 (by rw [h_]; rfl)
     obtain rfl := Option.some.inj H
     have hcz13_0 : wr.cell? ⟨gb620, 0, none⟩ = some (.int .i64 a0_0) := (blk_cell BK620.out 0).trans rfl
     have hcz13_1 : wr.cell? ⟨gb620, 1, none⟩ = some (.string a0_1) := (blk_cell BK620.out 1).trans rfl
     have hfz13_0 := blk_frozen BK620.out 0
     have hfz13_1 := blk_frozen BK620.out 1
     go_wp2_with (first | ((with_reducible refine gate_callee (f := 54) rfl ?_); refine goesL_ (some 11) rfl rfl Try.func54 (by kernel_rfl) rfl #[.agg #[.int .i64 a0_0, .string a0_1], .int .i64 x3_1, .bool false] rfl zM ?_; (with_reducible refine (spec_l8Sets.calls k1 a0_0 a0_1 x3_1 false t622 _ A8.out).mono ?_); rintro e w14 ⟨v623, rfl, ho0, hb⟩; refine ⟨_, rfl, ?_⟩; have HO624 := Aside0.mk (Kd.R_lower ho0 (below_size (zG GE620.out))); replace BK620 := Aside0.mk (blk_below (g := gb620) (o := .cells #[.int .i64 a0_0, .string a0_1] 26 (0, 0)) (zK BK620.out) hb); replace HB := Aside0.mk (below_step (zG GE620.out) hb); (try clear hb); (try clear ho0); obtain ⟨Ao15, co15, eo15⟩ := Kd.R_slice HO624.out; subst eo15))
     go_ret
     exact ⟨zE, zG GE620.out⟩
 ·replace c3 := Bool.eq_false_iff.mpr c3
  subst c3
  have H1 : (some (-1)) = some r := by rw [if_neg (show ¬ (false = true) by decide)] at H; exact H
  clear H
  have H := H1
  clear H1
  obtain rfl := Option.some.inj H
  go_enter Try.func34, Try.ntmps34
  go_wp2_with (first | ((with_reducible refine gate_dst (N := 1) rfl ?_); refine box_event ?hg (N := 1) ?hd (cs := #[.int .i64 a0_0, .string a0_1]) (t := 26) ?hr ?_; (case hd => rfl); (case hg => rfl); (case hr => first | (go_simp; done) | (go_simp; rfl)); intro gb620 hg w16 hbox hb; have BK620 := Aside0.mk (hbox); have GW620 := Aside0.mk ((by rw [hg]; exact (below_size zB) : w.heap.size ≤ gb620)); have GE620 := Aside0.mk ((by rw [hg]; exact (below_size zB) : w.heap.size ≤ gb620)); replace HB := Aside0.mk (below_step zB hb); clear hb hbox hg; have hcz17_0 : w16.cell? ⟨gb620, 0, none⟩ = some (.int .i64 a0_0) := (blk_cell BK620.out 0).trans rfl; have hcz17_1 : w16.cell? ⟨gb620, 1, none⟩ = some (.string a0_1) := (blk_cell BK620.out 1).trans rfl; have hfz17_0 := blk_frozen BK620.out 0; have hfz17_1 := blk_frozen BK620.out 1) | ((with_reducible refine gate_callee (f := 38) rfl ?_); refine goesL_ (some 5) rfl rfl Try.func38 (by kernel_rfl) rfl #[.agg #[.int .i64 a0_0, .string a0_1]] rfl zM ?_; (with_reducible refine (spec_IsAcyclic.calls k a0_0 a0_1 false _ A2.out).mono ?_); rintro e w18 ⟨rfl, hb⟩; refine ⟨_, rfl, ?_⟩; replace BK620 := Aside0.mk (blk_below (g := gb620) (o := .cells #[.int .i64 a0_0, .string a0_1] 26 (0, 0)) (zK BK620.out) hb); replace HB := Aside0.mk (below_step (zG GE620.out) hb); (try clear hb)))
  go_ret
  exact ⟨zE, zG GE620.out⟩
/-! ### impl_LargestConvex: function 35 -/
def impl_LargestConvex.l0 : Nat → List Int → Int → Option (Int)
 | 0, _, _ => none
 | k + 1, x3, x5 => if x3.length = 344 then ((impl_chi_convexSets.f k x3 x5).bind fun t640 => (if (t640.length : Int) = 0 then (impl_LargestConvex.l0 k x3 (wrap64 (x5 - 1))) else (some x5))) else (none)
def impl_LargestConvex.f (k : Nat) (a0_0 : Int) (a0_1 : ByteArray) : Option (Int) := (impl_orderOf.f k a0_0 a0_1).bind fun bt636 => (if bt636.2 = true then (impl_LargestConvex.l0 k bt636.1 a0_0) else (some (-1)))
theorem impl_LargestConvex.mono_l : ∀ k, (∀ y0 y1, LeO (impl_LargestConvex.l0 k y0 y1) (impl_LargestConvex.l0 (k + 1) y0 y1))
 | 0 => fun _ _ r h => by simp [impl_LargestConvex.l0] at h
 | k + 1 => by
  have ih0 := impl_LargestConvex.mono_l k
  ·intro y0 y1
   unfold impl_LargestConvex.l0
   repeat' first
   | (with_reducible exact ih0 _ _)
   | (with_reducible exact impl_chi_convexSets.mono _ _ _)
   | (with_reducible exact impl_orderOf.mono _ _ _)
   | (with_reducible exact LeO.refl _)
   | (with_reducible exact LeO.none _)
   | (with_reducible refine LeO.ite ?_ ?_)
   | (with_reducible refine LeO.bind ?_ (fun _ => ?_))
   | exact ih0 _ _
   | exact impl_chi_convexSets.mono _ _ _
   | exact impl_orderOf.mono _ _ _
   | exact LeO.none _
   | refine LeO.ite ?_ ?_
   | refine LeO.bind ?_ (fun _ => ?_)
theorem impl_LargestConvex.mono : ∀ a0 a1 k, LeO (impl_LargestConvex.f k a0 a1) (impl_LargestConvex.f (k + 1) a0 a1) := by
 intro a0 a1 k
 have ih0 := impl_LargestConvex.mono_l k
 unfold impl_LargestConvex.f
 repeat' first
   | (with_reducible exact ih0 _ _)
   | (with_reducible exact impl_chi_convexSets.mono _ _ _)
   | (with_reducible exact impl_orderOf.mono _ _ _)
   | (with_reducible exact LeO.refl _)
   | (with_reducible exact LeO.none _)
   | (with_reducible refine LeO.ite ?_ ?_)
   | (with_reducible refine LeO.bind ?_ (fun _ => ?_))
   | exact ih0 _ _
   | exact impl_chi_convexSets.mono _ _ _
   | exact impl_orderOf.mono _ _ _
   | exact LeO.none _
   | refine LeO.ite ?_ ?_
   | refine LeO.bind ?_ (fun _ => ?_)
set_option maxHeartbeats 8000000 in
set_option maxRecDepth 100000 in
theorem impl_LargestConvex.calls (k : Nat) (a0_0 : Int) (a0_1 : ByteArray) (r : Int) (w : World) (h : impl_LargestConvex.f k a0_0 a0_1 = some r) :
  Calls Try.prog 35 #[.agg #[.int .i64 a0_0, .string a0_1]] w fun e w' => e = .returned (.int .i64 r) ∧ Below w.heap.size w w' := by
 have hu26 := Try.underlying26
 have HB := Aside0.mk (Below.refl w.heap.size w)
 have H : ((impl_orderOf.f k a0_0 a0_1).bind fun bt636 => (if bt636.2 = true then (impl_LargestConvex.l0 k bt636.1 a0_0) else (some (-1)))) = some r := h
 clear h
 replace H := Option.bind_eq_some_iff.mp H
 obtain ⟨⟨t636, t639⟩, A20, H⟩ := H
 replace H : (if t639 = true then (impl_LargestConvex.l0 k t636 a0_0) else (some (-1))) = some r := H
 have A2 := Aside0.mk A20
 clear A20
 by_cases c3 : t639 = true
 ·subst c3
  have H1 : (impl_LargestConvex.l0 k t636 a0_0) = some r := by rw [if_pos rfl] at H; exact H
  clear H
  have H := H1
  clear H1
  have H' := Aside0.mk H
  clear H
  go_enter Try.func35, Try.ntmps35
  go_wp2_with (first | ((with_reducible refine gate_dst (N := 1) rfl ?_); refine box_event ?hg (N := 1) ?hd (cs := #[.int .i64 a0_0, .string a0_1]) (t := 26) ?hr ?_; (case hd => rfl); (case hg => rfl); (case hr => first | (go_simp; done) | (go_simp; rfl)); intro gb635 hg w4 hbox hb; have BK635 := Aside0.mk (hbox); have GW635 := Aside0.mk ((by rw [hg]; exact (below_size zB) : w.heap.size ≤ gb635)); have GE635 := Aside0.mk ((by rw [hg]; exact (below_size zB) : w.heap.size ≤ gb635)); replace HB := Aside0.mk (below_step zB hb); clear hb hbox hg; have hcz5_0 : w4.cell? ⟨gb635, 0, none⟩ = some (.int .i64 a0_0) := (blk_cell BK635.out 0).trans rfl; have hcz5_1 : w4.cell? ⟨gb635, 1, none⟩ = some (.string a0_1) := (blk_cell BK635.out 1).trans rfl; have hfz5_0 := blk_frozen BK635.out 0; have hfz5_1 := blk_frozen BK635.out 1) | ((with_reducible refine gate_callee (f := 41) rfl ?_); refine goesL_ (some 8) rfl rfl Try.func41 (by kernel_rfl) rfl #[.agg #[.int .i64 a0_0, .string a0_1]] rfl zM ?_; (with_reducible refine (impl_orderOf.calls k a0_0 a0_1 t636 true _ A2.out).mono ?_); rintro e w6 ⟨v637, rfl, ho0, hb⟩; refine ⟨_, rfl, ?_⟩; have HO638 := Aside0.mk (Kd.R_lower ho0 (below_size (zG GE635.out))); replace BK635 := Aside0.mk (blk_below (g := gb635) (o := .cells #[.int .i64 a0_0, .string a0_1] 26 (0, 0)) (zK BK635.out) hb); replace HB := Aside0.mk (below_step (zG GE635.out) hb); (try clear hb); (try clear ho0); have hcz7_0 : w6.cell? ⟨gb635, 0, none⟩ = some (.int .i64 a0_0) := (blk_cell BK635.out 0).trans rfl; have hcz7_1 : w6.cell? ⟨gb635, 1, none⟩ = some (.string a0_1) := (blk_cell BK635.out 1).trans rfl; have hfz7_0 := blk_frozen BK635.out 0; have hfz7_1 := blk_frozen BK635.out 1))
  go_loopg [5] k (fun kq v5 w' => ∃ (x5_1 : Int), v5 = .int .i64 x5_1 ∧ Aside0 (impl_LargestConvex.l0 kq t636 x5_1 = some r) ∧ Aside0 (kq ≤ k) ∧ Aside0 (Kd.R (Kd.int .i64) 68 w' w.heap.size (fun _ => True) v637 t636) ∧ Aside0 (w'.heap[gb635]? = some (.cells #[.int .i64 a0_0, .string a0_1] 26 (0, 0))) ∧ Aside0 (Below w.heap.size w w'))
  case atStart => exact ⟨(a0_0), zF, H', ⟨Nat.le_refl _⟩, ⟨zR HO638.out⟩, ⟨zK BK635.out⟩, ⟨zG GE635.out⟩⟩
  case round =>
   clear H'
   try clear p2
   try clear c3
   try clear c4
   try clear hcz5_0
   try clear hcz5_1
   try clear hcz7_0
   try clear hcz7_1
   try clear hfz5_0
   try clear hfz5_1
   try clear hfz7_0
   try clear hfz7_1
   obtain ⟨x5_1, rfl, HA, HK1, HO_3, BK635, HB⟩ := hrel
   cases gk with
   | zero => exact absurd HA.out (by simp [impl_LargestConvex.l0])
   | succ k1 =>
    have H := HA.out
    clear HA
    simp only [impl_LargestConvex.l0] at H
    by_cases c8 : t636.length = 344
    ·rw [if_pos c8] at H
     have c8b0 := eq_true c8
     have c8b1 : decide (t636.length = 344) = true := decide_eq_true c8
     clear c8
     replace H := Option.bind_eq_some_iff.mp H
     obtain ⟨t640, A90, H⟩ := H
     replace H : (if (t640.length : Int) = 0 then (impl_LargestConvex.l0 k1 t636 (wrap64 (x5_1 - 1))) else (some x5_1)) = some r := H
     have A9 := Aside0.mk A90
     clear A90
     by_cases c10 : (t640.length : Int) = 0
     ·rw [if_pos c10] at H
      have c10b0 : ((t640.length : Int) == 0) = true := beq_iff_eq.mpr c10
      have c10b1 : ((t640.length : Int) != 0) = false := bne_eq_false_iff_eq.mpr c10
      clear c10
      have H' := Aside0.mk H
      clear H
      obtain ⟨go11, co11, eo11, gb11, gl11, cl11, HG11⟩ := Kd.R_form HO_3.out (by have hl_ := Nat.le_of_eq (Eq.symm (zA : t636.length = 344)); omega)
      (first | cases eo11 | (injection eo11 with ea_ en_ ec_; (first | subst ea_ | (injection ea_ with ea_; subst ea_)); subst ec_; clear en_))
      have GB11 := Aside0.mk gb11
      have GG11 := Aside0.mk HG11
      clear gb11 gl11 HG11
      go_wp2_with (first | ((with_reducible refine gate_callee (f := 55) rfl ?_); refine goesL_ (some 17) rfl rfl Try.func55 (by kernel_rfl) rfl #[.pointer (some ⟨go11, 0, none⟩), .int .i64 x5_1] rfl zM ?_; (with_reducible refine (impl_chi_convexSets.calls k1 _ t636 x5_1 t640 _ ?side1 ?side2 A9.out).mono ?_); (case side1 => repeat (first | exact (Kd.R_reads' HO_3.out).2.2 | (with_reducible refine Kd.C_alloc ?_ _) | (with_reducible refine Kd.C_drewN ?_ _) | (with_reducible refine Kd.C_drew ?_))); (case side2 => exact (zA : t636.length = 344)); rintro e w12 ⟨v641, rfl, ho0, hb⟩; refine ⟨_, rfl, ?_⟩; replace HO_3 := Aside0.mk (Kd.R_below (zR HO_3.out) hb); have HO642 := Aside0.mk (Kd.R_lower ho0 (below_size (zG GE635.out))); replace BK635 := Aside0.mk (blk_below (g := gb635) (o := .cells #[.int .i64 a0_0, .string a0_1] 26 (0, 0)) (zK BK635.out) hb); replace HB := Aside0.mk (below_step (zG GE635.out) hb); (try clear hb); (try clear ho0); obtain ⟨Ao13, co13, eo13⟩ := Kd.R_slice HO642.out; subst eo13))
      go_roundg k1
      case measure => have := HK1.out; omega
      case rel => exact ⟨(wrap64 (x5_1 - 1)), zF, H', ⟨by have := HK1.out; omega⟩, ⟨zR HO_3.out⟩, ⟨zK BK635.out⟩, ⟨zG GE635.out⟩⟩
     ·rw [if_neg c10] at H
      have c10b0 : ((t640.length : Int) == 0) = false := beq_eq_false_iff_ne.mpr c10
      have c10b1 : ((t640.length : Int) != 0) = true := bne_iff_ne.mpr c10
      have c10b2 : ¬ (t640 = []) := fun h_ => c10 (by rw [h_]; rfl)
      obtain rfl := Option.some.inj H
      obtain ⟨go14, co14, eo14, gb14, gl14, cl14, HG14⟩ := Kd.R_form HO_3.out (by have hl_ := Nat.le_of_eq (Eq.symm (zA : t636.length = 344)); omega)
      (first | cases eo14 | (injection eo14 with ea_ en_ ec_; (first | subst ea_ | (injection ea_ with ea_; subst ea_)); subst ec_; clear en_))
      have GB14 := Aside0.mk gb14
      have GG14 := Aside0.mk HG14
      clear gb14 gl14 HG14
      go_wp2_with (first | ((with_reducible refine gate_callee (f := 55) rfl ?_); refine goesL_ (some 17) rfl rfl Try.func55 (by kernel_rfl) rfl #[.pointer (some ⟨go14, 0, none⟩), .int .i64 x5_1] rfl zM ?_; (with_reducible refine (impl_chi_convexSets.calls k1 _ t636 x5_1 t640 _ ?side1 ?side2 A9.out).mono ?_); (case side1 => repeat (first | exact (Kd.R_reads' HO_3.out).2.2 | (with_reducible refine Kd.C_alloc ?_ _) | (with_reducible refine Kd.C_drewN ?_ _) | (with_reducible refine Kd.C_drew ?_))); (case side2 => exact (zA : t636.length = 344)); rintro e w15 ⟨v641, rfl, ho0, hb⟩; refine ⟨_, rfl, ?_⟩; replace HO_3 := Aside0.mk (Kd.R_below (zR HO_3.out) hb); have HO642 := Aside0.mk (Kd.R_lower ho0 (below_size (zG GE635.out))); replace BK635 := Aside0.mk (blk_below (g := gb635) (o := .cells #[.int .i64 a0_0, .string a0_1] 26 (0, 0)) (zK BK635.out) hb); replace HB := Aside0.mk (below_step (zG GE635.out) hb); (try clear hb); (try clear ho0); obtain ⟨Ao16, co16, eo16⟩ := Kd.R_slice HO642.out; subst eo16))
      go_ret
      exact ⟨zE, zG GE635.out⟩
    ·rw [if_neg c8] at H
     exact absurd H (by simp)
 ·replace c3 := Bool.eq_false_iff.mpr c3
  subst c3
  have H1 : (some (-1)) = some r := by rw [if_neg (show ¬ (false = true) by decide)] at H; exact H
  clear H
  have H := H1
  clear H1
  obtain rfl := Option.some.inj H
  go_enter Try.func35, Try.ntmps35
  go_wp2_with (first | ((with_reducible refine gate_dst (N := 1) rfl ?_); refine box_event ?hg (N := 1) ?hd (cs := #[.int .i64 a0_0, .string a0_1]) (t := 26) ?hr ?_; (case hd => rfl); (case hg => rfl); (case hr => first | (go_simp; done) | (go_simp; rfl)); intro gb635 hg w17 hbox hb; have BK635 := Aside0.mk (hbox); have GW635 := Aside0.mk ((by rw [hg]; exact (below_size zB) : w.heap.size ≤ gb635)); have GE635 := Aside0.mk ((by rw [hg]; exact (below_size zB) : w.heap.size ≤ gb635)); replace HB := Aside0.mk (below_step zB hb); clear hb hbox hg; have hcz18_0 : w17.cell? ⟨gb635, 0, none⟩ = some (.int .i64 a0_0) := (blk_cell BK635.out 0).trans rfl; have hcz18_1 : w17.cell? ⟨gb635, 1, none⟩ = some (.string a0_1) := (blk_cell BK635.out 1).trans rfl; have hfz18_0 := blk_frozen BK635.out 0; have hfz18_1 := blk_frozen BK635.out 1) | ((with_reducible refine gate_callee (f := 41) rfl ?_); refine goesL_ (some 8) rfl rfl Try.func41 (by kernel_rfl) rfl #[.agg #[.int .i64 a0_0, .string a0_1]] rfl zM ?_; (with_reducible refine (impl_orderOf.calls k a0_0 a0_1 t636 false _ A2.out).mono ?_); rintro e w19 ⟨v637, rfl, ho0, hb⟩; refine ⟨_, rfl, ?_⟩; have HO638 := Aside0.mk (Kd.R_lower ho0 (below_size (zG GE635.out))); replace BK635 := Aside0.mk (blk_below (g := gb635) (o := .cells #[.int .i64 a0_0, .string a0_1] 26 (0, 0)) (zK BK635.out) hb); replace HB := Aside0.mk (below_step (zG GE635.out) hb); (try clear hb); (try clear ho0)))
  go_ret
  exact ⟨zE, zG GE635.out⟩
/-! ### laws_FnExactLargestConvex: function 10 -/
def laws_FnExactLargestConvex.f (k : Nat) (a0_0 : Int) (a0_1 : ByteArray) : Option (Bool) := (laws_szSigns.f a0_0 a0_1 1048576).bind fun t644 => (if t644 < 0 then (some true) else ((laws_toSigns.f a0_0 a0_1).bind fun bt645 => ((spec_LargestConvex.f k bt645.1 bt645.2).bind fun t647 => ((laws_toSigns.f a0_0 a0_1).bind fun bt648 => ((impl_LargestConvex.f k bt648.1 bt648.2).bind fun t650 => (if t650 = t647 then (some true) else (some false)))))))
theorem laws_FnExactLargestConvex.mono : ∀ a0 a1 k, LeO (laws_FnExactLargestConvex.f k a0 a1) (laws_FnExactLargestConvex.f (k + 1) a0 a1) := by
 intro a0 a1 k
 unfold laws_FnExactLargestConvex.f
 repeat' first
   | (with_reducible exact impl_LargestConvex.mono _ _ _)
   | (with_reducible exact spec_LargestConvex.mono _ _ _)
   | (with_reducible exact LeO.refl _)
   | (with_reducible exact LeO.none _)
   | (with_reducible refine LeO.ite ?_ ?_)
   | (with_reducible refine LeO.bind ?_ (fun _ => ?_))
   | exact impl_LargestConvex.mono _ _ _
   | exact spec_LargestConvex.mono _ _ _
   | exact LeO.none _
   | refine LeO.ite ?_ ?_
   | refine LeO.bind ?_ (fun _ => ?_)
set_option maxHeartbeats 8000000 in
set_option maxRecDepth 100000 in
theorem laws_FnExactLargestConvex.calls (k : Nat) (a0_0 : Int) (a0_1 : ByteArray) (r : Bool) (w : World) (h : laws_FnExactLargestConvex.f k a0_0 a0_1 = some r) (hr_ : r = true) :
  Calls Try.prog 10 #[.agg #[.int .i64 a0_0, .string a0_1]] w fun e w' => e = .returned (.bool r) ∧ Below w.heap.size w w' := by
 have hu23 := Try.underlying23
 have HB := Aside0.mk (Below.refl w.heap.size w)
 have H : ((laws_szSigns.f a0_0 a0_1 1048576).bind fun t644 => (if t644 < 0 then (some true) else ((laws_toSigns.f a0_0 a0_1).bind fun bt645 => ((spec_LargestConvex.f k bt645.1 bt645.2).bind fun t647 => ((laws_toSigns.f a0_0 a0_1).bind fun bt648 => ((impl_LargestConvex.f k bt648.1 bt648.2).bind fun t650 => (if t650 = t647 then (some true) else (some false)))))))) = some r := h
 clear h
 replace H := Option.bind_eq_some_iff.mp H
 obtain ⟨t644, A20, H⟩ := H
 replace H : (if t644 < 0 then (some true) else ((laws_toSigns.f a0_0 a0_1).bind fun bt645 => ((spec_LargestConvex.f k bt645.1 bt645.2).bind fun t647 => ((laws_toSigns.f a0_0 a0_1).bind fun bt648 => ((impl_LargestConvex.f k bt648.1 bt648.2).bind fun t650 => (if t650 = t647 then (some true) else (some false))))))) = some r := H
 have A2 := Aside0.mk A20
 clear A20
 by_cases c3 : t644 < 0
 ·rw [if_pos c3] at H
  have c3b0 : decide (t644 < 0) = true := decide_eq_true c3
  clear c3
  obtain rfl := Option.some.inj H
  go_enter Try.func10, Try.ntmps10
  go_wp2_with (first | ((with_reducible refine gate_dst (N := 1) rfl ?_); refine box_event ?hg (N := 1) ?hd (cs := #[.int .i64 a0_0, .string a0_1]) (t := 23) ?hr ?_; (case hd => rfl); (case hg => rfl); (case hr => first | (go_simp; done) | (go_simp; rfl)); intro gb643 hg w4 hbox hb; have BK643 := Aside0.mk (hbox); have GW643 := Aside0.mk ((by rw [hg]; exact (below_size zB) : w.heap.size ≤ gb643)); have GE643 := Aside0.mk ((by rw [hg]; exact (below_size zB) : w.heap.size ≤ gb643)); replace HB := Aside0.mk (below_step zB hb); clear hb hbox hg; have hcz5_0 : w4.cell? ⟨gb643, 0, none⟩ = some (.int .i64 a0_0) := (blk_cell BK643.out 0).trans rfl; have hcz5_1 : w4.cell? ⟨gb643, 1, none⟩ = some (.string a0_1) := (blk_cell BK643.out 1).trans rfl; have hfz5_0 := blk_frozen BK643.out 0; have hfz5_1 := blk_frozen BK643.out 1) | ((with_reducible refine gate_callee (f := 12) rfl ?_); refine goesL_ (some 8) rfl rfl Try.func12 (by kernel_rfl) rfl #[.agg #[.int .i64 a0_0, .string a0_1], .int .i64 1048576] rfl zM ?_; (with_reducible refine (laws_szSigns.calls a0_0 a0_1 1048576 t644 _ A2.out).mono ?_); rintro e w6 ⟨rfl, hb⟩; refine ⟨_, rfl, ?_⟩; replace BK643 := Aside0.mk (blk_below (g := gb643) (o := .cells #[.int .i64 a0_0, .string a0_1] 23 (0, 0)) (zK BK643.out) hb); replace HB := Aside0.mk (below_step (zG GE643.out) hb); (try clear hb)))
  go_ret
  exact ⟨zE, zG GE643.out⟩
 ·rw [if_neg c3] at H
  have c3b0 : decide (t644 < 0) = false := decide_eq_false c3
  clear c3
  replace H := Option.bind_eq_some_iff.mp H
  obtain ⟨⟨t645, t646⟩, A70, H⟩ := H
  replace H : ((spec_LargestConvex.f k t645 t646).bind fun t647 => ((laws_toSigns.f a0_0 a0_1).bind fun bt648 => ((impl_LargestConvex.f k bt648.1 bt648.2).bind fun t650 => (if t650 = t647 then (some true) else (some false))))) = some r := H
  have A7 := Aside0.mk A70
  clear A70
  replace H := Option.bind_eq_some_iff.mp H
  obtain ⟨t647, A80, H⟩ := H
  replace H : ((laws_toSigns.f a0_0 a0_1).bind fun bt648 => ((impl_LargestConvex.f k bt648.1 bt648.2).bind fun t650 => (if t650 = t647 then (some true) else (some false)))) = some r := H
  have A8 := Aside0.mk A80
  clear A80
  replace H := Option.bind_eq_some_iff.mp H
  obtain ⟨⟨t648, t649⟩, A90, H⟩ := H
  replace H : ((impl_LargestConvex.f k t648 t649).bind fun t650 => (if t650 = t647 then (some true) else (some false))) = some r := H
  have A9 := Aside0.mk A90
  clear A90
  replace H := Option.bind_eq_some_iff.mp H
  obtain ⟨t650, A100, H⟩ := H
  replace H : (if t650 = t647 then (some true) else (some false)) = some r := H
  have A10 := Aside0.mk A100
  clear A100
  by_cases c11 : t650 = t647
  ·rw [if_pos c11] at H
   have c11b0 : (t650 == t647) = true := beq_iff_eq.mpr c11
   have c11b1 : (t650 != t647) = false := bne_eq_false_iff_eq.mpr c11
   clear c11
   obtain rfl := Option.some.inj H
   go_enter Try.func10, Try.ntmps10
   go_wp2_with (first | ((with_reducible refine gate_dst (N := 1) rfl ?_); refine box_event ?hg (N := 1) ?hd (cs := #[.int .i64 a0_0, .string a0_1]) (t := 23) ?hr ?_; (case hd => rfl); (case hg => rfl); (case hr => first | (go_simp; done) | (go_simp; rfl)); intro gb643 hg w12 hbox hb; have BK643 := Aside0.mk (hbox); have GW643 := Aside0.mk ((by rw [hg]; exact (below_size zB) : w.heap.size ≤ gb643)); have GE643 := Aside0.mk ((by rw [hg]; exact (below_size zB) : w.heap.size ≤ gb643)); replace HB := Aside0.mk (below_step zB hb); clear hb hbox hg; have hcz13_0 : w12.cell? ⟨gb643, 0, none⟩ = some (.int .i64 a0_0) := (blk_cell BK643.out 0).trans rfl; have hcz13_1 : w12.cell? ⟨gb643, 1, none⟩ = some (.string a0_1) := (blk_cell BK643.out 1).trans rfl; have hfz13_0 := blk_frozen BK643.out 0; have hfz13_1 := blk_frozen BK643.out 1) | ((with_reducible refine gate_callee (f := 12) rfl ?_); refine goesL_ (some 8) rfl rfl Try.func12 (by kernel_rfl) rfl #[.agg #[.int .i64 a0_0, .string a0_1], .int .i64 1048576] rfl zM ?_; (with_reducible refine (laws_szSigns.calls a0_0 a0_1 1048576 t644 _ A2.out).mono ?_); rintro e w14 ⟨rfl, hb⟩; refine ⟨_, rfl, ?_⟩; replace BK643 := Aside0.mk (blk_below (g := gb643) (o := .cells #[.int .i64 a0_0, .string a0_1] 23 (0, 0)) (zK BK643.out) hb); replace HB := Aside0.mk (below_step (zG GE643.out) hb); (try clear hb); have hcz15_0 : w14.cell? ⟨gb643, 0, none⟩ = some (.int .i64 a0_0) := (blk_cell BK643.out 0).trans rfl; have hcz15_1 : w14.cell? ⟨gb643, 1, none⟩ = some (.string a0_1) := (blk_cell BK643.out 1).trans rfl; have hfz15_0 := blk_frozen BK643.out 0; have hfz15_1 := blk_frozen BK643.out 1) | ((with_reducible refine gate_callee (f := 14) rfl ?_); refine goesL_ (some 12) rfl rfl Try.func14 (by kernel_rfl) rfl #[.agg #[.int .i64 a0_0, .string a0_1]] rfl zM ?_; (with_reducible refine (laws_toSigns.calls a0_0 a0_1 t645 t646 _ A7.out).mono ?_); rintro e w16 ⟨rfl, hb⟩; refine ⟨_, rfl, ?_⟩; replace BK643 := Aside0.mk (blk_below (g := gb643) (o := .cells #[.int .i64 a0_0, .string a0_1] 23 (0, 0)) (zK BK643.out) hb); replace HB := Aside0.mk (below_step (zG GE643.out) hb); (try clear hb)) | ((with_reducible refine gate_callee (f := 34) rfl ?_); refine goesL_ (some 13) rfl rfl Try.func34 (by kernel_rfl) rfl #[.agg #[.int .i64 t645, .string t646]] rfl zM ?_; (with_reducible refine (spec_LargestConvex.calls k t645 t646 t647 _ A8.out).mono ?_); rintro e w17 ⟨rfl, hb⟩; refine ⟨_, rfl, ?_⟩; replace BK643 := Aside0.mk (blk_below (g := gb643) (o := .cells #[.int .i64 a0_0, .string a0_1] 23 (0, 0)) (zK BK643.out) hb); replace HB := Aside0.mk (below_step (zG GE643.out) hb); (try clear hb); have hcz18_0 : w17.cell? ⟨gb643, 0, none⟩ = some (.int .i64 a0_0) := (blk_cell BK643.out 0).trans rfl; have hcz18_1 : w17.cell? ⟨gb643, 1, none⟩ = some (.string a0_1) := (blk_cell BK643.out 1).trans rfl; have hfz18_0 := blk_frozen BK643.out 0; have hfz18_1 := blk_frozen BK643.out 1) | ((with_reducible refine gate_callee (f := 14) rfl ?_); refine goesL_ (some 15) rfl rfl Try.func14 (by kernel_rfl) rfl #[.agg #[.int .i64 a0_0, .string a0_1]] rfl zM ?_; (with_reducible refine (laws_toSigns.calls a0_0 a0_1 t648 t649 _ A9.out).mono ?_); rintro e w19 ⟨rfl, hb⟩; refine ⟨_, rfl, ?_⟩; replace BK643 := Aside0.mk (blk_below (g := gb643) (o := .cells #[.int .i64 a0_0, .string a0_1] 23 (0, 0)) (zK BK643.out) hb); replace HB := Aside0.mk (below_step (zG GE643.out) hb); (try clear hb)) | ((with_reducible refine gate_callee (f := 35) rfl ?_); refine goesL_ (some 16) rfl rfl Try.func35 (by kernel_rfl) rfl #[.agg #[.int .i64 t648, .string t649]] rfl zM ?_; (with_reducible refine (impl_LargestConvex.calls k t648 t649 t650 _ A10.out).mono ?_); rintro e w20 ⟨rfl, hb⟩; refine ⟨_, rfl, ?_⟩; replace BK643 := Aside0.mk (blk_below (g := gb643) (o := .cells #[.int .i64 a0_0, .string a0_1] 23 (0, 0)) (zK BK643.out) hb); replace HB := Aside0.mk (below_step (zG GE643.out) hb); (try clear hb)))
   go_ret
   exact ⟨zE, zG GE643.out⟩
  ·rw [if_neg c11] at H
   have c11b0 : (t650 == t647) = false := beq_eq_false_iff_ne.mpr c11
   have c11b1 : (t650 != t647) = true := bne_iff_ne.mpr c11
   obtain rfl := Option.some.inj H
   cases hr_
end Go.Proofs.Ytbjncemaeagjjaa.PX
namespace Go.Proofs.Ytbjncemaeagjjaa.M
open Go.RowKit Go.Proofs.YtbjncemaeagjjaaW.PrintWords Go.Proofs.Ytbjncemaeagjjaa.PX Go.Proofs.Ytbjncemaeagjjaa.G Go.Proofs.YtbjncemaeagjjaaW.PrintMore
/-- The first three elements are a convex set. -/
theorem sumN_congr {c c' : Nat → Bool} : ∀ {i : Nat}, (∀ p, p < i → c p = c' p) → sumN c i = sumN c' i
  | 0, _ => rfl
  | i + 1, h => by
    rw [sumN, sumN, h i (by omega), sumN_congr (i := i) fun p hp => h p (by omega)]
def bit7Chk : Bool := (List.range 8).all fun n => decide (n < 3) || decide (sumN (fun p => (7 : Nat).testBit p) n = 7)
theorem bit7Chk_ok : bit7Chk = true := by decide +kernel
theorem bit7 : ∀ p : Nat, p < 7 → (7 : Nat).testBit p = decide (p < 3) := by decide
theorem conv7 {n : Nat} (t : ByteArray) (h0 : 3 ≤ n) (h1 : n ≤ 7) : convB n t 7 = true := by
  have e : extN n t 7 = 7 := by
    have k := List.all_eq_true.1 bit7Chk_ok n (List.mem_range.2 (by omega))
    simp only [Bool.or_eq_true, decide_eq_true_eq] at k
    have k2 : sumN (fun p => (7 : Nat).testBit p) n = 7 := k.resolve_left (by omega)
    refine Eq.trans (sumN_congr fun p hp => ?_) k2
    unfold extB
    rw [bit7 p (by omega)]
    by_cases g : p < 3
    · rw [decide_eq_true g, Bool.true_and]
      have : inB n t 7 p = false := by
        rw [Bool.eq_false_iff]
        intro hi
        obtain ⟨⟨a, b, c⟩, hm, hq⟩ := List.any_eq_true.1 hi
        obtain ⟨m1, m2, m3⟩ := mem_trips hm
        simp only [insB, Bool.and_eq_true, decide_eq_true_eq] at hq
        obtain ⟨⟨⟨⟨⟨⟨d1, d2⟩, d3⟩, _⟩, ba⟩, bb⟩, bc⟩ := hq
        rw [bit7 _ (by omega), decide_eq_true_eq] at ba bb bc
        omega
      rw [this]
      rfl
    · rw [decide_eq_false g]
      rfl
  unfold convB
  rw [e]
  decide
def bigV (n : Nat) (t : ByteArray) : Nat → Int
  | 0 => 0
  | k + 1 => if ((pickL n (convB n t) ((k + 1 : Nat) : Int)).length : Int) = 0 then bigV n t k else ((k + 1 : Nat) : Int)
theorem pick3 {n : Nat} (t : ByteArray) (h0 : 3 ≤ n) (h1 : n ≤ 7) : ¬ ((pickL n (convB n t) ((2 + 1 : Nat) : Int)).length : Int) = 0 := by
  have hp : 2 ^ 3 ≤ 2 ^ n := Nat.pow_le_pow_right (by omega) h0
  have hm : (7 : Nat) ∈ (List.range' 0 (2 ^ n)).filter (pickQ (convB n t) ((2 + 1 : Nat) : Int)) := by
    rw [List.mem_filter]
    refine ⟨?_, ?_⟩
    · rw [List.mem_range'_1]; omega
    · unfold pickQ
      rw [conv7 t h0 h1]
      decide
  intro e
  have := List.length_pos_of_mem hm
  unfold pickL at e
  rw [List.length_map] at e
  omega
/-- What LargestConvex answers. -/
def largeA (n : Int) (t : ByteArray) : Int := if acyOk n t = true then bigV n.toNat t n.toNat else -1
theorem impl_large (n : Int) (t : ByteArray) (hs : t.size ≤ 9223372036854775807) : Ev (fun k => impl_LargestConvex.f k n t) (largeA n t) := by
  unfold impl_LargestConvex.f largeA
  refine Ev.bind (order_ev n t hs) ?_
  by_cases h : acyOk n t = true
  · rw [if_pos h, if_pos h]
    obtain ⟨N, rfl, ha, h3, h7⟩ := acy_are h
    simp only [Int.toNat_natCast]
    refine ev_pos (by first | rfl | trivial) ?_
    have key : ∀ d k : Nat, k = 2 + d → k + 1 ≤ N → Ev (fun q => impl_LargestConvex.l0 q (tblL N t) ((k + 1 : Nat) : Int)) (bigV N t (k + 1)) := by
      intro d
      induction d with
      | zero =>
        intro k hk hN
        obtain rfl : k = 2 := by omega
        refine ev_step ?_
        simp only [impl_LargestConvex.l0]
        refine ev_pos (tblL_length _ _) (Ev.bind (impl_convSets ha _) (ev_neg (pick3 t h3 h7) ?_))
        rw [bigV, if_neg (pick3 t h3 h7)]
        exact Ev.now _
      | succ d ih =>
        intro k hk hN
        refine ev_step ?_
        simp only [impl_LargestConvex.l0]
        refine ev_pos (tblL_length _ _) (Ev.bind (impl_convSets ha _) ?_)
        rw [bigV]
        by_cases g : ((pickL N (convB N t) ((k + 1 : Nat) : Int)).length : Int) = 0
        · rw [if_pos g]
          refine ev_pos g ?_
          rw [wrap_id (by omega) (by omega), show ((k + 1 : Nat) : Int) - 1 = ((k : Nat) : Int) by omega]
          obtain ⟨k', rfl⟩ : ∃ k', k = k' + 1 := ⟨k - 1, by omega⟩
          exact ih k' (by omega) (by omega)
        · rw [if_neg g]
          exact ev_neg g (Ev.now _)
    have := key (N - 3) (N - 1) (by omega) (by omega)
    rw [show N - 1 + 1 = N by omega] at this
    exact this
  · rw [if_neg h, if_neg h]
    exact ev_neg (by decide) (Ev.now _)
theorem spec_large (n : Int) (t : ByteArray) (hs : t.size ≤ 9223372036854775807) : Ev (fun k => spec_LargestConvex.f k n t) (largeA n t) := by
  unfold spec_LargestConvex.f largeA
  refine Ev.bind (spec_isA n t hs) ?_
  by_cases h : acyOk n t = true
  · rw [if_pos h]
    obtain ⟨N, rfl, ha, h3, h7⟩ := acy_are h
    simp only [Int.toNat_natCast]
    refine ev_pos h ?_
    have key : ∀ d k : Nat, k = 2 + d → k + 1 ≤ N → Ev (fun q => spec_LargestConvex.l0 q ((k + 1 : Nat) : Int) (N : Int) t) (bigV N t (k + 1)) := by
      intro d
      induction d with
      | zero =>
        intro k hk hN
        obtain rfl : k = 2 := by omega
        refine ev_step ?_
        simp only [spec_LargestConvex.l0]
        refine Ev.bind (spec_convSets h hs (by omega) (by omega)) (ev_neg (pick3 t h3 h7) ?_)
        rw [bigV, if_neg (pick3 t h3 h7)]
        exact Ev.now _
      | succ d ih =>
        intro k hk hN
        refine ev_step ?_
        simp only [spec_LargestConvex.l0]
        refine Ev.bind (spec_convSets h hs (by omega) (by omega)) ?_
        rw [bigV]
        by_cases g : ((pickL N (convB N t) ((k + 1 : Nat) : Int)).length : Int) = 0
        · rw [if_pos g]
          refine ev_pos g ?_
          rw [wrap_id (by omega) (by omega), show ((k + 1 : Nat) : Int) - 1 = ((k : Nat) : Int) by omega]
          obtain ⟨k', rfl⟩ : ∃ k', k = k' + 1 := ⟨k - 1, by omega⟩
          exact ih k' (by omega) (by omega)
        · rw [if_neg g]
          exact ev_neg g (Ev.now _)
    have := key (N - 3) (N - 1) (by omega) (by omega)
    rw [show N - 1 + 1 = N by omega] at this
    exact this
  · rw [if_neg h]
    exact ev_neg h (Ev.now _)
end Go.Proofs.Ytbjncemaeagjjaa.M
namespace Go.Proofs.Ytbjncemaeagjjaa.Pure
open Go.RowKit Go.Proofs.YtbjncemaeagjjaaW.PrintWords Go.Proofs.Ytbjncemaeagjjaa.PX Go.Proofs.Ytbjncemaeagjjaa.M
theorem FnExactLargestConvex (n : Int) (t : ByteArray) (_ : (Lit.int .i64 n).wf = true) (hs : t.size ≤ 9223372036854775807) :
    ∃ k, laws_FnExactLargestConvex.f k n t = some true := by
  refine Ev.rounds (r := true) ?_
  unfold laws_FnExactLargestConvex.f
  obtain ⟨r, hr⟩ := sz_signs n t
  refine ev_call hr ?_
  by_cases h : r < 0
  · exact ev_pos h (Ev.now _)
  · exact ev_neg h (ev_call (a := (n, t)) rfl (Ev.bind (spec_large n t hs) (ev_call (a := (n, t)) rfl (Ev.bind (impl_large n t hs) (ev_pos rfl (Ev.now _))))))
end Go.Proofs.Ytbjncemaeagjjaa.Pure
namespace Go.Proofs.Ytbjncemaeagjjaa.fnExactLargestConvex
open Go.ChangeShapes Go.WideShapes Go.ChangeAt Go.RowKit Go.Joins
open Go.ChangeMaps (open_string shut_string)
set_option linter.unusedVariables false
theorem own : ownKnob Try.prog.godebug = none := by kernel_rfl
theorem str_mk {H : Type} {enc : TypeId × Value → H} {P : Program} {w : World} {base : Nat} {spare : Nat → Bool} {held : Bool} {t : TypeId} {s : ByteArray} (ht : P.underlying t = some .string) (hs : s.size ≤ maxLen) : DataW.trod enc P w base spare held 1 t [.string s] = some (.lit (.string s.data.toList), []) := by
  simp [DataW.trod, ht, hs]
set_option maxRecDepth 100000 in
theorem lifted (os : Os) (started : os.Started) (H : Type) (enc : TypeId × Value → H) :
    ReturnsInHanded {} Try.checked os 10 .any (Rows.fnExactLargestConvexSpec.pre6 enc Try.prog Try.f10 Rows.fnExactLargestConvexRow.domain false) (Rows.fnExactLargestConvexSpec.post enc Try.prog Try.f10 false true false false) := by
  refine returnsInHanded_of_change_sized (C := Try.checked) own started (by kernel_rfl) Try.func10
    (ChangeSpec.witness6 (enc := enc) (C := Try.checked) false ⟨#[], #[.agg #[.int .i64 0, .string ByteArray.empty]], []⟩ 8 (by kernel_rfl) (by kernel_rfl) (by kernel_rfl) (by kernel_rfl)) ?_
  intro W base args ds gs before hval0 hW hcnd hsz0 _
  have hsz : (DataW.weightsEach Try.prog (Try.f10.params.toList ++ Rows.fnExactLargestConvexSpec.plain.varTypes Try.prog) (ds ++ gs)).all (· ≤ reachBytes) = true := hsz0
  have hval : ∀ (j : Nat) t v, Try.f10.params[j]? = some t → args[j]? = some v → Value.okWide Try.prog W .any base t v := hval0
  have hW' := hW
  obtain ⟨p, q, hA0, hV, rfl, hfz, hnd⟩ := hW
  have hA : DataW.TrodAll enc Try.prog W 0 (fun _ => true) true Try.f10.params.toList args.toList ds p := hA0
  rw [Try.params10] at hA hval hsz
  obtain ⟨v0, vs0, d0, ds0, p0, q0, hargs, rfl, rfl, h0, r0⟩ := trodAll_cons hA
  obtain ⟨rfl, rfl, rfl⟩ := trodAll_nil r0
  obtain rfl : args = #[v0] := by cases args; simp_all
  obtain ⟨rfl, rfl⟩ := trodVars_none hV
  obtain ⟨c0_0, c0_1, y0_0, y0_1, m0, rfl, rfl, rfl, hy0_0, hy0_1⟩ := open_agg2 Try.underlying23 (by kernel_rfl) (by kernel_rfl) (hval 0 23 v0 rfl rfl) h0
  obtain ⟨a0_0, e0_0, rfl, wa0⟩ := DataW.trod_int Try.underlying3 hy0_0
  obtain ⟨a0_1, e0_1, rfl, ws0⟩ := DataW.trod_string Try.underlying9 hy0_1
  simp only [List.cons.injEq, and_true] at e0_0 e0_1
  subst e0_0 e0_1
  clear hA0 hval0 hsz0 hsz
  obtain ⟨k, hP⟩ := Pure.FnExactLargestConvex a0_0 a0_1 wa0 ws0
  refine (PX.laws_FnExactLargestConvex.calls k a0_0 a0_1 true W hP rfl).mono fun e W' ⟨he, bel⟩ => ?_
  subst he
  exact ⟨_, rfl, _, _, _, [], _, [], hW', trodAll_mk1 (shut_bool Try.underlying4 _), (trodAll_cons_mk (shut_agg2 Try.underlying23 (by kernel_rfl) (by kernel_rfl) ⟨_, trod_int_mk 0 Try.underlying3 wa0⟩ ⟨_, str_mk Try.underlying9 ws0⟩) trodAll_mk0), rfl, bel.frame _, fun h => by cases h⟩
theorem over : Rows.fnExactLargestConvexRow.holds Try.pinned (OpenSpec.ofChange Rows.fnExactLargestConvexSpec) :=
  OpenClaim.holds_of_wide 10 Try.f10 rfl rfl rfl rfl rfl rfl rfl ⟨rfl, rfl, rfl, rfl, rfl⟩ rfl rfl rfl rfl rfl (by kernel_rfl) Try.func10 (by kernel_rfl)
    (of_decide_eq_true (by kernel_rfl)) (by unfold Func.isWrapper; first | (rw [if_pos (by decide +kernel)]; kernel_rfl) | (rw [if_neg (by decide +kernel)]; exact ⟨rfl, rfl⟩))
    (fun os started H enc _ => lifted os started H enc)
theorem proved : Rows.FnExactLargestConvexSaid := over
#print axioms proved
end Go.Proofs.Ytbjncemaeagjjaa.fnExactLargestConvex
namespace Go.Proofs.Ytbjncemaeagjjaa
/-- The row, under a short name, for the claim. -/
theorem fnExactLargestConvex_holds : Rows.FnExactLargestConvexSaid := fnExactLargestConvex.proved
end Go.Proofs.Ytbjncemaeagjjaa
