/- FnExactHalvingPairs returns true for all arguments and leaves them as they were. No condition. -/
import Derived.Test.YtbjncemaeagjjaaProg
import Derived.Test.YtbjncemaeagjjaaRows
import Derived.WalkKit
import Derived.ProofKit
import Derived.OpenShut
import Derived.ShutString
import Derived.ChangeOld
import Derived.Below
import Derived.SizedLaws
import Derived.Lib.SmallJoins
import Derived.ChangeSame
import Derived.Test.YtbjncemaeagjjaaV1
import Derived.Test.YtbjncemaeagjjaaBuzpdmf1
import Derived.Test.YtbjncemaeagjjaaBuzpdmf2
import Derived.Test.YtbjncemaeagjjaaBzhecwb1
import Derived.Test.YtbjncemaeagjjaaBuzpdmf3
set_option linter.unusedVariables false
set_option linter.unusedSimpArgs false
namespace Go.Proofs.Ytbjncemaeagjjaa.PX
open Go.RowKit Go.Proofs.Ytbjncemaeagjjaa.G Go.Proofs.YtbjncemaeagjjaaW.PrintWords Go.Proofs.YtbjncemaeagjjaaW.PrintLast Go.Proofs.YtbjncemaeagjjaaW.PrintMore
attribute [local go_sem] max2_int min2_int max_two min_two max_three min_three max_four min_four   -- for this text's walks alone
set_option linter.unusedVariables false
set_option linter.unusedSimpArgs false
/-! ### spec_HalvingPairs: function 28 -/
mutual
def spec_HalvingPairs.l0 : Nat → List (List Int) → Int → Int → ByteArray → Option ((List (List Int)))
 | 0, _, _, _, _ => none
 | k + 1, x3, x4, x405000, x405001 => if x4 < x405000 then ((spec_IsAcyclic.f k x405000 x405001).bind fun t408 => (spec_HalvingPairs.j1 k x3 x4 t408 x405000 x405001)) else (spec_HalvingPairs.j1 k x3 x4 false x405000 x405001)
def spec_HalvingPairs.j1 : Nat → List (List Int) → Int → Bool → Int → ByteArray → Option ((List (List Int)))
 | 0, _, _, _, _, _ => none
 | k + 1, x3, x4, x14, x405000, x405001 => if x14 = true then (spec_HalvingPairs.l1 k x3 x4 (wrap64 (x4 + 1)) x405000 x405001) else (some x3)
def spec_HalvingPairs.l1 : Nat → List (List Int) → Int → Int → Int → ByteArray → Option ((List (List Int)))
 | 0, _, _, _, _, _ => none
 | k + 1, x3, x4, x5, x405000, x405001 => if x5 < x405000 then ((spec_l7Left.f k x405000 x405001 x4 x5).bind fun t409 => ((spec_l7Left.f k x405000 x405001 x5 x4).bind fun t410 => ((spec_l1In.f (wrap64 (t409 - t410)) (-1) 1).bind fun t411 => (if t411 = true then (if x3.length < 5864062014805 then (spec_HalvingPairs.l1 k (x3 ++ [(([x4, x5] : List Int))]) x4 (wrap64 (x5 + 1)) x405000 x405001) else (none)) else (spec_HalvingPairs.l1 k x3 x4 (wrap64 (x5 + 1)) x405000 x405001))))) else (spec_HalvingPairs.l0 k x3 (wrap64 (x4 + 1)) x405000 x405001)
end
def spec_HalvingPairs.f (k : Nat) (a0_0 : Int) (a0_1 : ByteArray) : Option ((List (List Int))) := spec_HalvingPairs.l0 k (([] : List (List Int))) 0 a0_0 a0_1
theorem spec_HalvingPairs.mono_l : ∀ k, (∀ y0 y1 y2 y3, LeO (spec_HalvingPairs.l0 k y0 y1 y2 y3) (spec_HalvingPairs.l0 (k + 1) y0 y1 y2 y3)) ∧ (∀ y0 y1 y2 y3 y4, LeO (spec_HalvingPairs.j1 k y0 y1 y2 y3 y4) (spec_HalvingPairs.j1 (k + 1) y0 y1 y2 y3 y4)) ∧ (∀ y0 y1 y2 y3 y4, LeO (spec_HalvingPairs.l1 k y0 y1 y2 y3 y4) (spec_HalvingPairs.l1 (k + 1) y0 y1 y2 y3 y4))
 | 0 => ⟨fun _ _ _ _ r h => by simp [spec_HalvingPairs.l0] at h, fun _ _ _ _ _ r h => by simp [spec_HalvingPairs.j1] at h, fun _ _ _ _ _ r h => by simp [spec_HalvingPairs.l1] at h⟩
 | k + 1 => by
  obtain ⟨ih0, ih1, ih2⟩ := spec_HalvingPairs.mono_l k
  refine ⟨?_, ?_, ?_⟩ <;> intros <;> (first | unfold spec_HalvingPairs.l0 | unfold spec_HalvingPairs.j1 | unfold spec_HalvingPairs.l1) <;> repeat' first
  | (with_reducible exact ih0 _ _ _ _)
  | (with_reducible exact ih1 _ _ _ _ _)
  | (with_reducible exact ih2 _ _ _ _ _)
  | (with_reducible exact spec_IsAcyclic.mono _ _ _)
  | (with_reducible exact spec_l7Left.mono _ _ _ _ _)
  | (with_reducible exact LeO.refl _)
  | (with_reducible exact LeO.none _)
  | (with_reducible refine LeO.ite ?_ ?_)
  | (with_reducible refine LeO.bind ?_ (fun _ => ?_))
  | exact ih0 _ _ _ _
  | exact ih1 _ _ _ _ _
  | exact ih2 _ _ _ _ _
  | exact spec_IsAcyclic.mono _ _ _
  | exact spec_l7Left.mono _ _ _ _ _
  | exact LeO.none _
  | refine LeO.ite ?_ ?_
  | refine LeO.bind ?_ (fun _ => ?_)
theorem spec_HalvingPairs.mono : ∀ a0 a1 k, LeO (spec_HalvingPairs.f k a0 a1) (spec_HalvingPairs.f (k + 1) a0 a1) := by
 intro a0 a1 k
 obtain ⟨ih0, ih1, ih2⟩ := spec_HalvingPairs.mono_l k
 unfold spec_HalvingPairs.f
 repeat' first
   | (with_reducible exact ih0 _ _ _ _)
   | (with_reducible exact ih1 _ _ _ _ _)
   | (with_reducible exact ih2 _ _ _ _ _)
   | (with_reducible exact spec_IsAcyclic.mono _ _ _)
   | (with_reducible exact spec_l7Left.mono _ _ _ _ _)
   | (with_reducible exact LeO.refl _)
   | (with_reducible exact LeO.none _)
   | (with_reducible refine LeO.ite ?_ ?_)
   | (with_reducible refine LeO.bind ?_ (fun _ => ?_))
   | exact ih0 _ _ _ _
   | exact ih1 _ _ _ _ _
   | exact ih2 _ _ _ _ _
   | exact spec_IsAcyclic.mono _ _ _
   | exact spec_l7Left.mono _ _ _ _ _
   | exact LeO.none _
   | refine LeO.ite ?_ ?_
   | refine LeO.bind ?_ (fun _ => ?_)
def spec_HalvingPairs.T8 : Bool × List (List Nat × List Nat) := (true, [([], []), ([], []), ([], []), ([0, 1, 2], [0, 1, 2]), ([], []), ([], []), ([], []), ([4, 5, 6, 3], [4, 5, 6]), ([3, 7], [3, 7]), ([8, 7], [8])])
def spec_HalvingPairs.B8 : List Nat := [0, 0, 0, 7, 0, 0, 0, 127, 255, 511]
theorem spec_HalvingPairs.tab8 : rtab .any (opsOf Try.f28 8) = spec_HalvingPairs.T8 := by kernel_rfl
theorem spec_HalvingPairs.bits8 : waitsOk spec_HalvingPairs.T8.2 spec_HalvingPairs.B8 = true := by kernel_rfl
set_option maxHeartbeats 8000000 in
set_option maxRecDepth 100000 in
theorem spec_HalvingPairs.calls (k : Nat) (a0_0 : Int) (a0_1 : ByteArray) (r : List (List Int)) (w : World) (h : spec_HalvingPairs.f k a0_0 a0_1 = some r) :
  Calls Try.prog 28 #[.agg #[.int .i64 a0_0, .string a0_1]] w fun e w' => ∃ v0_ : Value, e = .returned (v0_) ∧ Kd.S (Kd.slice 3 (Kd.int .i64)) 34 w' w.heap.size (fun _ => True) v0_ r ∧ Below w.heap.size w w' := by
 have hu26 := Try.underlying26
 have HB := Aside0.mk (Below.refl w.heap.size w)
 have H : (spec_HalvingPairs.l0 k (([] : List (List Int))) 0 a0_0 a0_1) = some r := h
 clear h
 obtain ⟨y405, hy405⟩ : ∃ y_ : List (List Int), y_ = (([] : List (List Int))) := ⟨_, rfl⟩
 replace H : (spec_HalvingPairs.l0 k y405 0 a0_0 a0_1) = some r := by first | (rw [hy405]; with_reducible exact H) | (have H2_ := (Option.bind_some _ _).symm.trans H; rw [hy405]; with_reducible exact H2_) | (have H2_ := (Option.bind_some _ _).symm.trans H; with_reducible exact H2_) | with_reducible exact H | (rw [hy405]; exact H) | exact H
 have Ny405 := Aside0.mk hy405
 clear hy405
 have H' := Aside0.mk H
 clear H
 go_enter Try.func28, Try.ntmps28
 go_wp2_with (first | ((with_reducible refine gate_dst (N := 1) rfl ?_); refine box_event ?hg (N := 1) ?hd (cs := #[.int .i64 a0_0, .string a0_1]) (t := 26) ?hr ?_; (case hd => rfl); (case hg => rfl); (case hr => first | (go_simp; done) | (go_simp; rfl)); intro gb404 hg w2 hbox hb; have BK404 := Aside0.mk (hbox); have GW404 := Aside0.mk ((by rw [hg]; exact (below_size zB) : w.heap.size ≤ gb404)); have GE404 := Aside0.mk ((by rw [hg]; exact (below_size zB) : w.heap.size ≤ gb404)); replace HB := Aside0.mk (below_step zB hb); clear hb hbox hg) | ((with_reducible refine gate_dst (N := 6) rfl ?_); refine Kd.S_lit (Kd.slice 3 (Kd.int .i64)) _ 34 ?hg (N := 6) ?hd (xs := ([] : List (List Int))) (inner := []) (ok := fun _ => True) (okp := fun _ => True) ?hr ?hp (fun _ hk => hk) trivial (Below.refl _ _) (Nat.le_refl _) (by simp) ?_; (case hd => rfl); (case hg => rfl); (case hr => first | (go_simp; done) | (go_simp; rfl)); (case hp => exact (Reps.none _ _)); intro v406 w3 ho4 hb hg_ hnew_; clear hg_ hnew_; (first | rw [← Ny405.out] at ho4 | (simp only [Int.reduceToNat] at ho4; rw [← Ny405.out] at ho4)); have HO407 := Aside0.mk (Kd.S_lower ho4 (below_size (zG GE404.out))); replace BK404 := Aside0.mk (blk_below (g := gb404) (o := .cells #[.int .i64 a0_0, .string a0_1] 26 (0, 0)) (zK BK404.out) hb); replace HB := Aside0.mk (below_step (zG GE404.out) hb); clear hb ho4))
 go_loopg [3, 4] k (fun kq v3 v4 w' => ∃ (x3_1 : List (List Int)) (x4_1 : Int), v4 = .int .i64 x4_1 ∧ Aside0 (spec_HalvingPairs.l0 kq x3_1 x4_1 a0_0 a0_1 = some r) ∧ Aside0 (kq ≤ k) ∧ Aside0 (Kd.S (Kd.slice 3 (Kd.int .i64)) 34 w' w.heap.size (fun _ => True) v3 x3_1) ∧ Aside0 (w'.heap[gb404]? = some (.cells #[.int .i64 a0_0, .string a0_1] 26 (0, 0))) ∧ Aside0 (Below w.heap.size w w'))
 case atStart => exact ⟨(y405), (0), zF, H', ⟨Nat.le_refl _⟩, ⟨by (with_reducible repeat (first | apply Kd.S_alloc | apply Kd.S_drewN | apply Kd.S_drew)); exact HO407.out⟩, ⟨zK BK404.out⟩, ⟨zG GE404.out⟩⟩
 case round =>
  clear H'
  try clear c2
  try clear p2
  obtain ⟨x3_1, x4_1, rfl, HA, HK1, HO_3, BK404, HB⟩ := hrel
  cases gk with
  | zero => exact absurd HA.out (by simp [spec_HalvingPairs.l0])
  | succ k1 =>
   have H := HA.out
   clear HA
   simp only [spec_HalvingPairs.l0] at H
   have HC5 := Aside0.mk H
   clear H
   go_upto_region 3 with (fail)
   go_cut [14] (fun v14 wc => ∃ (kq : Nat) (x14_4 : Bool), v14 = .bool x14_4 ∧ Aside0 (spec_HalvingPairs.j1 kq x3_1 x4_1 x14_4 a0_0 a0_1 = some r) ∧ Aside0 (kq ≤ k1) ∧ Aside0 (Kd.S (Kd.slice 3 (Kd.int .i64)) 34 wc w.heap.size (fun _ => True) u3 x3_1) ∧ Aside0 (wc.heap[gb404]? = some (.cells #[.int .i64 a0_0, .string a0_1] 26 (0, 0))) ∧ Aside0 (Below w.heap.size w wc))
   case first =>
    have H := HC5.out
    clear HC5
    by_cases c6 : x4_1 < a0_0
    ·rw [if_pos c6] at H
     have c6b0 : decide (x4_1 < a0_0) = true := decide_eq_true c6
     clear c6
     (first | rw [c6b0] | (simp only [i64_w, i32_w]; rw [c6b0]) | skip)
     replace H := Option.bind_eq_some_iff.mp H
     obtain ⟨t408, A70, H⟩ := H
     replace H : (spec_HalvingPairs.j1 k1 x3_1 x4_1 t408 a0_0 a0_1) = some r := H
     have A7 := Aside0.mk A70
     clear A70
     have H' := Aside0.mk H
     clear H
     have hcz8_0 : wr.cell? ⟨gb404, 0, none⟩ = some (.int .i64 a0_0) := (blk_cell BK404.out 0).trans rfl
     have hcz8_1 : wr.cell? ⟨gb404, 1, none⟩ = some (.string a0_1) := (blk_cell BK404.out 1).trans rfl
     have hfz8_0 := blk_frozen BK404.out 0
     have hfz8_1 := blk_frozen BK404.out 1
     go_wp2_with (first | (go_at_call 38; (with_reducible refine (spec_IsAcyclic.calls k1 a0_0 a0_1 t408 _ A7.out).mono ?_); rintro e w9 ⟨rfl, hb⟩; replace HO_3 := Aside0.mk (Kd.S_below (by (with_reducible repeat (first | apply Kd.S_alloc | apply Kd.S_drewN | apply Kd.S_drew)); exact HO_3.out) hb); replace BK404 := Aside0.mk (blk_below (g := gb404) (o := .cells #[.int .i64 a0_0, .string a0_1] 26 (0, 0)) (zK BK404.out) hb); replace HB := Aside0.mk (below_step (zG GE404.out) hb); (try clear hb); (try clear hb2); (try clear hk); (try clear hi)))
     go_meet
     case rel => exact ⟨_, (t408), zF, H', ⟨by have := HK1.out; first | omega | exact Nat.le_refl _⟩, ⟨by (with_reducible repeat (first | apply Kd.S_alloc | apply Kd.S_drewN | apply Kd.S_drew)); exact HO_3.out⟩, ⟨zK BK404.out⟩, ⟨zG GE404.out⟩⟩
    ·rw [if_neg c6] at H
     have c6b0 : decide (x4_1 < a0_0) = false := decide_eq_false c6
     clear c6
     (first | rw [c6b0] | (simp only [i64_w, i32_w]; rw [c6b0]) | skip)
     have H' := Aside0.mk H
     clear H
     have hcz10_0 : wr.cell? ⟨gb404, 0, none⟩ = some (.int .i64 a0_0) := (blk_cell BK404.out 0).trans rfl
     have hcz10_1 : wr.cell? ⟨gb404, 1, none⟩ = some (.string a0_1) := (blk_cell BK404.out 1).trans rfl
     have hfz10_0 := blk_frozen BK404.out 0
     have hfz10_1 := blk_frozen BK404.out 1
     go_wp2
     go_meet
     case rel => exact ⟨_, (false), zF, H', ⟨by have := HK1.out; first | omega | exact Nat.le_refl _⟩, ⟨by (with_reducible repeat (first | apply Kd.S_alloc | apply Kd.S_drewN | apply Kd.S_drew)); exact HO_3.out⟩, ⟨zK BK404.out⟩, ⟨zG GE404.out⟩⟩
   case rest =>
    clear HC5
    try clear c2
    try clear p2
    try clear c6
    try clear c6b0
    try clear hcz10_0
    try clear hcz10_1
    try clear hcz8_0
    try clear hcz8_1
    try clear hfz10_0
    try clear hfz10_1
    try clear hfz8_0
    try clear hfz8_1
    try clear p2
    obtain ⟨kq, x14_4, rfl, HA, HJ4, HO_3, BK404, HB⟩ := hcut
    cases kq with
    | zero => exact absurd HA.out (by simp [spec_HalvingPairs.j1])
    | succ kj4 =>
     have H := HA.out
     clear HA
     simp only [spec_HalvingPairs.j1] at H
     by_cases c11 : x14_4 = true
     ·subst c11
      have H1 : (spec_HalvingPairs.l1 kj4 x3_1 x4_1 (wrap64 (x4_1 + 1)) a0_0 a0_1) = some r := by rw [if_pos rfl] at H; exact H
      clear H
      have H := H1
      clear H1
      have H' := Aside0.mk H
      clear H
      go_wp2
      go_loopg [3, 5] kj4 (fun kq v3 v5 w' => ∃ (x3_3 : List (List Int)) (x5_3 : Int), v5 = .int .i64 x5_3 ∧ Aside0 (spec_HalvingPairs.l1 kq x3_3 x4_1 x5_3 a0_0 a0_1 = some r) ∧ Aside0 (kq ≤ kj4) ∧ Aside0 (Kd.S (Kd.slice 3 (Kd.int .i64)) 34 w' w.heap.size (fun _ => True) v3 x3_3) ∧ Aside0 (w'.heap[gb404]? = some (.cells #[.int .i64 a0_0, .string a0_1] 26 (0, 0))) ∧ Aside0 (Below w.heap.size w w'))
      case atStart => exact ⟨(x3_1), (wrap64 (x4_1 + 1)), zF, H', ⟨Nat.le_refl _⟩, ⟨by (with_reducible repeat (first | apply Kd.S_alloc | apply Kd.S_drewN | apply Kd.S_drew)); exact HO_3.out⟩, ⟨zK BK404.out⟩, ⟨zG GE404.out⟩⟩
      case round =>
       clear H'
       try clear c1
       try clear c2
       try clear p2
       try clear c6
       try clear c6b0
       try clear p6
       try clear c11
       try clear hcz10_0
       try clear hcz10_1
       try clear hcz8_0
       try clear hcz8_1
       try clear hfz10_0
       try clear hfz10_1
       try clear hfz8_0
       try clear hfz8_1
       try clear p2
       obtain ⟨x3_3, x5_3, rfl, HA, HK3, HO_3, BK404, HB⟩ := hrel
       cases gk with
       | zero => exact absurd HA.out (by simp [spec_HalvingPairs.l1])
       | succ k3 =>
        have H := HA.out
        clear HA
        simp only [spec_HalvingPairs.l1] at H
        by_cases c12 : x5_3 < a0_0
        ·rw [if_pos c12] at H
         have c12b0 : decide (x5_3 < a0_0) = true := decide_eq_true c12
         clear c12
         replace H := Option.bind_eq_some_iff.mp H
         obtain ⟨t409, A130, H⟩ := H
         replace H : ((spec_l7Left.f k3 a0_0 a0_1 x5_3 x4_1).bind fun t410 => ((spec_l1In.f (wrap64 (t409 - t410)) (-1) 1).bind fun t411 => (if t411 = true then (if x3_3.length < 5864062014805 then (spec_HalvingPairs.l1 k3 (x3_3 ++ [(([x4_1, x5_3] : List Int))]) x4_1 (wrap64 (x5_3 + 1)) a0_0 a0_1) else (none)) else (spec_HalvingPairs.l1 k3 x3_3 x4_1 (wrap64 (x5_3 + 1)) a0_0 a0_1)))) = some r := H
         have A13 := Aside0.mk A130
         clear A130
         replace H := Option.bind_eq_some_iff.mp H
         obtain ⟨t410, A140, H⟩ := H
         replace H : ((spec_l1In.f (wrap64 (t409 - t410)) (-1) 1).bind fun t411 => (if t411 = true then (if x3_3.length < 5864062014805 then (spec_HalvingPairs.l1 k3 (x3_3 ++ [(([x4_1, x5_3] : List Int))]) x4_1 (wrap64 (x5_3 + 1)) a0_0 a0_1) else (none)) else (spec_HalvingPairs.l1 k3 x3_3 x4_1 (wrap64 (x5_3 + 1)) a0_0 a0_1))) = some r := H
         have A14 := Aside0.mk A140
         clear A140
         replace H := Option.bind_eq_some_iff.mp H
         obtain ⟨t411, A150, H⟩ := H
         replace H : (if t411 = true then (if x3_3.length < 5864062014805 then (spec_HalvingPairs.l1 k3 (x3_3 ++ [(([x4_1, x5_3] : List Int))]) x4_1 (wrap64 (x5_3 + 1)) a0_0 a0_1) else (none)) else (spec_HalvingPairs.l1 k3 x3_3 x4_1 (wrap64 (x5_3 + 1)) a0_0 a0_1)) = some r := H
         have A15 := Aside0.mk A150
         clear A150
         by_cases c16 : t411 = true
         ·subst c16
          have H1 : (if x3_3.length < 5864062014805 then (spec_HalvingPairs.l1 k3 (x3_3 ++ [(([x4_1, x5_3] : List Int))]) x4_1 (wrap64 (x5_3 + 1)) a0_0 a0_1) else (none)) = some r := by rw [if_pos rfl] at H; exact H
          clear H
          have H := H1
          clear H1
          obtain ⟨y412, hy412⟩ : ∃ y_ : List Int, y_ = (([x4_1, x5_3] : List Int)) := ⟨_, rfl⟩
          replace H : (if x3_3.length < 5864062014805 then (spec_HalvingPairs.l1 k3 (x3_3 ++ [y412]) x4_1 (wrap64 (x5_3 + 1)) a0_0 a0_1) else (none)) = some r := by first | (rw [hy412]; with_reducible exact H) | (have H2_ := (Option.bind_some _ _).symm.trans H; rw [hy412]; with_reducible exact H2_) | (have H2_ := (Option.bind_some _ _).symm.trans H; with_reducible exact H2_) | with_reducible exact H | (rw [hy412]; exact H) | exact H
          have Ny412 := Aside0.mk hy412
          clear hy412
          by_cases c17 : x3_3.length < 5864062014805
          ·rw [if_pos c17] at H
           have LMc17 := Aside0.mk c17
           clear c17
           obtain ⟨y415, hy415⟩ : ∃ y_ : List (List Int), y_ = (x3_3 ++ [y412]) := ⟨_, rfl⟩
           replace H : (spec_HalvingPairs.l1 k3 y415 x4_1 (wrap64 (x5_3 + 1)) a0_0 a0_1) = some r := by first | (rw [hy415]; with_reducible exact H) | (have H2_ := (Option.bind_some _ _).symm.trans H; rw [hy415]; with_reducible exact H2_) | (have H2_ := (Option.bind_some _ _).symm.trans H; with_reducible exact H2_) | with_reducible exact H | (rw [hy415]; exact H) | exact H
           have Ny415 := Aside0.mk hy415
           clear hy415
           have H' := Aside0.mk H
           clear H
           have hcz18_0 : wr.cell? ⟨gb404, 0, none⟩ = some (.int .i64 a0_0) := (blk_cell BK404.out 0).trans rfl
           have hcz18_1 : wr.cell? ⟨gb404, 1, none⟩ = some (.string a0_1) := (blk_cell BK404.out 1).trans rfl
           have hfz18_0 := blk_frozen BK404.out 0
           have hfz18_1 := blk_frozen BK404.out 1
           try go_wp2
           have n0_ := Aside0.mk (Kd.S_drew HO_3.out)
           have n1_ := Aside0.mk (blk_drew BK404.out)
           have n2_ := Aside0.mk (below_drew1 HB.out)
           clear HO_3
           clear BK404
           clear HB
           have HO_3 := n0_
           have BK404 := n1_
           have HB := n2_
           clear n0_ n1_ n2_
           refine start_ (n := 10) (S := fun w' => w'.cell? ⟨gb404, 0, none⟩ = some (.int .i64 a0_0) ∧ w'.cell? ⟨gb404, 1, none⟩ = some (.string a0_1)) (ds := []) #[false, false, false, false, false, false, false, false, false, false] (by kernel_rfl) rfl rfl ⟨(blk_cell BK404.out 0).trans rfl, (blk_cell BK404.out 1).trans rfl⟩ (fun hHeld => ?_); refine with_tabW spec_HalvingPairs.tab8 spec_HalvingPairs.bits8 (fun HT_ HW_ => ?_)
           generalize wr.drew = w19 at HO_3 BK404 HB hHeld ⊢
           refine zP 1 (some 26) rfl rfl ?_
           refine zP 2 (some 27) rfl rfl ?_
           refine zP 5 (some 30) rfl rfl ?_
           refine zP 6 (some 31) rfl rfl ?_
           refine take_ (i := 0) (N := some 25) (v := ?_) (a' := ?_) #[true, true, true, false, false, true, true, false, false, false] rfl rfl (take_ofW HT_.out HW_.out (by kernel_rfl)) (fun _ _ _ h => h) (Or.inl ⟨by rfl, ?_⟩) hHeld ?_ ?_
           rotate_left
           ·rintro w' ⟨s0, s1⟩
            go_simp
            with_reducible rfl
           rotate_left
           ·simp only [Act.put, List.setIfInBounds_toArray, List.set_cons_zero, List.set_cons_succ, i64_w, i32_w]
            rfl
           refine take_ (i := 4) (N := some 29) (v := ?_) (a' := ?_) #[true, true, true, false, true, true, true, false, false, false] rfl rfl (take_ofW HT_.out HW_.out (by kernel_rfl)) (fun _ _ _ h => h) (Or.inl ⟨by rfl, ?_⟩) hHeld ?_ ?_
           rotate_left
           ·rintro w' ⟨s0, s1⟩
            go_simp
            with_reducible rfl
           rotate_left
           ·simp only [Act.put, List.setIfInBounds_toArray, List.set_cons_zero, List.set_cons_succ, i64_w, i32_w]
            rfl
           refine one_ (i := 3) (N := some 28) #[true, true, true, true, true, true, true, false, false, false] rfl rfl (one_of HT_.out (by kernel_rfl)) (by decide) (fun K hK => ?_)
           refine goes_ Try.func40 (by kernel_rfl) rfl #[.agg #[.int .i64 a0_0, .string a0_1], .int .i64 x4_1, .int .i64 x5_3] (by rfl) rfl rfl zM ?_
           with_reducible refine (spec_l7Left.calls k3 a0_0 a0_1 x4_1 x5_3 t409 _ A13.out).mono ?_
           rintro e w20 ⟨rfl, hb⟩
           refine ⟨_, rfl, ?_⟩
           have n0_ := Aside0.mk (Kd.S_below (by (with_reducible repeat (first | apply Kd.S_alloc | apply Kd.S_drewN | apply Kd.S_drew)); exact HO_3.out) hb)
           have n1_ := Aside0.mk (blk_below (g := gb404) (o := .cells #[.int .i64 a0_0, .string a0_1] 26 (0, 0)) (zK BK404.out) hb)
           have n2_ := Aside0.mk (below_step (zG GE404.out) hb)
           clear HO_3
           clear BK404
           clear HB
           have HO_3 := n0_
           have BK404 := n1_
           have HB := n2_
           clear n0_ n1_ n2_
           (try clear hb)
           (try clear hb2)
           (try clear hk)
           (try clear hi)
           refine hK.out _ _ ⟨(blk_cell BK404.out 0).trans rfl, (blk_cell BK404.out 1).trans rfl⟩ (fun hHeld => ?_)
           clear hK K
           refine norm_ (a' := ?_) ?_ ?_
           rotate_left
           ·show Act.put _ (some 28) _ = _
            simp only [Act.put, List.setIfInBounds_toArray, List.set_cons_zero, List.set_cons_succ, i64_w, i32_w]
            rfl
           refine one_ (i := 7) (N := some 32) #[true, true, true, true, true, true, true, true, false, false] rfl rfl (one_of HT_.out (by kernel_rfl)) (by decide) (fun K hK => ?_)
           refine goes_ Try.func40 (by kernel_rfl) rfl #[.agg #[.int .i64 a0_0, .string a0_1], .int .i64 x5_3, .int .i64 x4_1] (by rfl) rfl rfl zM ?_
           with_reducible refine (spec_l7Left.calls k3 a0_0 a0_1 x5_3 x4_1 t410 _ A14.out).mono ?_
           rintro e w21 ⟨rfl, hb⟩
           refine ⟨_, rfl, ?_⟩
           have n0_ := Aside0.mk (Kd.S_below (by (with_reducible repeat (first | apply Kd.S_alloc | apply Kd.S_drewN | apply Kd.S_drew)); exact HO_3.out) hb)
           have n1_ := Aside0.mk (blk_below (g := gb404) (o := .cells #[.int .i64 a0_0, .string a0_1] 26 (0, 0)) (zK BK404.out) hb)
           have n2_ := Aside0.mk (below_step (zG GE404.out) hb)
           clear HO_3
           clear BK404
           clear HB
           have HO_3 := n0_
           have BK404 := n1_
           have HB := n2_
           clear n0_ n1_ n2_
           (try clear hb)
           (try clear hb2)
           (try clear hk)
           (try clear hi)
           refine hK.out _ _ ⟨(blk_cell BK404.out 0).trans rfl, (blk_cell BK404.out 1).trans rfl⟩ (fun hHeld => ?_)
           clear hK K
           refine norm_ (a' := ?_) ?_ ?_
           rotate_left
           ·show Act.put _ (some 32) _ = _
            simp only [Act.put, List.setIfInBounds_toArray, List.set_cons_zero, List.set_cons_succ, i64_w, i32_w]
            rfl
           refine zP 8 (some 33) rfl rfl ?_
           refine one_ (i := 9) (N := some 34) #[true, true, true, true, true, true, true, true, true, true] rfl rfl (one_of HT_.out (by kernel_rfl)) (by decide) (fun K hK => ?_)
           refine goes_ Try.func45 (by kernel_rfl) rfl #[.int .i64 (wrap64 (t409 - t410)), .int .i64 (-1), .int .i64 1] (by rfl) rfl rfl zM ?_
           with_reducible refine (spec_l1In.calls (wrap64 (t409 - t410)) (-1) 1 true _ A15.out).mono ?_
           rintro e w' ⟨rfl, ⟨nd, rfl⟩⟩
           refine ⟨_, rfl, ?_⟩
           refine hK.out _ _ ⟨(blk_cell BK404.out 0).trans rfl, (blk_cell BK404.out 1).trans rfl⟩ (fun hHeld => ?_)
           clear hK K
           refine norm_ (a' := ?_) ?_ ?_
           rotate_left
           ·show Act.put _ (some 34) _ = _
            simp only [Act.put, List.setIfInBounds_toArray, List.set_cons_zero, List.set_cons_succ, i64_w, i32_w]
            rfl
           refine done_ (done_of HT_.out (by kernel_rfl)) ?_
           try go_wp2_with (first | ((with_reducible refine gate_dst (N := 38) rfl ?_); refine Kd.R_lit (Kd.int .i64) _ 3 ?hg (N := 38) ?hd (xs := ([x4_1, x5_3] : List Int)) (inner := [.int .i64 x4_1, .int .i64 x5_3]) (ok := fun _ => True) (okp := fun _ => True) ?hr ?hp (fun _ hk => hk) trivial (Below.refl _ _) (Nat.le_refl _) (by simp) ?_; (case hd => rfl); (case hg => rfl); (case hr => first | (go_simp; done) | (go_simp; rfl)); (case hp => exact (Reps.one (show Kd.M (Kd.int .i64) _ _ _ x4_1 [.int .i64 x4_1] from rfl) (Reps.one (show Kd.M (Kd.int .i64) _ _ _ x5_3 [.int .i64 x5_3] from rfl) (Reps.none _ _)))); intro v413 w22 ho23 hb hg_ hnew_; clear hg_ hnew_; (first | rw [← Ny412.out] at ho23 | (simp only [Int.reduceToNat] at ho23; rw [← Ny412.out] at ho23)); replace HO_3 := Aside0.mk (Kd.S_elder' (by (with_reducible repeat (first | apply Kd.S_alloc | apply Kd.S_drewN | apply Kd.S_drew)); exact HO_3.out) (Kd.R_base ho23) hb); have HO414 := Aside0.mk (Kd.R_lower ho23 (below_size (zG GE404.out))); replace BK404 := Aside0.mk (blk_below (g := gb404) (o := .cells #[.int .i64 a0_0, .string a0_1] 26 (0, 0)) (zK BK404.out) hb); replace HB := Aside0.mk (below_step (zG GE404.out) hb); clear hb ho23; obtain ⟨Ao25, co25, eo25⟩ := Kd.R_slice HO414.out; subst eo25) | ((with_reducible refine gate_builtin (b := .append) (xs := #[.tmp 35, .tmp 39]) rfl ?_); at_builtin; refine Kd.S_append (Kd.slice 3 (Kd.int .i64)) (w0 := w) w.heap.size rfl (.tmp 35) (.tmp 39) 29 34 (.slice none 0 0) 24 rfl Try.underlying29 info34 rfl (by decide) (by omega) u3 x3_3 y412 [.slice Ao25 y412.length co25] (fun _ => True) (fun k_ => some k_ = (.slice Ao25 y412.length co25 : Value).ownBlock) rfl rfl ?aP (fun k_ hk_ => ((Kd.R_mono (ok' := fun k_ => ((fun _ => True)) k_ ∧ some k_ ≠ (u3 : Value).ownBlock) (Kd.R_apart' (HO414.out) (Kd.S_typed HO_3.out) (by decide)) (fun k_ hk => ⟨trivial, hk.2⟩))).1 k_ hk_.symm) ?aF ?aO ?aB ?aS ?aL ?_; (case aP => exact Kd.M_row (Kd.R_mono (Kd.R_tight rfl (Kd.R_mono (ok' := fun k_ => ((fun _ => True)) k_ ∧ some k_ ≠ (u3 : Value).ownBlock) (Kd.R_apart' (HO414.out) (Kd.S_typed HO_3.out) (by decide)) (fun k_ hk => ⟨trivial, hk.2⟩))) (fun _ h_ => h_))); (case aB => exact (zG GE404.out)); (case aF => exact (fun _ _ => trivial)); (case aO => exact (by (with_reducible repeat (first | apply Kd.S_alloc | apply Kd.S_drewN | apply Kd.S_drew)); exact Kd.S_mono HO_3.out (fun k_ hk => ⟨trivial, fun e_ => hk.2 e_⟩))); (case aS => exact (below_size (zG GE404.out))); (case aL => have := LMc17.out; omega); intro v416 w24 ho hb hg hat; rw [← Ny415.out] at ho; have n0_ := Aside0.mk (blk_grown (g := gb404) (o := .cells #[.int .i64 a0_0, .string a0_1] 26 (0, 0)) (zK BK404.out) hg (Kd.S_ne HO_3.out BK404.out (by decide))); have n1_ := Aside0.mk (hb); have n2_ := Aside0.mk (ho); clear BK404; clear HB; clear HO_3; clear HO414; have BK404 := n0_; have HB := n1_; have HO417 := n2_; clear n0_ n1_ n2_; clear ho hb hg hat))
           go_roundg k3
           case measure => have := HK1.out; have := HJ4.out; have := HK3.out; omega
           case rel => exact ⟨(y415), (wrap64 (x5_3 + 1)), zF, H', ⟨by have := HK1.out; have := HJ4.out; have := HK3.out; omega⟩, ⟨by (with_reducible repeat (first | apply Kd.S_alloc | apply Kd.S_drewN | apply Kd.S_drew)); exact HO417.out⟩, ⟨zK BK404.out⟩, ⟨zG GE404.out⟩⟩
          ·rw [if_neg c17] at H
           exact absurd H (by simp)
         ·replace c16 := Bool.eq_false_iff.mpr c16
          subst c16
          have H1 : (spec_HalvingPairs.l1 k3 x3_3 x4_1 (wrap64 (x5_3 + 1)) a0_0 a0_1) = some r := by rw [if_neg (show ¬ (false = true) by decide)] at H; exact H
          clear H
          have H := H1
          clear H1
          have H' := Aside0.mk H
          clear H
          have hcz26_0 : wr.cell? ⟨gb404, 0, none⟩ = some (.int .i64 a0_0) := (blk_cell BK404.out 0).trans rfl
          have hcz26_1 : wr.cell? ⟨gb404, 1, none⟩ = some (.string a0_1) := (blk_cell BK404.out 1).trans rfl
          have hfz26_0 := blk_frozen BK404.out 0
          have hfz26_1 := blk_frozen BK404.out 1
          try go_wp2
          have n0_ := Aside0.mk (Kd.S_drew HO_3.out)
          have n1_ := Aside0.mk (blk_drew BK404.out)
          have n2_ := Aside0.mk (below_drew1 HB.out)
          clear HO_3
          clear BK404
          clear HB
          have HO_3 := n0_
          have BK404 := n1_
          have HB := n2_
          clear n0_ n1_ n2_
          refine start_ (n := 10) (S := fun w' => w'.cell? ⟨gb404, 0, none⟩ = some (.int .i64 a0_0) ∧ w'.cell? ⟨gb404, 1, none⟩ = some (.string a0_1)) (ds := []) #[false, false, false, false, false, false, false, false, false, false] (by kernel_rfl) rfl rfl ⟨(blk_cell BK404.out 0).trans rfl, (blk_cell BK404.out 1).trans rfl⟩ (fun hHeld => ?_); refine with_tabW spec_HalvingPairs.tab8 spec_HalvingPairs.bits8 (fun HT_ HW_ => ?_)
          generalize wr.drew = w27 at HO_3 BK404 HB hHeld ⊢
          refine zP 1 (some 26) rfl rfl ?_
          refine zP 2 (some 27) rfl rfl ?_
          refine zP 5 (some 30) rfl rfl ?_
          refine zP 6 (some 31) rfl rfl ?_
          refine take_ (i := 0) (N := some 25) (v := ?_) (a' := ?_) #[true, true, true, false, false, true, true, false, false, false] rfl rfl (take_ofW HT_.out HW_.out (by kernel_rfl)) (fun _ _ _ h => h) (Or.inl ⟨by rfl, ?_⟩) hHeld ?_ ?_
          rotate_left
          ·rintro w' ⟨s0, s1⟩
           go_simp
           with_reducible rfl
          rotate_left
          ·simp only [Act.put, List.setIfInBounds_toArray, List.set_cons_zero, List.set_cons_succ, i64_w, i32_w]
           rfl
          refine take_ (i := 4) (N := some 29) (v := ?_) (a' := ?_) #[true, true, true, false, true, true, true, false, false, false] rfl rfl (take_ofW HT_.out HW_.out (by kernel_rfl)) (fun _ _ _ h => h) (Or.inl ⟨by rfl, ?_⟩) hHeld ?_ ?_
          rotate_left
          ·rintro w' ⟨s0, s1⟩
           go_simp
           with_reducible rfl
          rotate_left
          ·simp only [Act.put, List.setIfInBounds_toArray, List.set_cons_zero, List.set_cons_succ, i64_w, i32_w]
           rfl
          refine one_ (i := 3) (N := some 28) #[true, true, true, true, true, true, true, false, false, false] rfl rfl (one_of HT_.out (by kernel_rfl)) (by decide) (fun K hK => ?_)
          refine goes_ Try.func40 (by kernel_rfl) rfl #[.agg #[.int .i64 a0_0, .string a0_1], .int .i64 x4_1, .int .i64 x5_3] (by rfl) rfl rfl zM ?_
          with_reducible refine (spec_l7Left.calls k3 a0_0 a0_1 x4_1 x5_3 t409 _ A13.out).mono ?_
          rintro e w28 ⟨rfl, hb⟩
          refine ⟨_, rfl, ?_⟩
          have n0_ := Aside0.mk (Kd.S_below (by (with_reducible repeat (first | apply Kd.S_alloc | apply Kd.S_drewN | apply Kd.S_drew)); exact HO_3.out) hb)
          have n1_ := Aside0.mk (blk_below (g := gb404) (o := .cells #[.int .i64 a0_0, .string a0_1] 26 (0, 0)) (zK BK404.out) hb)
          have n2_ := Aside0.mk (below_step (zG GE404.out) hb)
          clear HO_3
          clear BK404
          clear HB
          have HO_3 := n0_
          have BK404 := n1_
          have HB := n2_
          clear n0_ n1_ n2_
          (try clear hb)
          (try clear hb2)
          (try clear hk)
          (try clear hi)
          refine hK.out _ _ ⟨(blk_cell BK404.out 0).trans rfl, (blk_cell BK404.out 1).trans rfl⟩ (fun hHeld => ?_)
          clear hK K
          refine norm_ (a' := ?_) ?_ ?_
          rotate_left
          ·show Act.put _ (some 28) _ = _
           simp only [Act.put, List.setIfInBounds_toArray, List.set_cons_zero, List.set_cons_succ, i64_w, i32_w]
           rfl
          refine one_ (i := 7) (N := some 32) #[true, true, true, true, true, true, true, true, false, false] rfl rfl (one_of HT_.out (by kernel_rfl)) (by decide) (fun K hK => ?_)
          refine goes_ Try.func40 (by kernel_rfl) rfl #[.agg #[.int .i64 a0_0, .string a0_1], .int .i64 x5_3, .int .i64 x4_1] (by rfl) rfl rfl zM ?_
          with_reducible refine (spec_l7Left.calls k3 a0_0 a0_1 x5_3 x4_1 t410 _ A14.out).mono ?_
          rintro e w29 ⟨rfl, hb⟩
          refine ⟨_, rfl, ?_⟩
          have n0_ := Aside0.mk (Kd.S_below (by (with_reducible repeat (first | apply Kd.S_alloc | apply Kd.S_drewN | apply Kd.S_drew)); exact HO_3.out) hb)
          have n1_ := Aside0.mk (blk_below (g := gb404) (o := .cells #[.int .i64 a0_0, .string a0_1] 26 (0, 0)) (zK BK404.out) hb)
          have n2_ := Aside0.mk (below_step (zG GE404.out) hb)
          clear HO_3
          clear BK404
          clear HB
          have HO_3 := n0_
          have BK404 := n1_
          have HB := n2_
          clear n0_ n1_ n2_
          (try clear hb)
          (try clear hb2)
          (try clear hk)
          (try clear hi)
          refine hK.out _ _ ⟨(blk_cell BK404.out 0).trans rfl, (blk_cell BK404.out 1).trans rfl⟩ (fun hHeld => ?_)
          clear hK K
          refine norm_ (a' := ?_) ?_ ?_
          rotate_left
          ·show Act.put _ (some 32) _ = _
           simp only [Act.put, List.setIfInBounds_toArray, List.set_cons_zero, List.set_cons_succ, i64_w, i32_w]
           rfl
          refine zP 8 (some 33) rfl rfl ?_
          refine one_ (i := 9) (N := some 34) #[true, true, true, true, true, true, true, true, true, true] rfl rfl (one_of HT_.out (by kernel_rfl)) (by decide) (fun K hK => ?_)
          refine goes_ Try.func45 (by kernel_rfl) rfl #[.int .i64 (wrap64 (t409 - t410)), .int .i64 (-1), .int .i64 1] (by rfl) rfl rfl zM ?_
          with_reducible refine (spec_l1In.calls (wrap64 (t409 - t410)) (-1) 1 false _ A15.out).mono ?_
          rintro e w' ⟨rfl, ⟨nd, rfl⟩⟩
          refine ⟨_, rfl, ?_⟩
          refine hK.out _ _ ⟨(blk_cell BK404.out 0).trans rfl, (blk_cell BK404.out 1).trans rfl⟩ (fun hHeld => ?_)
          clear hK K
          refine norm_ (a' := ?_) ?_ ?_
          rotate_left
          ·show Act.put _ (some 34) _ = _
           simp only [Act.put, List.setIfInBounds_toArray, List.set_cons_zero, List.set_cons_succ, i64_w, i32_w]
           rfl
          refine done_ (done_of HT_.out (by kernel_rfl)) ?_
          try go_wp2
          go_roundg k3
          case measure => have := HK1.out; have := HJ4.out; have := HK3.out; omega
          case rel => exact ⟨(x3_3), (wrap64 (x5_3 + 1)), zF, H', ⟨by have := HK1.out; have := HJ4.out; have := HK3.out; omega⟩, ⟨by (with_reducible repeat (first | apply Kd.S_alloc | apply Kd.S_drewN | apply Kd.S_drew)); exact HO_3.out⟩, ⟨zK BK404.out⟩, ⟨zG GE404.out⟩⟩
        ·rw [if_neg c12] at H
         have c12b0 : decide (x5_3 < a0_0) = false := decide_eq_false c12
         clear c12
         have H' := Aside0.mk H
         clear H
         have hcz30_0 : wr.cell? ⟨gb404, 0, none⟩ = some (.int .i64 a0_0) := (blk_cell BK404.out 0).trans rfl
         have hcz30_1 : wr.cell? ⟨gb404, 1, none⟩ = some (.string a0_1) := (blk_cell BK404.out 1).trans rfl
         have hfz30_0 := blk_frozen BK404.out 0
         have hfz30_1 := blk_frozen BK404.out 1
         go_wp2
         go_roundg k3
         case measure => have := HK1.out; have := HJ4.out; have := HK3.out; omega
         case rel => exact ⟨(x3_3), (wrap64 (x4_1 + 1)), zF, H', ⟨by have := HK1.out; have := HJ4.out; have := HK3.out; omega⟩, ⟨by (with_reducible repeat (first | apply Kd.S_alloc | apply Kd.S_drewN | apply Kd.S_drew)); exact HO_3.out⟩, ⟨zK BK404.out⟩, ⟨zG GE404.out⟩⟩
     ·replace c11 := Bool.eq_false_iff.mpr c11
      subst c11
      have H1 : (some x3_1) = some r := by rw [if_neg (show ¬ (false = true) by decide)] at H; exact H
      clear H
      have H := H1
      clear H1
      obtain rfl := Option.some.inj H
      go_wp2
      go_ret
      exact ⟨_, zE, by (with_reducible repeat (first | apply Kd.S_alloc | apply Kd.S_drewN | apply Kd.S_drew)); exact HO_3.out, zG GE404.out⟩
/-! ### impl_HalvingPairs: function 29 -/
mutual
def impl_HalvingPairs.l0 : Nat → List Int → List (List Int) → Int → Int → ByteArray → Option ((List (List Int)))
 | 0, _, _, _, _, _ => none
 | k + 1, x3, x5, x6, x419000, x419001 => if x6 < x419000 then (impl_HalvingPairs.l1 k x3 x5 x6 (wrap64 (x6 + 1)) x419000 x419001) else (some x5)
def impl_HalvingPairs.l1 : Nat → List Int → List (List Int) → Int → Int → Int → ByteArray → Option ((List (List Int)))
 | 0, _, _, _, _, _, _ => none
 | k + 1, x3, x5, x6, x7, x419000, x419001 => if x7 < x419000 then (if x3.length = 344 then ((impl_chi_left.f k x3 x6 x7).bind fun t423 => ((impl_chi_left.f k x3 x7 x6).bind fun t424 => (if (wrap64 (t423 - t424)) ≥ (-1) then (if (wrap64 (t423 - t424)) ≤ 1 then (if x5.length < 5864062014805 then (impl_HalvingPairs.l1 k x3 (x5 ++ [(([x6, x7] : List Int))]) x6 (wrap64 (x7 + 1)) x419000 x419001) else (none)) else (impl_HalvingPairs.l1 k x3 x5 x6 (wrap64 (x7 + 1)) x419000 x419001)) else (impl_HalvingPairs.l1 k x3 x5 x6 (wrap64 (x7 + 1)) x419000 x419001)))) else (none)) else (impl_HalvingPairs.l0 k x3 x5 (wrap64 (x6 + 1)) x419000 x419001)
end
def impl_HalvingPairs.f (k : Nat) (a0_0 : Int) (a0_1 : ByteArray) : Option ((List (List Int))) := (impl_orderOf.f k a0_0 a0_1).bind fun bt419 => (if bt419.2 = true then (impl_HalvingPairs.l0 k bt419.1 ([] : List (List Int)) 0 a0_0 a0_1) else (some ([] : List (List Int))))
theorem impl_HalvingPairs.mono_l : ∀ k, (∀ y0 y1 y2 y3 y4, LeO (impl_HalvingPairs.l0 k y0 y1 y2 y3 y4) (impl_HalvingPairs.l0 (k + 1) y0 y1 y2 y3 y4)) ∧ (∀ y0 y1 y2 y3 y4 y5, LeO (impl_HalvingPairs.l1 k y0 y1 y2 y3 y4 y5) (impl_HalvingPairs.l1 (k + 1) y0 y1 y2 y3 y4 y5))
 | 0 => ⟨fun _ _ _ _ _ r h => by simp [impl_HalvingPairs.l0] at h, fun _ _ _ _ _ _ r h => by simp [impl_HalvingPairs.l1] at h⟩
 | k + 1 => by
  obtain ⟨ih0, ih1⟩ := impl_HalvingPairs.mono_l k
  refine ⟨?_, ?_⟩ <;> intros <;> (first | unfold impl_HalvingPairs.l0 | unfold impl_HalvingPairs.l1) <;> repeat' first
  | (with_reducible exact ih0 _ _ _ _ _)
  | (with_reducible exact ih1 _ _ _ _ _ _)
  | (with_reducible exact impl_chi_left.mono _ _ _ _)
  | (with_reducible exact impl_orderOf.mono _ _ _)
  | (with_reducible exact LeO.refl _)
  | (with_reducible exact LeO.none _)
  | (with_reducible refine LeO.ite ?_ ?_)
  | (with_reducible refine LeO.bind ?_ (fun _ => ?_))
  | exact ih0 _ _ _ _ _
  | exact ih1 _ _ _ _ _ _
  | exact impl_chi_left.mono _ _ _ _
  | exact impl_orderOf.mono _ _ _
  | exact LeO.none _
  | refine LeO.ite ?_ ?_
  | refine LeO.bind ?_ (fun _ => ?_)
theorem impl_HalvingPairs.mono : ∀ a0 a1 k, LeO (impl_HalvingPairs.f k a0 a1) (impl_HalvingPairs.f (k + 1) a0 a1) := by
 intro a0 a1 k
 obtain ⟨ih0, ih1⟩ := impl_HalvingPairs.mono_l k
 unfold impl_HalvingPairs.f
 repeat' first
   | (with_reducible exact ih0 _ _ _ _ _)
   | (with_reducible exact ih1 _ _ _ _ _ _)
   | (with_reducible exact impl_chi_left.mono _ _ _ _)
   | (with_reducible exact impl_orderOf.mono _ _ _)
   | (with_reducible exact LeO.refl _)
   | (with_reducible exact LeO.none _)
   | (with_reducible refine LeO.ite ?_ ?_)
   | (with_reducible refine LeO.bind ?_ (fun _ => ?_))
   | exact ih0 _ _ _ _ _
   | exact ih1 _ _ _ _ _ _
   | exact impl_chi_left.mono _ _ _ _
   | exact impl_orderOf.mono _ _ _
   | exact LeO.none _
   | refine LeO.ite ?_ ?_
   | refine LeO.bind ?_ (fun _ => ?_)
set_option maxHeartbeats 8000000 in
set_option maxRecDepth 100000 in
theorem impl_HalvingPairs.calls (k : Nat) (a0_0 : Int) (a0_1 : ByteArray) (r : List (List Int)) (w : World) (h : impl_HalvingPairs.f k a0_0 a0_1 = some r) :
  Calls Try.prog 29 #[.agg #[.int .i64 a0_0, .string a0_1]] w fun e w' => ∃ v0_ : Value, e = .returned (v0_) ∧ Kd.S (Kd.slice 3 (Kd.int .i64)) 34 w' w.heap.size (fun _ => True) v0_ r ∧ Below w.heap.size w w' := by
 have hu26 := Try.underlying26
 have HB := Aside0.mk (Below.refl w.heap.size w)
 have H : ((impl_orderOf.f k a0_0 a0_1).bind fun bt419 => (if bt419.2 = true then (impl_HalvingPairs.l0 k bt419.1 ([] : List (List Int)) 0 a0_0 a0_1) else (some ([] : List (List Int))))) = some r := h
 clear h
 replace H := Option.bind_eq_some_iff.mp H
 obtain ⟨⟨t419, t422⟩, A20, H⟩ := H
 replace H : (if t422 = true then (impl_HalvingPairs.l0 k t419 ([] : List (List Int)) 0 a0_0 a0_1) else (some ([] : List (List Int)))) = some r := H
 have A2 := Aside0.mk A20
 clear A20
 by_cases c3 : t422 = true
 ·subst c3
  have H1 : (impl_HalvingPairs.l0 k t419 ([] : List (List Int)) 0 a0_0 a0_1) = some r := by rw [if_pos rfl] at H; exact H
  clear H
  have H := H1
  clear H1
  have H' := Aside0.mk H
  clear H
  go_enter Try.func29, Try.ntmps29
  go_wp2_with (first | ((with_reducible refine gate_dst (N := 1) rfl ?_); refine box_event ?hg (N := 1) ?hd (cs := #[.int .i64 a0_0, .string a0_1]) (t := 26) ?hr ?_; (case hd => rfl); (case hg => rfl); (case hr => first | (go_simp; done) | (go_simp; rfl)); intro gb418 hg w4 hbox hb; have BK418 := Aside0.mk (hbox); have GW418 := Aside0.mk ((by rw [hg]; exact (below_size zB) : w.heap.size ≤ gb418)); have GE418 := Aside0.mk ((by rw [hg]; exact (below_size zB) : w.heap.size ≤ gb418)); replace HB := Aside0.mk (below_step zB hb); clear hb hbox hg; have hcz5_0 : w4.cell? ⟨gb418, 0, none⟩ = some (.int .i64 a0_0) := (blk_cell BK418.out 0).trans rfl; have hcz5_1 : w4.cell? ⟨gb418, 1, none⟩ = some (.string a0_1) := (blk_cell BK418.out 1).trans rfl; have hfz5_0 := blk_frozen BK418.out 0; have hfz5_1 := blk_frozen BK418.out 1) | ((with_reducible refine gate_callee (f := 41) rfl ?_); refine goesL_ (some 11) rfl rfl Try.func41 (by kernel_rfl) rfl #[.agg #[.int .i64 a0_0, .string a0_1]] rfl zM ?_; (with_reducible refine (impl_orderOf.calls k a0_0 a0_1 t419 true _ A2.out).mono ?_); rintro e w6 ⟨v420, rfl, ho0, hb⟩; refine ⟨_, rfl, ?_⟩; have HO421 := Aside0.mk (Kd.R_lower ho0 (below_size (zG GE418.out))); replace BK418 := Aside0.mk (blk_below (g := gb418) (o := .cells #[.int .i64 a0_0, .string a0_1] 26 (0, 0)) (zK BK418.out) hb); replace HB := Aside0.mk (below_step (zG GE418.out) hb); (try clear hb); (try clear ho0)))
  go_loopg [5, 6] k (fun kq v5 v6 w' => ∃ (x5_1 : List (List Int)) (x6_1 : Int), v6 = .int .i64 x6_1 ∧ Aside0 (impl_HalvingPairs.l0 kq t419 x5_1 x6_1 a0_0 a0_1 = some r) ∧ Aside0 (kq ≤ k) ∧ Aside0 (Kd.R (Kd.int .i64) 68 w' w.heap.size (fun _ => True) v420 t419) ∧ Aside0 (Kd.S (Kd.slice 3 (Kd.int .i64)) 34 w' w.heap.size (fun _ => True) v5 x5_1) ∧ Aside0 (w'.heap[gb418]? = some (.cells #[.int .i64 a0_0, .string a0_1] 26 (0, 0))) ∧ Aside0 (Below w.heap.size w w'))
  case atStart => exact ⟨(([] : List (List Int))), (0), zF, H', ⟨Nat.le_refl _⟩, ⟨zR HO421.out⟩, ⟨by first | exact Kd.S_nil _ _ _ _ _ | exact Kd.N_nil _ _ _ _ _ | exact Kd.V_nil _ _ _ _ _ | exact Kd.Q_nil _ _ _ _ _ | exact Kd.R_nil _ _ _ _ _⟩, ⟨zK BK418.out⟩, ⟨zG GE418.out⟩⟩
  case round =>
   clear H'
   try clear c2
   try clear p2
   try clear c3
   try clear c4
   try clear hcz5_0
   try clear hcz5_1
   try clear hfz5_0
   try clear hfz5_1
   obtain ⟨x5_1, x6_1, rfl, HA, HK1, HO_3, HO_5, BK418, HB⟩ := hrel
   cases gk with
   | zero => exact absurd HA.out (by simp [impl_HalvingPairs.l0])
   | succ k1 =>
    have H := HA.out
    clear HA
    simp only [impl_HalvingPairs.l0] at H
    by_cases c7 : x6_1 < a0_0
    ·rw [if_pos c7] at H
     have c7b0 : decide (x6_1 < a0_0) = true := decide_eq_true c7
     clear c7
     have H' := Aside0.mk H
     clear H
     have hcz8_0 : wr.cell? ⟨gb418, 0, none⟩ = some (.int .i64 a0_0) := (blk_cell BK418.out 0).trans rfl
     have hcz8_1 : wr.cell? ⟨gb418, 1, none⟩ = some (.string a0_1) := (blk_cell BK418.out 1).trans rfl
     have hfz8_0 := blk_frozen BK418.out 0
     have hfz8_1 := blk_frozen BK418.out 1
     go_wp2
     go_loopg [5, 7] k1 (fun kq v5 v7 w' => ∃ (x5_2 : List (List Int)) (x7_2 : Int), v7 = .int .i64 x7_2 ∧ Aside0 (impl_HalvingPairs.l1 kq t419 x5_2 x6_1 x7_2 a0_0 a0_1 = some r) ∧ Aside0 (kq ≤ k1) ∧ Aside0 (Kd.R (Kd.int .i64) 68 w' w.heap.size (fun _ => True) v420 t419) ∧ Aside0 (Kd.S (Kd.slice 3 (Kd.int .i64)) 34 w' w.heap.size (fun _ => True) v5 x5_2) ∧ Aside0 (w'.heap[gb418]? = some (.cells #[.int .i64 a0_0, .string a0_1] 26 (0, 0))) ∧ Aside0 (Below w.heap.size w w'))
     case atStart => exact ⟨(x5_1), (wrap64 (x6_1 + 1)), zF, H', ⟨Nat.le_refl _⟩, ⟨zR HO_3.out⟩, ⟨by (with_reducible repeat (first | apply Kd.S_alloc | apply Kd.S_drewN | apply Kd.S_drew)); exact HO_5.out⟩, ⟨zK BK418.out⟩, ⟨zG GE418.out⟩⟩
     case round =>
      clear H'
      try clear c2
      try clear p2
      try clear c3
      try clear c4
      try clear p6
      try clear c7
      try clear c7b0
      try clear hcz5_0
      try clear hcz5_1
      try clear hcz8_0
      try clear hcz8_1
      try clear hfz5_0
      try clear hfz5_1
      try clear hfz8_0
      try clear hfz8_1
      try clear p2
      obtain ⟨x5_2, x7_2, rfl, HA, HK2, HO_3, HO_5, BK418, HB⟩ := hrel
      cases gk with
      | zero => exact absurd HA.out (by simp [impl_HalvingPairs.l1])
      | succ k2 =>
       have H := HA.out
       clear HA
       simp only [impl_HalvingPairs.l1] at H
       by_cases c9 : x7_2 < a0_0
       ·rw [if_pos c9] at H
        have c9b0 : decide (x7_2 < a0_0) = true := decide_eq_true c9
        clear c9
        by_cases c10 : t419.length = 344
        ·rw [if_pos c10] at H
         have c10b0 := eq_true c10
         have c10b1 : decide (t419.length = 344) = true := decide_eq_true c10
         clear c10
         replace H := Option.bind_eq_some_iff.mp H
         obtain ⟨t423, A110, H⟩ := H
         replace H : ((impl_chi_left.f k2 t419 x7_2 x6_1).bind fun t424 => (if (wrap64 (t423 - t424)) ≥ (-1) then (if (wrap64 (t423 - t424)) ≤ 1 then (if x5_2.length < 5864062014805 then (impl_HalvingPairs.l1 k2 t419 (x5_2 ++ [(([x6_1, x7_2] : List Int))]) x6_1 (wrap64 (x7_2 + 1)) a0_0 a0_1) else (none)) else (impl_HalvingPairs.l1 k2 t419 x5_2 x6_1 (wrap64 (x7_2 + 1)) a0_0 a0_1)) else (impl_HalvingPairs.l1 k2 t419 x5_2 x6_1 (wrap64 (x7_2 + 1)) a0_0 a0_1))) = some r := H
         have A11 := Aside0.mk A110
         clear A110
         replace H := Option.bind_eq_some_iff.mp H
         obtain ⟨t424, A120, H⟩ := H
         replace H : (if (wrap64 (t423 - t424)) ≥ (-1) then (if (wrap64 (t423 - t424)) ≤ 1 then (if x5_2.length < 5864062014805 then (impl_HalvingPairs.l1 k2 t419 (x5_2 ++ [(([x6_1, x7_2] : List Int))]) x6_1 (wrap64 (x7_2 + 1)) a0_0 a0_1) else (none)) else (impl_HalvingPairs.l1 k2 t419 x5_2 x6_1 (wrap64 (x7_2 + 1)) a0_0 a0_1)) else (impl_HalvingPairs.l1 k2 t419 x5_2 x6_1 (wrap64 (x7_2 + 1)) a0_0 a0_1)) = some r := H
         have A12 := Aside0.mk A120
         clear A120
         by_cases c13 : (wrap64 (t423 - t424)) ≥ (-1)
         ·rw [if_pos c13] at H
          have c13b0 : decide ((-1) ≤ (wrap64 (t423 - t424))) = true := decide_eq_true c13
          clear c13
          by_cases c14 : (wrap64 (t423 - t424)) ≤ 1
          ·rw [if_pos c14] at H
           have c14b0 : decide ((wrap64 (t423 - t424)) ≤ 1) = true := decide_eq_true c14
           clear c14
           obtain ⟨y425, hy425⟩ : ∃ y_ : List Int, y_ = (([x6_1, x7_2] : List Int)) := ⟨_, rfl⟩
           replace H : (if x5_2.length < 5864062014805 then (impl_HalvingPairs.l1 k2 t419 (x5_2 ++ [y425]) x6_1 (wrap64 (x7_2 + 1)) a0_0 a0_1) else (none)) = some r := by first | (rw [hy425]; with_reducible exact H) | (have H2_ := (Option.bind_some _ _).symm.trans H; rw [hy425]; with_reducible exact H2_) | (have H2_ := (Option.bind_some _ _).symm.trans H; with_reducible exact H2_) | with_reducible exact H | (rw [hy425]; exact H) | exact H
           have Ny425 := Aside0.mk hy425
           clear hy425
           by_cases c15 : x5_2.length < 5864062014805
           ·rw [if_pos c15] at H
            have LMc15 := Aside0.mk c15
            clear c15
            obtain ⟨y428, hy428⟩ : ∃ y_ : List (List Int), y_ = (x5_2 ++ [y425]) := ⟨_, rfl⟩
            replace H : (impl_HalvingPairs.l1 k2 t419 y428 x6_1 (wrap64 (x7_2 + 1)) a0_0 a0_1) = some r := by first | (rw [hy428]; with_reducible exact H) | (have H2_ := (Option.bind_some _ _).symm.trans H; rw [hy428]; with_reducible exact H2_) | (have H2_ := (Option.bind_some _ _).symm.trans H; with_reducible exact H2_) | with_reducible exact H | (rw [hy428]; exact H) | exact H
            have Ny428 := Aside0.mk hy428
            clear hy428
            have H' := Aside0.mk H
            clear H
            have hcz16_0 : wr.cell? ⟨gb418, 0, none⟩ = some (.int .i64 a0_0) := (blk_cell BK418.out 0).trans rfl
            have hcz16_1 : wr.cell? ⟨gb418, 1, none⟩ = some (.string a0_1) := (blk_cell BK418.out 1).trans rfl
            have hfz16_0 := blk_frozen BK418.out 0
            have hfz16_1 := blk_frozen BK418.out 1
            obtain ⟨go17, co17, eo17, gb17, gl17, cl17, HG17⟩ := Kd.R_form HO_3.out (by have hl_ := Nat.le_of_eq (Eq.symm (zA : t419.length = 344)); omega)
            (first | cases eo17 | (injection eo17 with ea_ en_ ec_; (first | subst ea_ | (injection ea_ with ea_; subst ea_)); subst ec_; clear en_))
            have GB17 := Aside0.mk gb17
            have GG17 := Aside0.mk HG17
            clear gb17 gl17 HG17
            go_wp2_with (first | ((with_reducible refine gate_callee (f := 43) rfl ?_); refine goesL_ (some 33) rfl rfl Try.func43 (by kernel_rfl) rfl #[.pointer (some ⟨go17, 0, none⟩), .int .i64 x6_1, .int .i64 x7_2] rfl zM ?_; (with_reducible refine (impl_chi_left.calls k2 _ t419 x6_1 x7_2 t423 _ ?side1 ?side2 A11.out).mono ?_); (case side1 => repeat (first | exact (Kd.R_reads' HO_3.out).2.2 | (with_reducible refine Kd.C_alloc ?_ _) | (with_reducible refine Kd.C_drewN ?_ _) | (with_reducible refine Kd.C_drew ?_))); (case side2 => exact (zA : t419.length = 344)); rintro e w' ⟨rfl, ⟨nd, rfl⟩⟩; refine ⟨_, rfl, ?_⟩) | ((with_reducible refine gate_callee (f := 43) rfl ?_); refine goesL_ (some 37) rfl rfl Try.func43 (by kernel_rfl) rfl #[.pointer (some ⟨go17, 0, none⟩), .int .i64 x7_2, .int .i64 x6_1] rfl zM ?_; (with_reducible refine (impl_chi_left.calls k2 _ t419 x7_2 x6_1 t424 _ ?side1 ?side2 A12.out).mono ?_); (case side1 => repeat (first | exact (Kd.R_reads' HO_3.out).2.2 | (with_reducible refine Kd.C_alloc ?_ _) | (with_reducible refine Kd.C_drewN ?_ _) | (with_reducible refine Kd.C_drew ?_))); (case side2 => exact (zA : t419.length = 344)); rintro e w' ⟨rfl, ⟨nd, rfl⟩⟩; refine ⟨_, rfl, ?_⟩) | ((with_reducible refine gate_dst (N := 48) rfl ?_); refine Kd.R_lit (Kd.int .i64) _ 3 ?hg (N := 48) ?hd (xs := ([x6_1, x7_2] : List Int)) (inner := [.int .i64 x6_1, .int .i64 x7_2]) (ok := fun _ => True) (okp := fun _ => True) ?hr ?hp (fun _ hk => hk) trivial (Below.refl _ _) (Nat.le_refl _) (by simp) ?_; (case hd => rfl); (case hg => rfl); (case hr => first | (go_simp; done) | (go_simp; rfl)); (case hp => exact (Reps.one (show Kd.M (Kd.int .i64) _ _ _ x6_1 [.int .i64 x6_1] from rfl) (Reps.one (show Kd.M (Kd.int .i64) _ _ _ x7_2 [.int .i64 x7_2] from rfl) (Reps.none _ _)))); intro v426 w19 ho20 hb hg_ hnew_; clear hg_ hnew_; (first | rw [← Ny425.out] at ho20 | (simp only [Int.reduceToNat] at ho20; rw [← Ny425.out] at ho20)); replace HO_3 := Aside0.mk (Kd.R_below (zR HO_3.out) hb); replace HO_5 := Aside0.mk (Kd.S_elder' (by (with_reducible repeat (first | apply Kd.S_alloc | apply Kd.S_drewN | apply Kd.S_drew)); exact HO_5.out) (Kd.R_base ho20) hb); have HO427 := Aside0.mk (Kd.R_lower ho20 (below_size (zG GE418.out))); replace BK418 := Aside0.mk (blk_below (g := gb418) (o := .cells #[.int .i64 a0_0, .string a0_1] 26 (0, 0)) (zK BK418.out) hb); replace HB := Aside0.mk (below_step (zG GE418.out) hb); clear hb ho20; obtain ⟨Ao22, co22, eo22⟩ := Kd.R_slice HO427.out; subst eo22) | ((with_reducible refine gate_builtin (b := .append) (xs := #[.tmp 45, .tmp 49]) rfl ?_); at_builtin; refine Kd.S_append (Kd.slice 3 (Kd.int .i64)) (w0 := w) w.heap.size rfl (.tmp 45) (.tmp 49) 29 34 (.slice none 0 0) 24 rfl Try.underlying29 info34 rfl (by decide) (by omega) u5 x5_2 y425 [.slice Ao22 y425.length co22] (fun _ => True) (fun k_ => some k_ = (.slice Ao22 y425.length co22 : Value).ownBlock) rfl rfl ?aP (fun k_ hk_ => ((Kd.R_mono (ok' := fun k_ => ((fun _ => True)) k_ ∧ some k_ ≠ (u5 : Value).ownBlock) (Kd.R_apart' (HO427.out) (Kd.S_typed HO_5.out) (by decide)) (fun k_ hk => ⟨trivial, hk.2⟩))).1 k_ hk_.symm) ?aF ?aO ?aB ?aS ?aL ?_; (case aP => exact Kd.M_row (Kd.R_mono (Kd.R_tight rfl (Kd.R_mono (ok' := fun k_ => ((fun _ => True)) k_ ∧ some k_ ≠ (u5 : Value).ownBlock) (Kd.R_apart' (HO427.out) (Kd.S_typed HO_5.out) (by decide)) (fun k_ hk => ⟨trivial, hk.2⟩))) (fun _ h_ => h_))); (case aB => exact (zG GE418.out)); (case aF => exact (fun _ _ => trivial)); (case aO => exact (by (with_reducible repeat (first | apply Kd.S_alloc | apply Kd.S_drewN | apply Kd.S_drew)); exact Kd.S_mono HO_5.out (fun k_ hk => ⟨trivial, fun e_ => hk.2 e_⟩))); (case aS => exact (below_size (zG GE418.out))); (case aL => have := LMc15.out; omega); intro v429 w21 ho hb hg hat; rw [← Ny428.out] at ho; have n0_ := Aside0.mk (Kd.R_over' (zR HO_3.out) (Kd.S_typed (by (with_reducible repeat (first | apply Kd.S_alloc | apply Kd.S_drewN | apply Kd.S_drew)); exact HO_5.out)) (by decide) hg); have n1_ := Aside0.mk (blk_grown (g := gb418) (o := .cells #[.int .i64 a0_0, .string a0_1] 26 (0, 0)) (zK BK418.out) hg (Kd.S_ne HO_5.out BK418.out (by decide))); have n2_ := Aside0.mk (hb); have n3_ := Aside0.mk (ho); clear HO_3; clear BK418; clear HB; clear HO_5; clear HO427; have HO_3 := n0_; have BK418 := n1_; have HB := n2_; have HO430 := n3_; clear n0_ n1_ n2_ n3_; clear ho hb hg hat))
            go_roundg k2
            case measure => have := HK1.out; have := HK2.out; omega
            case rel => exact ⟨(y428), (wrap64 (x7_2 + 1)), zF, H', ⟨by have := HK1.out; have := HK2.out; omega⟩, ⟨zR HO_3.out⟩, ⟨by (with_reducible repeat (first | apply Kd.S_alloc | apply Kd.S_drewN | apply Kd.S_drew)); exact HO430.out⟩, ⟨zK BK418.out⟩, ⟨zG GE418.out⟩⟩
           ·rw [if_neg c15] at H
            exact absurd H (by simp)
          ·rw [if_neg c14] at H
           have c14b0 : decide ((wrap64 (t423 - t424)) ≤ 1) = false := decide_eq_false c14
           clear c14
           have H' := Aside0.mk H
           clear H
           have hcz23_0 : wr.cell? ⟨gb418, 0, none⟩ = some (.int .i64 a0_0) := (blk_cell BK418.out 0).trans rfl
           have hcz23_1 : wr.cell? ⟨gb418, 1, none⟩ = some (.string a0_1) := (blk_cell BK418.out 1).trans rfl
           have hfz23_0 := blk_frozen BK418.out 0
           have hfz23_1 := blk_frozen BK418.out 1
           obtain ⟨go24, co24, eo24, gb24, gl24, cl24, HG24⟩ := Kd.R_form HO_3.out (by have hl_ := Nat.le_of_eq (Eq.symm (zA : t419.length = 344)); omega)
           (first | cases eo24 | (injection eo24 with ea_ en_ ec_; (first | subst ea_ | (injection ea_ with ea_; subst ea_)); subst ec_; clear en_))
           have GB24 := Aside0.mk gb24
           have GG24 := Aside0.mk HG24
           clear gb24 gl24 HG24
           go_wp2_with (first | ((with_reducible refine gate_callee (f := 43) rfl ?_); refine goesL_ (some 33) rfl rfl Try.func43 (by kernel_rfl) rfl #[.pointer (some ⟨go24, 0, none⟩), .int .i64 x6_1, .int .i64 x7_2] rfl zM ?_; (with_reducible refine (impl_chi_left.calls k2 _ t419 x6_1 x7_2 t423 _ ?side1 ?side2 A11.out).mono ?_); (case side1 => repeat (first | exact (Kd.R_reads' HO_3.out).2.2 | (with_reducible refine Kd.C_alloc ?_ _) | (with_reducible refine Kd.C_drewN ?_ _) | (with_reducible refine Kd.C_drew ?_))); (case side2 => exact (zA : t419.length = 344)); rintro e w' ⟨rfl, ⟨nd, rfl⟩⟩; refine ⟨_, rfl, ?_⟩) | ((with_reducible refine gate_callee (f := 43) rfl ?_); refine goesL_ (some 37) rfl rfl Try.func43 (by kernel_rfl) rfl #[.pointer (some ⟨go24, 0, none⟩), .int .i64 x7_2, .int .i64 x6_1] rfl zM ?_; (with_reducible refine (impl_chi_left.calls k2 _ t419 x7_2 x6_1 t424 _ ?side1 ?side2 A12.out).mono ?_); (case side1 => repeat (first | exact (Kd.R_reads' HO_3.out).2.2 | (with_reducible refine Kd.C_alloc ?_ _) | (with_reducible refine Kd.C_drewN ?_ _) | (with_reducible refine Kd.C_drew ?_))); (case side2 => exact (zA : t419.length = 344)); rintro e w' ⟨rfl, ⟨nd, rfl⟩⟩; refine ⟨_, rfl, ?_⟩))
           go_roundg k2
           case measure => have := HK1.out; have := HK2.out; omega
           case rel => exact ⟨(x5_2), (wrap64 (x7_2 + 1)), zF, H', ⟨by have := HK1.out; have := HK2.out; omega⟩, ⟨zR HO_3.out⟩, ⟨by (with_reducible repeat (first | apply Kd.S_alloc | apply Kd.S_drewN | apply Kd.S_drew)); exact HO_5.out⟩, ⟨zK BK418.out⟩, ⟨zG GE418.out⟩⟩
         ·rw [if_neg c13] at H
          have c13b0 : decide ((-1) ≤ (wrap64 (t423 - t424))) = false := decide_eq_false c13
          clear c13
          have H' := Aside0.mk H
          clear H
          have hcz26_0 : wr.cell? ⟨gb418, 0, none⟩ = some (.int .i64 a0_0) := (blk_cell BK418.out 0).trans rfl
          have hcz26_1 : wr.cell? ⟨gb418, 1, none⟩ = some (.string a0_1) := (blk_cell BK418.out 1).trans rfl
          have hfz26_0 := blk_frozen BK418.out 0
          have hfz26_1 := blk_frozen BK418.out 1
          obtain ⟨go27, co27, eo27, gb27, gl27, cl27, HG27⟩ := Kd.R_form HO_3.out (by have hl_ := Nat.le_of_eq (Eq.symm (zA : t419.length = 344)); omega)
          (first | cases eo27 | (injection eo27 with ea_ en_ ec_; (first | subst ea_ | (injection ea_ with ea_; subst ea_)); subst ec_; clear en_))
          have GB27 := Aside0.mk gb27
          have GG27 := Aside0.mk HG27
          clear gb27 gl27 HG27
          go_wp2_with (first | ((with_reducible refine gate_callee (f := 43) rfl ?_); refine goesL_ (some 33) rfl rfl Try.func43 (by kernel_rfl) rfl #[.pointer (some ⟨go27, 0, none⟩), .int .i64 x6_1, .int .i64 x7_2] rfl zM ?_; (with_reducible refine (impl_chi_left.calls k2 _ t419 x6_1 x7_2 t423 _ ?side1 ?side2 A11.out).mono ?_); (case side1 => repeat (first | exact (Kd.R_reads' HO_3.out).2.2 | (with_reducible refine Kd.C_alloc ?_ _) | (with_reducible refine Kd.C_drewN ?_ _) | (with_reducible refine Kd.C_drew ?_))); (case side2 => exact (zA : t419.length = 344)); rintro e w' ⟨rfl, ⟨nd, rfl⟩⟩; refine ⟨_, rfl, ?_⟩) | ((with_reducible refine gate_callee (f := 43) rfl ?_); refine goesL_ (some 37) rfl rfl Try.func43 (by kernel_rfl) rfl #[.pointer (some ⟨go27, 0, none⟩), .int .i64 x7_2, .int .i64 x6_1] rfl zM ?_; (with_reducible refine (impl_chi_left.calls k2 _ t419 x7_2 x6_1 t424 _ ?side1 ?side2 A12.out).mono ?_); (case side1 => repeat (first | exact (Kd.R_reads' HO_3.out).2.2 | (with_reducible refine Kd.C_alloc ?_ _) | (with_reducible refine Kd.C_drewN ?_ _) | (with_reducible refine Kd.C_drew ?_))); (case side2 => exact (zA : t419.length = 344)); rintro e w' ⟨rfl, ⟨nd, rfl⟩⟩; refine ⟨_, rfl, ?_⟩))
          go_roundg k2
          case measure => have := HK1.out; have := HK2.out; omega
          case rel => exact ⟨(x5_2), (wrap64 (x7_2 + 1)), zF, H', ⟨by have := HK1.out; have := HK2.out; omega⟩, ⟨zR HO_3.out⟩, ⟨by (with_reducible repeat (first | apply Kd.S_alloc | apply Kd.S_drewN | apply Kd.S_drew)); exact HO_5.out⟩, ⟨zK BK418.out⟩, ⟨zG GE418.out⟩⟩
        ·rw [if_neg c10] at H
         exact absurd H (by simp)
       ·rw [if_neg c9] at H
        have c9b0 : decide (x7_2 < a0_0) = false := decide_eq_false c9
        clear c9
        have H' := Aside0.mk H
        clear H
        have hcz29_0 : wr.cell? ⟨gb418, 0, none⟩ = some (.int .i64 a0_0) := (blk_cell BK418.out 0).trans rfl
        have hcz29_1 : wr.cell? ⟨gb418, 1, none⟩ = some (.string a0_1) := (blk_cell BK418.out 1).trans rfl
        have hfz29_0 := blk_frozen BK418.out 0
        have hfz29_1 := blk_frozen BK418.out 1
        go_wp2
        go_roundg k2
        case measure => have := HK1.out; have := HK2.out; omega
        case rel => exact ⟨(x5_2), (wrap64 (x6_1 + 1)), zF, H', ⟨by have := HK1.out; have := HK2.out; omega⟩, ⟨zR HO_3.out⟩, ⟨by (with_reducible repeat (first | apply Kd.S_alloc | apply Kd.S_drewN | apply Kd.S_drew)); exact HO_5.out⟩, ⟨zK BK418.out⟩, ⟨zG GE418.out⟩⟩
    ·rw [if_neg c7] at H
     have c7b0 : decide (x6_1 < a0_0) = false := decide_eq_false c7
     clear c7
     obtain rfl := Option.some.inj H
     have hcz30_0 : wr.cell? ⟨gb418, 0, none⟩ = some (.int .i64 a0_0) := (blk_cell BK418.out 0).trans rfl
     have hcz30_1 : wr.cell? ⟨gb418, 1, none⟩ = some (.string a0_1) := (blk_cell BK418.out 1).trans rfl
     have hfz30_0 := blk_frozen BK418.out 0
     have hfz30_1 := blk_frozen BK418.out 1
     go_wp2
     go_ret
     exact ⟨_, zE, by (with_reducible repeat (first | apply Kd.S_alloc | apply Kd.S_drewN | apply Kd.S_drew)); exact HO_5.out, zG GE418.out⟩
 ·replace c3 := Bool.eq_false_iff.mpr c3
  subst c3
  have H1 : (some ([] : List (List Int))) = some r := by rw [if_neg (show ¬ (false = true) by decide)] at H; exact H
  clear H
  have H := H1
  clear H1
  obtain rfl := Option.some.inj H
  go_enter Try.func29, Try.ntmps29
  go_wp2_with (first | ((with_reducible refine gate_dst (N := 1) rfl ?_); refine box_event ?hg (N := 1) ?hd (cs := #[.int .i64 a0_0, .string a0_1]) (t := 26) ?hr ?_; (case hd => rfl); (case hg => rfl); (case hr => first | (go_simp; done) | (go_simp; rfl)); intro gb418 hg w31 hbox hb; have BK418 := Aside0.mk (hbox); have GW418 := Aside0.mk ((by rw [hg]; exact (below_size zB) : w.heap.size ≤ gb418)); have GE418 := Aside0.mk ((by rw [hg]; exact (below_size zB) : w.heap.size ≤ gb418)); replace HB := Aside0.mk (below_step zB hb); clear hb hbox hg; have hcz32_0 : w31.cell? ⟨gb418, 0, none⟩ = some (.int .i64 a0_0) := (blk_cell BK418.out 0).trans rfl; have hcz32_1 : w31.cell? ⟨gb418, 1, none⟩ = some (.string a0_1) := (blk_cell BK418.out 1).trans rfl; have hfz32_0 := blk_frozen BK418.out 0; have hfz32_1 := blk_frozen BK418.out 1) | ((with_reducible refine gate_callee (f := 41) rfl ?_); refine goesL_ (some 11) rfl rfl Try.func41 (by kernel_rfl) rfl #[.agg #[.int .i64 a0_0, .string a0_1]] rfl zM ?_; (with_reducible refine (impl_orderOf.calls k a0_0 a0_1 t419 false _ A2.out).mono ?_); rintro e w33 ⟨v420, rfl, ho0, hb⟩; refine ⟨_, rfl, ?_⟩; have HO421 := Aside0.mk (Kd.R_lower ho0 (below_size (zG GE418.out))); replace BK418 := Aside0.mk (blk_below (g := gb418) (o := .cells #[.int .i64 a0_0, .string a0_1] 26 (0, 0)) (zK BK418.out) hb); replace HB := Aside0.mk (below_step (zG GE418.out) hb); (try clear hb); (try clear ho0)))
  go_ret
  exact ⟨_, zE, by first | exact Kd.S_nil _ _ _ _ _ | exact Kd.N_nil _ _ _ _ _ | exact Kd.V_nil _ _ _ _ _ | exact Kd.Q_nil _ _ _ _ _ | exact Kd.R_nil _ _ _ _ _, zG GE418.out⟩
/-! ### laws_FnExactHalvingPairs: function 7 -/
def laws_FnExactHalvingPairs.f (k : Nat) (a0_0 : Int) (a0_1 : ByteArray) : Option (Bool) := (laws_szSigns.f a0_0 a0_1 1048576).bind fun t1 => (if t1 < 0 then (some true) else ((laws_toSigns.f a0_0 a0_1).bind fun bt2 => ((spec_HalvingPairs.f k bt2.1 bt2.2).bind fun t3 => ((laws_toSigns.f a0_0 a0_1).bind fun bt4 => ((impl_HalvingPairs.f k bt4.1 bt4.2).bind fun t5 => ((laws_eqIntSS.f k t5 t3).bind fun t6 => (if t6 = true then ((laws_markIntSS.f k t5 1).bind fun bt7 => ((laws_heldIntSS.f k bt7.2 1).bind fun t8 => (if t8 < 0 then (some false) else (if t8 = bt7.1 then ((laws_toSigns.f a0_0 a0_1).bind fun bt9 => ((impl_HalvingPairs.f k bt9.1 bt9.2).bind fun t10 => ((laws_eqIntSS.f k t10 t3).bind fun t11 => (if t11 = true then ((laws_heldIntSS.f k bt7.2 1).bind fun t12 => (if t12 < 0 then (some false) else (if t12 = bt7.1 then (some true) else (some false)))) else (some false))))) else (some false))))) else (some false))))))))
set_option maxHeartbeats 8000000 in
set_option maxRecDepth 100000 in
theorem laws_FnExactHalvingPairs.calls (k : Nat) (a0_0 : Int) (a0_1 : ByteArray) (r : Bool) (w : World) (h : laws_FnExactHalvingPairs.f k a0_0 a0_1 = some r) (hr_ : r = true) :
    Calls Try.prog 7 #[.agg #[.int .i64 a0_0, .string a0_1]] w fun e w' => e = .returned (.bool r) ∧ Below w.heap.size w w' := by
  subst hr_
  have hu23 := Try.underlying23
  have hu26 := Try.underlying26
  have HB := Aside0.mk (Below.refl w.heap.size w)
  unfold laws_FnExactHalvingPairs.f at h
  obtain ⟨t1, A_, hn_⟩ := Option.bind_eq_some_iff.mp h
  clear h
  have h := hn_
  clear hn_
  have A1 := Aside0.mk A_
  clear A_
  by_cases c1 : t1 < 0
  · have c1b := decide_eq_true c1
    clear c1 h
    go_enter Try.func7, Try.ntmps7
    go_wp2_with (first | ((with_reducible refine gate_dst (N := 1) rfl ?_); refine box_event ?hg (N := 1) ?hd (cs := #[.int .i64 a0_0, .string a0_1]) (t := 23) ?hr ?_; (case hd => rfl); (case hg => rfl); (case hr => first | (go_simp; done) | (go_simp; rfl)); intro gb1 hg W hbox hb; have n0_ := Aside0.mk (below_step HB.out hb); have n1_ := Aside0.mk hbox; clear HB; have HB := n0_; have BK := n1_; clear n0_ n1_; clear hb hbox hg; have hcz0_0 : W.cell? ⟨gb1, 0, none⟩ = some (.int .i64 a0_0) := (blk_cell BK.out 0).trans rfl; have hcz0_1 : W.cell? ⟨gb1, 1, none⟩ = some (.string a0_1) := (blk_cell BK.out 1).trans rfl; have hfz0_0 := blk_frozen BK.out 0; have hfz0_1 := blk_frozen BK.out 1) | ((with_reducible refine gate_callee (f := 12) rfl ?_); refine goesL_ (some 11) rfl rfl Try.func12 (by kernel_rfl) rfl #[.agg #[.int .i64 a0_0, .string a0_1], .int .i64 1048576] rfl (by (try simp only [List.map_toArray, List.map_cons, List.map_nil]); first | done | rfl) ?_; (with_reducible refine (laws_szSigns.calls a0_0 a0_1 1048576 t1 _ A1.out).mono ?_); rintro e W1 ⟨rfl, hb⟩; refine ⟨_, rfl, ?_⟩; have n0_ := Aside0.mk (blk_below (g := gb1) (o := .cells #[.int .i64 a0_0, .string a0_1] 23 (0, 0)) BK.out hb); have n1_ := Aside0.mk (below_step HB.out hb); clear BK HB; have BK := n0_; have HB := n1_; clear n0_ n1_; (try clear hb); have hcz1_0 : W1.cell? ⟨gb1, 0, none⟩ = some (.int .i64 a0_0) := (blk_cell BK.out 0).trans rfl; have hcz1_1 : W1.cell? ⟨gb1, 1, none⟩ = some (.string a0_1) := (blk_cell BK.out 1).trans rfl; have hfz1_0 := blk_frozen BK.out 0; have hfz1_1 := blk_frozen BK.out 1))
    go_ret
    exact ⟨rfl, HB.out⟩
  rw [if_neg c1] at h
  have c1b := decide_eq_false c1
  clear c1
  obtain ⟨⟨t2a, t2b⟩, A_, hn_⟩ := Option.bind_eq_some_iff.mp h
  clear h
  have h := hn_
  clear hn_
  (try dsimp only at A_ h)
  have A2 := Aside0.mk A_
  clear A_
  obtain ⟨t3, A_, hn_⟩ := Option.bind_eq_some_iff.mp h
  clear h
  have h := hn_
  clear hn_
  (try dsimp only at A_ h)
  have A3 := Aside0.mk A_
  clear A_
  obtain ⟨⟨t4a, t4b⟩, A_, hn_⟩ := Option.bind_eq_some_iff.mp h
  clear h
  have h := hn_
  clear hn_
  (try dsimp only at A_ h)
  have A4 := Aside0.mk A_
  clear A_
  obtain ⟨t5, A_, hn_⟩ := Option.bind_eq_some_iff.mp h
  clear h
  have h := hn_
  clear hn_
  (try dsimp only at A_ h)
  have A5 := Aside0.mk A_
  clear A_
  obtain ⟨t6, A_, hn_⟩ := Option.bind_eq_some_iff.mp h
  clear h
  have h := hn_
  clear hn_
  (try dsimp only at A_ h)
  have A6 := Aside0.mk A_
  clear A_
  cases t6 with
  | false => rw [if_neg (by decide)] at h; cases h
  | true =>
  rw [if_pos rfl] at h
  obtain ⟨⟨t7a, t7b⟩, A_, hn_⟩ := Option.bind_eq_some_iff.mp h
  clear h
  have h := hn_
  clear hn_
  (try dsimp only at A_ h)
  have A7 := Aside0.mk A_
  clear A_
  obtain ⟨t8, A_, hn_⟩ := Option.bind_eq_some_iff.mp h
  clear h
  have h := hn_
  clear hn_
  (try dsimp only at A_ h)
  have A8 := Aside0.mk A_
  clear A_
  by_cases c8 : t8 < 0
  · rw [if_pos c8] at h; cases h
  rw [if_neg c8] at h
  have c8b := decide_eq_false c8
  clear c8
  by_cases e8 : t8 = t7a
  case neg => rw [if_neg e8] at h; cases h
  rw [if_pos e8] at h
  subst e8
  obtain ⟨⟨t9a, t9b⟩, A_, hn_⟩ := Option.bind_eq_some_iff.mp h
  clear h
  have h := hn_
  clear hn_
  (try dsimp only at A_ h)
  have A9 := Aside0.mk A_
  clear A_
  obtain ⟨t10, A_, hn_⟩ := Option.bind_eq_some_iff.mp h
  clear h
  have h := hn_
  clear hn_
  (try dsimp only at A_ h)
  have A10 := Aside0.mk A_
  clear A_
  obtain ⟨t11, A_, hn_⟩ := Option.bind_eq_some_iff.mp h
  clear h
  have h := hn_
  clear hn_
  (try dsimp only at A_ h)
  have A11 := Aside0.mk A_
  clear A_
  cases t11 with
  | false => rw [if_neg (by decide)] at h; cases h
  | true =>
  rw [if_pos rfl] at h
  obtain ⟨t12, A_, hn_⟩ := Option.bind_eq_some_iff.mp h
  clear h
  have h := hn_
  clear hn_
  (try dsimp only at A_ h)
  have A12 := Aside0.mk A_
  clear A_
  by_cases c12 : t12 < 0
  · rw [if_pos c12] at h; cases h
  rw [if_neg c12] at h
  have c12b := decide_eq_false c12
  clear c12
  by_cases e12 : t12 = t8
  case neg => rw [if_neg e12] at h; cases h
  subst e12
  clear h
  go_enter Try.func7, Try.ntmps7
  go_wp2_with (first | ((with_reducible refine gate_dst (N := 1) rfl ?_); refine box_event ?hg (N := 1) ?hd (cs := #[.int .i64 a0_0, .string a0_1]) (t := 23) ?hr ?_; (case hd => rfl); (case hg => rfl); (case hr => first | (go_simp; done) | (go_simp; rfl)); intro gb1 hg W hbox hb; have n0_ := Aside0.mk (below_step HB.out hb); have n1_ := Aside0.mk hbox; clear HB; have HB := n0_; have BK := n1_; clear n0_ n1_; clear hb hbox hg; have hcz0_0 : W.cell? ⟨gb1, 0, none⟩ = some (.int .i64 a0_0) := (blk_cell BK.out 0).trans rfl; have hcz0_1 : W.cell? ⟨gb1, 1, none⟩ = some (.string a0_1) := (blk_cell BK.out 1).trans rfl; have hfz0_0 := blk_frozen BK.out 0; have hfz0_1 := blk_frozen BK.out 1) | ((with_reducible refine gate_callee (f := 12) rfl ?_); refine goesL_ (some 11) rfl rfl Try.func12 (by kernel_rfl) rfl #[.agg #[.int .i64 a0_0, .string a0_1], .int .i64 1048576] rfl (by (try simp only [List.map_toArray, List.map_cons, List.map_nil]); first | done | rfl) ?_; (with_reducible refine (laws_szSigns.calls a0_0 a0_1 1048576 t1 _ A1.out).mono ?_); rintro e W1 ⟨rfl, hb⟩; refine ⟨_, rfl, ?_⟩; have n0_ := Aside0.mk (blk_below (g := gb1) (o := .cells #[.int .i64 a0_0, .string a0_1] 23 (0, 0)) BK.out hb); have n1_ := Aside0.mk (below_step HB.out hb); clear BK HB; have BK := n0_; have HB := n1_; clear n0_ n1_; (try clear hb); have hcz1_0 : W1.cell? ⟨gb1, 0, none⟩ = some (.int .i64 a0_0) := (blk_cell BK.out 0).trans rfl; have hcz1_1 : W1.cell? ⟨gb1, 1, none⟩ = some (.string a0_1) := (blk_cell BK.out 1).trans rfl; have hfz1_0 := blk_frozen BK.out 0; have hfz1_1 := blk_frozen BK.out 1) | ((with_reducible refine gate_callee (f := 14) rfl ?_); refine goesL_ (some 15) rfl rfl Try.func14 (by kernel_rfl) rfl #[.agg #[.int .i64 a0_0, .string a0_1]] rfl (by (try simp only [List.map_toArray, List.map_cons, List.map_nil]); first | done | rfl) ?_; (with_reducible refine (laws_toSigns.calls a0_0 a0_1 t2a t2b _ A2.out).mono ?_); rintro e W2 ⟨rfl, hb⟩; refine ⟨_, rfl, ?_⟩; have n0_ := Aside0.mk (blk_below (g := gb1) (o := .cells #[.int .i64 a0_0, .string a0_1] 23 (0, 0)) BK.out hb); have n1_ := Aside0.mk (below_step HB.out hb); clear BK HB; have BK := n0_; have HB := n1_; clear n0_ n1_; (try clear hb); have hcz2_0 : W2.cell? ⟨gb1, 0, none⟩ = some (.int .i64 a0_0) := (blk_cell BK.out 0).trans rfl; have hcz2_1 : W2.cell? ⟨gb1, 1, none⟩ = some (.string a0_1) := (blk_cell BK.out 1).trans rfl; have hfz2_0 := blk_frozen BK.out 0; have hfz2_1 := blk_frozen BK.out 1) | ((with_reducible refine gate_callee (f := 28) rfl ?_); refine goesL_ (some 16) rfl rfl Try.func28 (by kernel_rfl) rfl #[.agg #[.int .i64 t2a, .string t2b]] rfl (by (try simp only [List.map_toArray, List.map_cons, List.map_nil]); first | done | rfl) ?_; (with_reducible refine (spec_HalvingPairs.calls k t2a t2b t3 _ A3.out).mono ?_); rintro e W3 ⟨v3, rfl, ho0, hb⟩; refine ⟨_, rfl, ?_⟩; have n0_ := Aside0.mk (Kd.S_lower ho0 (below_size HB.out)); have n1_ := Aside0.mk (blk_below (g := gb1) (o := .cells #[.int .i64 a0_0, .string a0_1] 23 (0, 0)) BK.out hb); have n2_ := Aside0.mk (below_step HB.out hb); clear BK HB; have HX := n0_; have BK := n1_; have HB := n2_; clear n0_ n1_ n2_; (try clear hb); clear ho0; have hcz3_0 : W3.cell? ⟨gb1, 0, none⟩ = some (.int .i64 a0_0) := (blk_cell BK.out 0).trans rfl; have hcz3_1 : W3.cell? ⟨gb1, 1, none⟩ = some (.string a0_1) := (blk_cell BK.out 1).trans rfl; have hfz3_0 := blk_frozen BK.out 0; have hfz3_1 := blk_frozen BK.out 1) | ((with_reducible refine gate_callee (f := 14) rfl ?_); refine goesL_ (some 18) rfl rfl Try.func14 (by kernel_rfl) rfl #[.agg #[.int .i64 a0_0, .string a0_1]] rfl (by (try simp only [List.map_toArray, List.map_cons, List.map_nil]); first | done | rfl) ?_; (with_reducible refine (laws_toSigns.calls a0_0 a0_1 t4a t4b _ A4.out).mono ?_); rintro e W4 ⟨rfl, hb⟩; refine ⟨_, rfl, ?_⟩; have n0_ := Aside0.mk (blk_below (g := gb1) (o := .cells #[.int .i64 a0_0, .string a0_1] 23 (0, 0)) BK.out hb); have n1_ := Aside0.mk (Kd.S_below HX.out hb); have n2_ := Aside0.mk (below_step HB.out hb); clear BK HX HB; have BK := n0_; have HX := n1_; have HB := n2_; clear n0_ n1_ n2_; (try clear hb); have hcz4_0 : W4.cell? ⟨gb1, 0, none⟩ = some (.int .i64 a0_0) := (blk_cell BK.out 0).trans rfl; have hcz4_1 : W4.cell? ⟨gb1, 1, none⟩ = some (.string a0_1) := (blk_cell BK.out 1).trans rfl; have hfz4_0 := blk_frozen BK.out 0; have hfz4_1 := blk_frozen BK.out 1) | ((with_reducible refine gate_callee (f := 29) rfl ?_); refine goesL_ (some 19) rfl rfl Try.func29 (by kernel_rfl) rfl #[.agg #[.int .i64 t4a, .string t4b]] rfl (by (try simp only [List.map_toArray, List.map_cons, List.map_nil]); first | done | rfl) ?_; (with_reducible refine (impl_HalvingPairs.calls k t4a t4b t5 _ A5.out).mono ?_); rintro e W5 ⟨v5, rfl, ho0, hb⟩; refine ⟨_, rfl, ?_⟩; have n0_ := Aside0.mk (blk_lt BK.out); have n1_ := Aside0.mk (Kd.S_lower (Kd.S_mono (ok' := fun k_ => W4.heap.size ≤ k_) (Kd.S_bound ho0) (fun k_ hk_ => hk_.2.1)) (below_size HB.out)); have n2_ := Aside0.mk (hb.size); have n3_ := Aside0.mk (Kd.S_below (Kd.S_mono (ok' := fun k_ => k_ < W4.heap.size) (Kd.S_bound HX.out) (fun k_ hk_ => hk_.2.2.1)) hb); have n4_ := Aside0.mk (blk_below (g := gb1) (o := .cells #[.int .i64 a0_0, .string a0_1] 23 (0, 0)) BK.out hb); have n5_ := Aside0.mk (below_step HB.out hb); clear HX BK HB; have HG := n0_; have HY := n1_; have HS := n2_; have HX := n3_; have BK := n4_; have HB := n5_; clear n0_ n1_ n2_ n3_ n4_ n5_; (try clear hb); clear ho0; obtain ⟨AY, cY, eY⟩ := Kd.S_slice HY.out; subst eY; obtain ⟨AX, cX, eX⟩ := Kd.S_slice HX.out; subst eX; have hcz5_0 : W5.cell? ⟨gb1, 0, none⟩ = some (.int .i64 a0_0) := (blk_cell BK.out 0).trans rfl; have hcz5_1 : W5.cell? ⟨gb1, 1, none⟩ = some (.string a0_1) := (blk_cell BK.out 1).trans rfl; have hfz5_0 := blk_frozen BK.out 0; have hfz5_1 := blk_frozen BK.out 1) | ((with_reducible refine gate_callee (f := 18) rfl ?_); refine goesL_ (some 22) rfl rfl Try.func18 (by kernel_rfl) rfl #[.slice AY t5.length cY, .slice AX t3.length cX] rfl (by (try simp only [List.map_toArray, List.map_cons, List.map_nil]); first | done | rfl) ?_; (with_reducible refine (laws_eqIntSS.calls k _ _ t5 _ _ t3 true _ ?side1 ?side2 ?side3 ?side4 A6.out).mono ?_); (case side1 => exact (Kd.S_reads' HY.out).2.2); (case side2 => exact (Kd.S_reads' HY.out).2.1); (case side3 => exact (Kd.S_reads' HX.out).2.2); (case side4 => exact (Kd.S_reads' HX.out).2.1); rintro e W6 ⟨rfl, hd_⟩; refine ⟨_, rfl, ?_⟩; have hb := hd_.below; clear hd_; have n0_ := Aside0.mk (blk_below (g := gb1) (o := .cells #[.int .i64 a0_0, .string a0_1] 23 (0, 0)) BK.out hb); have n1_ := Aside0.mk (Kd.S_below HX.out hb); have n2_ := Aside0.mk (Kd.S_below HY.out hb); have n3_ := Aside0.mk (Nat.le_trans HS.out hb.size); have n4_ := Aside0.mk (below_step HB.out hb); clear BK HX HY HS HB; have BK := n0_; have HX := n1_; have HY := n2_; have HS := n3_; have HB := n4_; clear n0_ n1_ n2_ n3_ n4_; (try clear hb); have hcz6_0 : W6.cell? ⟨gb1, 0, none⟩ = some (.int .i64 a0_0) := (blk_cell BK.out 0).trans rfl; have hcz6_1 : W6.cell? ⟨gb1, 1, none⟩ = some (.string a0_1) := (blk_cell BK.out 1).trans rfl; have hfz6_0 := blk_frozen BK.out 0; have hfz6_1 := blk_frozen BK.out 1) | ((with_reducible refine gate_callee (f := 19) rfl ?_); refine goesL_ (some 26) rfl rfl Try.func19 (by kernel_rfl) rfl #[.slice AY t5.length cY, .int .i64 1] rfl (by (try simp only [List.map_toArray, List.map_cons, List.map_nil]); first | done | rfl) ?_; (with_reducible refine (laws_markIntSS.calls k (fun k_ => W4.heap.size ≤ k_) (.slice AY t5.length cY) t5 1 _ t7b w _ HB.out HY.out A7.out).mono ?_); rintro e W7 ⟨rfl, hy0, hb, hkp⟩; refine ⟨_, rfl, ?_⟩; have n0_ := Aside0.mk (blk_kept BK.out hkp (fun hs_ => absurd HG.out (Nat.not_lt.2 hs_))); have n1_ := Aside0.mk (Kd.S_step HX.out (fun k_ hk_ hlt_ => hkp.2 k_ hlt_ (fun hs_ => absurd hk_ (Nat.not_lt.2 hs_)))); have n2_ := Aside0.mk (Kd.S_mono (ok' := fun k_ => W4.heap.size ≤ k_) hy0 (fun k_ hk_ => hk_.elim id (fun h_ => Nat.le_trans HS.out h_))); have n3_ := Aside0.mk (Nat.le_trans HS.out hkp.1); have n4_ := Aside0.mk (hb); clear BK HX HY HS HB; have BK := n0_; have HX := n1_; have HY := n2_; have HS := n3_; have HB := n4_; clear n0_ n1_ n2_ n3_ n4_; (try clear hb); clear hkp hy0; have hcz7_0 : W7.cell? ⟨gb1, 0, none⟩ = some (.int .i64 a0_0) := (blk_cell BK.out 0).trans rfl; have hcz7_1 : W7.cell? ⟨gb1, 1, none⟩ = some (.string a0_1) := (blk_cell BK.out 1).trans rfl; have hfz7_0 := blk_frozen BK.out 0; have hfz7_1 := blk_frozen BK.out 1) | ((with_reducible refine gate_callee (f := 20) rfl ?_); refine goesL_ (some 29) rfl rfl Try.func20 (by kernel_rfl) rfl #[.slice AY t7b.length cY, .int .i64 1] rfl (by (try simp only [List.map_toArray, List.map_cons, List.map_nil]); first | done | (rw [show t7b.length = t5.length from (Kd.S_reads' HY.out).1.symm] <;> rfl) | rfl) ?_; (with_reducible refine (laws_heldIntSS.calls k _ _ t7b 1 _ _ ?side1 ?side2 A8.out).mono ?_); (case side1 => exact (Kd.S_reads' HY.out).2.2); (case side2 => rw [show t7b.length = t5.length from (Kd.S_reads' HY.out).1.symm]; exact (Kd.S_reads' HY.out).2.1); rintro e W8 ⟨rfl, hd_⟩; refine ⟨_, rfl, ?_⟩; have hb := hd_.below; clear hd_; have n0_ := Aside0.mk (blk_below (g := gb1) (o := .cells #[.int .i64 a0_0, .string a0_1] 23 (0, 0)) BK.out hb); have n1_ := Aside0.mk (Kd.S_below HX.out hb); have n2_ := Aside0.mk (Kd.S_below HY.out hb); have n3_ := Aside0.mk (below_step HB.out hb); clear BK HX HY HB; have BK := n0_; have HX := n1_; have HY := n2_; have HB := n3_; clear n0_ n1_ n2_ n3_; (try clear hb); have hcz8_0 : W8.cell? ⟨gb1, 0, none⟩ = some (.int .i64 a0_0) := (blk_cell BK.out 0).trans rfl; have hcz8_1 : W8.cell? ⟨gb1, 1, none⟩ = some (.string a0_1) := (blk_cell BK.out 1).trans rfl; have hfz8_0 := blk_frozen BK.out 0; have hfz8_1 := blk_frozen BK.out 1) | ((with_reducible refine gate_callee (f := 14) rfl ?_); refine goesL_ (some 36) rfl rfl Try.func14 (by kernel_rfl) rfl #[.agg #[.int .i64 a0_0, .string a0_1]] rfl (by (try simp only [List.map_toArray, List.map_cons, List.map_nil]); first | done | rfl) ?_; (with_reducible refine (laws_toSigns.calls a0_0 a0_1 t9a t9b _ A9.out).mono ?_); rintro e W9 ⟨rfl, hb⟩; refine ⟨_, rfl, ?_⟩; have n0_ := Aside0.mk (blk_below (g := gb1) (o := .cells #[.int .i64 a0_0, .string a0_1] 23 (0, 0)) BK.out hb); have n1_ := Aside0.mk (Kd.S_below HX.out hb); have n2_ := Aside0.mk (Kd.S_below HY.out hb); have n3_ := Aside0.mk (below_step HB.out hb); clear BK HX HY HB; have BK := n0_; have HX := n1_; have HY := n2_; have HB := n3_; clear n0_ n1_ n2_ n3_; (try clear hb); have hcz9_0 : W9.cell? ⟨gb1, 0, none⟩ = some (.int .i64 a0_0) := (blk_cell BK.out 0).trans rfl; have hcz9_1 : W9.cell? ⟨gb1, 1, none⟩ = some (.string a0_1) := (blk_cell BK.out 1).trans rfl; have hfz9_0 := blk_frozen BK.out 0; have hfz9_1 := blk_frozen BK.out 1) | ((with_reducible refine gate_callee (f := 29) rfl ?_); refine goesL_ (some 37) rfl rfl Try.func29 (by kernel_rfl) rfl #[.agg #[.int .i64 t9a, .string t9b]] rfl (by (try simp only [List.map_toArray, List.map_cons, List.map_nil]); first | done | rfl) ?_; (with_reducible refine (impl_HalvingPairs.calls k t9a t9b t10 _ A10.out).mono ?_); rintro e W10 ⟨v10, rfl, ho0, hb⟩; refine ⟨_, rfl, ?_⟩; have n0_ := Aside0.mk (Kd.S_lower ho0 (below_size HB.out)); have n1_ := Aside0.mk (blk_below (g := gb1) (o := .cells #[.int .i64 a0_0, .string a0_1] 23 (0, 0)) BK.out hb); have n2_ := Aside0.mk (Kd.S_below HX.out hb); have n3_ := Aside0.mk (Kd.S_below HY.out hb); have n4_ := Aside0.mk (below_step HB.out hb); clear BK HX HY HB; have HZ := n0_; have BK := n1_; have HX := n2_; have HY := n3_; have HB := n4_; clear n0_ n1_ n2_ n3_ n4_; (try clear hb); clear ho0; obtain ⟨AZ, cZ, eZ⟩ := Kd.S_slice HZ.out; subst eZ; have hcz10_0 : W10.cell? ⟨gb1, 0, none⟩ = some (.int .i64 a0_0) := (blk_cell BK.out 0).trans rfl; have hcz10_1 : W10.cell? ⟨gb1, 1, none⟩ = some (.string a0_1) := (blk_cell BK.out 1).trans rfl; have hfz10_0 := blk_frozen BK.out 0; have hfz10_1 := blk_frozen BK.out 1) | ((with_reducible refine gate_callee (f := 18) rfl ?_); refine goesL_ (some 40) rfl rfl Try.func18 (by kernel_rfl) rfl #[.slice AZ t10.length cZ, .slice AX t3.length cX] rfl (by (try simp only [List.map_toArray, List.map_cons, List.map_nil]); first | done | rfl) ?_; (with_reducible refine (laws_eqIntSS.calls k _ _ t10 _ _ t3 true _ ?side1 ?side2 ?side3 ?side4 A11.out).mono ?_); (case side1 => exact (Kd.S_reads' HZ.out).2.2); (case side2 => exact (Kd.S_reads' HZ.out).2.1); (case side3 => exact (Kd.S_reads' HX.out).2.2); (case side4 => exact (Kd.S_reads' HX.out).2.1); rintro e W11 ⟨rfl, hd_⟩; refine ⟨_, rfl, ?_⟩; have hb := hd_.below; clear hd_; have n0_ := Aside0.mk (blk_below (g := gb1) (o := .cells #[.int .i64 a0_0, .string a0_1] 23 (0, 0)) BK.out hb); have n1_ := Aside0.mk (Kd.S_below HX.out hb); have n2_ := Aside0.mk (Kd.S_below HY.out hb); have n3_ := Aside0.mk (below_step HB.out hb); clear BK HX HY HB; have BK := n0_; have HX := n1_; have HY := n2_; have HB := n3_; clear n0_ n1_ n2_ n3_; (try clear hb); have hcz11_0 : W11.cell? ⟨gb1, 0, none⟩ = some (.int .i64 a0_0) := (blk_cell BK.out 0).trans rfl; have hcz11_1 : W11.cell? ⟨gb1, 1, none⟩ = some (.string a0_1) := (blk_cell BK.out 1).trans rfl; have hfz11_0 := blk_frozen BK.out 0; have hfz11_1 := blk_frozen BK.out 1) | ((with_reducible refine gate_callee (f := 20) rfl ?_); refine goesL_ (some 44) rfl rfl Try.func20 (by kernel_rfl) rfl #[.slice AY t7b.length cY, .int .i64 1] rfl (by (try simp only [List.map_toArray, List.map_cons, List.map_nil]); first | done | (rw [show t7b.length = t5.length from (Kd.S_reads' HY.out).1.symm] <;> rfl) | rfl) ?_; (with_reducible refine (laws_heldIntSS.calls k _ _ t7b 1 _ _ ?side1 ?side2 A12.out).mono ?_); (case side1 => exact (Kd.S_reads' HY.out).2.2); (case side2 => rw [show t7b.length = t5.length from (Kd.S_reads' HY.out).1.symm]; exact (Kd.S_reads' HY.out).2.1); rintro e W12 ⟨rfl, hd_⟩; refine ⟨_, rfl, ?_⟩; have hb := hd_.below; clear hd_; have n0_ := Aside0.mk (blk_below (g := gb1) (o := .cells #[.int .i64 a0_0, .string a0_1] 23 (0, 0)) BK.out hb); have n1_ := Aside0.mk (Kd.S_below HX.out hb); have n2_ := Aside0.mk (Kd.S_below HY.out hb); have n3_ := Aside0.mk (below_step HB.out hb); clear BK HX HY HB; have BK := n0_; have HX := n1_; have HY := n2_; have HB := n3_; clear n0_ n1_ n2_ n3_; (try clear hb); have hcz12_0 : W12.cell? ⟨gb1, 0, none⟩ = some (.int .i64 a0_0) := (blk_cell BK.out 0).trans rfl; have hcz12_1 : W12.cell? ⟨gb1, 1, none⟩ = some (.string a0_1) := (blk_cell BK.out 1).trans rfl; have hfz12_0 := blk_frozen BK.out 0; have hfz12_1 := blk_frozen BK.out 1))
  go_ret
  exact ⟨rfl, HB.out⟩
end Go.Proofs.Ytbjncemaeagjjaa.PX
namespace Go.Proofs.Ytbjncemaeagjjaa.M
open Go.RowKit Go.Proofs.YtbjncemaeagjjaaW.PrintWords Go.Proofs.Ytbjncemaeagjjaa.PX Go.Proofs.Ytbjncemaeagjjaa.G Go.Proofs.YtbjncemaeagjjaaW.PrintMore
def halfQ (n : Nat) (t : ByteArray) (q : Nat × Nat) : Bool := decide (((leftV n t q.1 q.2 : Int) - (leftV n t q.2 q.1 : Int)) ≥ -1) && decide (((leftV n t q.1 q.2 : Int) - (leftV n t q.2 q.1 : Int)) ≤ 1)
def listP (q : Nat × Nat) : List Int := [(q.1 : Int), (q.2 : Int)]
/-- What HalvingPairs answers. -/
def halvA (n : Int) (t : ByteArray) : List (List Int) := if acyOk n t = true then ((pairsL n.toNat).filter (halfQ n.toNat t)).map listP else []
theorem halv_fold (n : Nat) (t : ByteArray) : (pairsL n).foldlM (fun (u : List (List Int)) q => (.ok (if halfQ n t q then u ++ [listP q] else u) : Except (List (List Int)) (List (List Int)))) [] = .ok (((pairsL n).filter (halfQ n t)).map listP) := by
  rw [foldlM_ok, foldl_filter, List.nil_append]
theorem pairsL_len : ∀ n : Nat, n ≤ 7 → (pairsL n).length ≤ 21 := by decide +kernel
theorem impl_halv (n : Int) (t : ByteArray) (hs : t.size ≤ 9223372036854775807) : Ev (fun k => impl_HalvingPairs.f k n t) (halvA n t) := by
  unfold impl_HalvingPairs.f halvA
  refine Ev.bind (order_ev n t hs) ?_
  by_cases h : acyOk n t = true
  · rw [if_pos h, if_pos h]
    obtain ⟨N, rfl, ha, h3, h7⟩ := acy_are h
    simp only [Int.toNat_natCast]
    refine ev_pos (by first | rfl | trivial) ?_
    have key := loops2B (n := N) (σ := List (List Int)) (ρ := List (List Int)) (K := fun s _ => some s) (L0 := fun a s k => impl_HalvingPairs.l0 k (tblL N t) s a (N : Int) t) (L1 := fun a b s k => impl_HalvingPairs.l1 k (tblL N t) s a b (N : Int) t)
      h7 List.length 0 (fun s q => .ok (if halfQ N t q then s ++ [listP q] else s)) (foldlM_okL _ _ fun s a => by split <;> simp) (fun s => ?_) (fun a hn s => ?_) (fun a hn s => ?_) (fun a b hab hb s hs => ?_) [] (Nat.le_refl _)
    · rw [halv_fold] at key
      exact key _ (Ev.now _)
    · refine Goes.step ?_
      simp only [impl_HalvingPairs.l0]
      exact Goes.neg (by omega) (Goes.ok (K := fun s _ => some s) s)
    · refine Goes.step ?_
      simp only [impl_HalvingPairs.l0]
      rw [wrap_id (x := (a : Int) + 1) (by omega) (by omega)]
      exact Goes.pos (by omega) (Goes.ok (K := fun s k => impl_HalvingPairs.l1 k (tblL N t) s (a : Int) ((a + 1 : Nat) : Int) (N : Int) t) s)
    · refine Goes.step ?_
      simp only [impl_HalvingPairs.l1]
      rw [wrap_id (x := (a : Int) + 1) (by omega) (by omega)]
      exact Goes.neg (by omega) (Goes.ok (K := fun s k => impl_HalvingPairs.l0 k (tblL N t) s ((a + 1 : Nat) : Int) (N : Int) t) s)
    · have b1 := leftV_le N t a b
      have b2 := leftV_le N t b a
      refine Goes.step ?_
      simp only [impl_HalvingPairs.l1]
      rw [wrap_id (x := (b : Int) + 1) (by omega) (by omega)]
      refine Goes.pos (by omega) (Goes.pos (tblL_length _ _) (Goes.ev (impl_left ha (by omega) (by omega)) (Goes.ev (impl_left ha (by omega) (by omega)) ?_)))
      rw [wrap_id (x := (leftV N t a b : Int) - (leftV N t b a : Int)) (by omega) (by omega)]
      by_cases g1 : (leftV N t a b : Int) - (leftV N t b a : Int) ≥ -1
      · refine Goes.pos g1 ?_
        by_cases g2 : (leftV N t a b : Int) - (leftV N t b a : Int) ≤ 1
        · rw [show halfQ N t (a, b) = true by unfold halfQ; rw [decide_eq_true g1, decide_eq_true g2]; rfl]
          exact Goes.pos g2 (Goes.pos (by omega) (Goes.ok (K := fun s k => impl_HalvingPairs.l1 k (tblL N t) s (a : Int) ((b + 1 : Nat) : Int) (N : Int) t) _))
        · rw [show halfQ N t (a, b) = false by unfold halfQ; rw [decide_eq_false g2, Bool.and_false]]
          exact Goes.neg g2 (Goes.ok (K := fun s k => impl_HalvingPairs.l1 k (tblL N t) s (a : Int) ((b + 1 : Nat) : Int) (N : Int) t) _)
      · rw [show halfQ N t (a, b) = false by unfold halfQ; rw [decide_eq_false g1, Bool.false_and]]
        exact Goes.neg g1 (Goes.ok (K := fun s k => impl_HalvingPairs.l1 k (tblL N t) s (a : Int) ((b + 1 : Nat) : Int) (N : Int) t) _)
  · rw [if_neg h, if_neg h]
    exact ev_neg (by decide) (Ev.now _)
theorem spec_halv (n : Int) (t : ByteArray) (hs : t.size ≤ 9223372036854775807) : Ev (fun k => spec_HalvingPairs.f k n t) (halvA n t) := by
  unfold spec_HalvingPairs.f halvA
  have hA := spec_isA n t hs
  by_cases h : acyOk n t = true
  · rw [if_pos h]
    rw [h] at hA
    obtain ⟨N, rfl, ha, h3, h7⟩ := acy_are h
    simp only [Int.toNat_natCast]
    have key := loops2B (n := N) (σ := List (List Int)) (ρ := List (List Int)) (K := fun s _ => some s) (L0 := fun a s k => spec_HalvingPairs.l0 k s a (N : Int) t) (L1 := fun a b s k => spec_HalvingPairs.l1 k s a b (N : Int) t)
      h7 List.length 0 (fun s q => .ok (if halfQ N t q then s ++ [listP q] else s)) (foldlM_okL _ _ fun s a => by split <;> simp) (fun s => ?_) (fun a hn s => ?_) (fun a hn s => ?_) (fun a b hab hb s hs => ?_) [] (Nat.le_refl _)
    · rw [halv_fold] at key
      exact key _ (Ev.now _)
    · refine Goes.step ?_
      simp only [spec_HalvingPairs.l0]
      refine Goes.neg (by omega) (Goes.step ?_)
      simp only [spec_HalvingPairs.j1]
      exact Goes.neg (by decide) (Goes.ok (K := fun s _ => some s) s)
    · refine Goes.step ?_
      simp only [spec_HalvingPairs.l0]
      refine Goes.pos (by omega) (Goes.ev hA (Goes.step ?_))
      simp only [spec_HalvingPairs.j1]
      rw [wrap_id (x := (a : Int) + 1) (by omega) (by omega)]
      exact Goes.pos (by first | rfl | trivial) (Goes.ok (K := fun s k => spec_HalvingPairs.l1 k s (a : Int) ((a + 1 : Nat) : Int) (N : Int) t) s)
    · refine Goes.step ?_
      simp only [spec_HalvingPairs.l1]
      rw [wrap_id (x := (a : Int) + 1) (by omega) (by omega)]
      exact Goes.neg (by omega) (Goes.ok (K := fun s k => spec_HalvingPairs.l0 k s ((a + 1 : Nat) : Int) (N : Int) t) s)
    · have b1 := leftV_le N t a b
      have b2 := leftV_le N t b a
      refine Goes.step ?_
      simp only [spec_HalvingPairs.l1]
      rw [wrap_id (x := (b : Int) + 1) (by omega) (by omega)]
      refine Goes.pos (by omega) (Goes.ev (spec_left ha (by omega) (by omega) (by omega)) (Goes.ev (spec_left ha (by omega) (by omega) (by omega)) ?_))
      rw [wrap_id (x := (leftV N t a b : Int) - (leftV N t b a : Int)) (by omega) (by omega)]
      refine Goes.call (spec_in _ _ _) ?_
      cases g : halfQ N t (a, b) with
      | true => exact Goes.pos g (Goes.pos (by omega) (Goes.ok (K := fun s k => spec_HalvingPairs.l1 k s (a : Int) ((b + 1 : Nat) : Int) (N : Int) t) _))
      | false => exact Goes.neg (fun e => by rw [show halfQ N t (a, b) = true from e] at g; cases g) (Goes.ok (K := fun s k => spec_HalvingPairs.l1 k s (a : Int) ((b + 1 : Nat) : Int) (N : Int) t) _)
  · rw [if_neg h]
    rw [Bool.eq_false_iff.2 h] at hA
    refine ev_step ?_
    simp only [spec_HalvingPairs.l0]
    by_cases g : 0 < n
    · refine ev_pos g (Ev.bind hA (ev_step ?_))
      simp only [spec_HalvingPairs.j1]
      exact ev_neg (by decide) (Ev.now _)
    · refine ev_neg g (ev_step ?_)
      simp only [spec_HalvingPairs.j1]
      exact ev_neg (by decide) (Ev.now _)
end Go.Proofs.Ytbjncemaeagjjaa.M
namespace Go.Proofs.Ytbjncemaeagjjaa.M
open Go.RowKit Go.Proofs.YtbjncemaeagjjaaW.PrintWords Go.Proofs.Ytbjncemaeagjjaa.PX Go.Proofs.Ytbjncemaeagjjaa.G
theorem small_halv (n : Int) (t : ByteArray) : smallSS (halvA n t) := by
  unfold halvA
  by_cases h : acyOk n t = true
  · rw [if_pos h]
    obtain ⟨N, rfl, _, h3, h7⟩ := acy_are h
    have hl := pairsL_len (N : Int).toNat (by omega)
    refine ⟨?_, fun r hr => ?_⟩
    · rw [List.length_map]
      exact Nat.le_trans (Nat.le_trans (List.length_filter_le _ _) hl) (by omega)
    · obtain ⟨q, _, rfl⟩ := List.mem_map.mp hr
      show 2 ≤ 10000
      omega
  · rw [if_neg h]
    exact ⟨Nat.zero_le _, fun r hr => by cases hr⟩
end Go.Proofs.Ytbjncemaeagjjaa.M
namespace Go.Proofs.Ytbjncemaeagjjaa.Pure
open Go.RowKit Go.Proofs.YtbjncemaeagjjaaW.PrintWords Go.Proofs.Ytbjncemaeagjjaa.PX Go.Proofs.Ytbjncemaeagjjaa.M Go.Proofs.Ytbjncemaeagjjaa.G
theorem FnExactHalvingPairs (n : Int) (t : ByteArray) (_ : (Lit.int .i64 n).wf = true) (hs : t.size ≤ 9223372036854775807) :
    ∃ k, laws_FnExactHalvingPairs.f k n t = some true := by
  refine Ev.rounds (r := true) ?_
  unfold laws_FnExactHalvingPairs.f
  obtain ⟨r, hr⟩ := sz_signs n t
  refine ev_call hr ?_
  by_cases h : r < 0
  · exact ev_pos h (Ev.now _)
  have hsp := spec_halv n t hs
  have him := impl_halv n t hs
  have hv := small_halv n t
  have he := endSS_ge (halvA n t) 1
  generalize halvA n t = V at hsp him hv he
  refine ev_neg h (ev_call (a := (n, t)) rfl (Ev.bind hsp (ev_call (a := (n, t)) rfl (Ev.bind him (Ev.bind (eqSS_self V hv) (ev_pos rfl (Ev.bind (markSS_ev V hv) ?_)))))))
  refine Ev.bind (heldSS_ev V hv) (ev_neg (by omega) (ev_pos rfl (ev_call (a := (n, t)) rfl (Ev.bind him (Ev.bind (eqSS_self V hv) (ev_pos rfl ?_))))))
  exact Ev.bind (heldSS_ev V hv) (ev_neg (by omega) (ev_pos rfl (Ev.now _)))
end Go.Proofs.Ytbjncemaeagjjaa.Pure
namespace Go.Proofs.Ytbjncemaeagjjaa.fnExactHalvingPairs
open Go.ChangeShapes Go.WideShapes Go.ChangeAt Go.RowKit Go.Joins
open Go.ChangeMaps (open_string shut_string)
set_option linter.unusedVariables false
theorem own : ownKnob Try.prog.godebug = none := by kernel_rfl
theorem str_mk {H : Type} {enc : TypeId × Value → H} {P : Program} {w : World} {base : Nat} {spare : Nat → Bool} {held : Bool} {t : TypeId} {s : ByteArray} (ht : P.underlying t = some .string) (hs : s.size ≤ maxLen) : DataW.trod enc P w base spare held 1 t [.string s] = some (.lit (.string s.data.toList), []) := by
  simp [DataW.trod, ht, hs]
set_option maxRecDepth 100000 in
theorem lifted (os : Os) (started : os.Started) (H : Type) (enc : TypeId × Value → H) :
    ReturnsInHanded {} Try.checked os 7 .any (Rows.fnExactHalvingPairsSpec.pre6 enc Try.prog Try.f7 Rows.fnExactHalvingPairsRow.domain false) (Rows.fnExactHalvingPairsSpec.post enc Try.prog Try.f7 false true false false) := by
  refine returnsInHanded_of_change_sized (C := Try.checked) own started (by kernel_rfl) Try.func7
    (ChangeSpec.witness6 (enc := enc) (C := Try.checked) false ⟨#[], #[.agg #[.int .i64 0, .string ByteArray.empty]], []⟩ 8 (by kernel_rfl) (by kernel_rfl) (by kernel_rfl) (by kernel_rfl)) ?_
  intro W base args ds gs before hval0 hW hcnd hsz0 _
  have hsz : (DataW.weightsEach Try.prog (Try.f7.params.toList ++ Rows.fnExactHalvingPairsSpec.plain.varTypes Try.prog) (ds ++ gs)).all (· ≤ reachBytes) = true := hsz0
  have hval : ∀ (j : Nat) t v, Try.f7.params[j]? = some t → args[j]? = some v → Value.okWide Try.prog W .any base t v := hval0
  have hW' := hW
  obtain ⟨p, q, hA0, hV, rfl, hfz, hnd⟩ := hW
  have hA : DataW.TrodAll enc Try.prog W 0 (fun _ => true) true Try.f7.params.toList args.toList ds p := hA0
  rw [Try.params7] at hA hval hsz
  obtain ⟨v0, vs0, d0, ds0, p0, q0, hargs, rfl, rfl, h0, r0⟩ := trodAll_cons hA
  obtain ⟨rfl, rfl, rfl⟩ := trodAll_nil r0
  obtain rfl : args = #[v0] := by cases args; simp_all
  obtain ⟨rfl, rfl⟩ := trodVars_none hV
  obtain ⟨c0_0, c0_1, y0_0, y0_1, m0, rfl, rfl, rfl, hy0_0, hy0_1⟩ := open_agg2 Try.underlying23 (by kernel_rfl) (by kernel_rfl) (hval 0 23 v0 rfl rfl) h0
  obtain ⟨a0_0, e0_0, rfl, wa0⟩ := DataW.trod_int Try.underlying3 hy0_0
  obtain ⟨a0_1, e0_1, rfl, ws0⟩ := DataW.trod_string Try.underlying9 hy0_1
  simp only [List.cons.injEq, and_true] at e0_0 e0_1
  subst e0_0 e0_1
  clear hA0 hval0 hsz0 hsz
  obtain ⟨k, hP⟩ := Pure.FnExactHalvingPairs a0_0 a0_1 wa0 ws0
  refine (PX.laws_FnExactHalvingPairs.calls k a0_0 a0_1 true W hP rfl).mono fun e W' ⟨he, bel⟩ => ?_
  subst he
  exact ⟨_, rfl, _, _, _, [], _, [], hW', trodAll_mk1 (shut_bool Try.underlying4 _), (trodAll_cons_mk (shut_agg2 Try.underlying23 (by kernel_rfl) (by kernel_rfl) ⟨_, trod_int_mk 0 Try.underlying3 wa0⟩ ⟨_, str_mk Try.underlying9 ws0⟩) trodAll_mk0), rfl, bel.frame _, fun h => by cases h⟩
theorem over : Rows.fnExactHalvingPairsRow.holds Try.pinned (OpenSpec.ofChange Rows.fnExactHalvingPairsSpec) :=
  OpenClaim.holds_of_wide 7 Try.f7 rfl rfl rfl rfl rfl rfl rfl ⟨rfl, rfl, rfl, rfl, rfl⟩ rfl rfl rfl rfl rfl (by kernel_rfl) Try.func7 (by kernel_rfl)
    (of_decide_eq_true (by kernel_rfl)) (by unfold Func.isWrapper; first | (rw [if_pos (by decide +kernel)]; kernel_rfl) | (rw [if_neg (by decide +kernel)]; exact ⟨rfl, rfl⟩))
    (fun os started H enc _ => lifted os started H enc)
theorem proved : Rows.FnExactHalvingPairsSaid := over
#print axioms proved
end Go.Proofs.Ytbjncemaeagjjaa.fnExactHalvingPairs
namespace Go.Proofs.Ytbjncemaeagjjaa
/-- The row, under a short name, for the claim. -/
theorem fnExactHalvingPairs_holds : Rows.FnExactHalvingPairsSaid := fnExactHalvingPairs.proved
end Go.Proofs.Ytbjncemaeagjjaa
