/- A part of proofs about signs and points: what some functions answer, and that their calls answer so. No condition. -/
import Derived.Test.YtgnghhelalablaaProg
import Derived.Test.YtgnghhelalablaaV1
import Derived.Test.YtgnghhelalablaaBpblxux1
import Derived.Test.YtgnghhelalablaaBpblxux2
import Derived.Test.YtgnghhelalablaaBpblxux3
import Derived.Test.YtgnghhelalablaaBzkpriy1
import Derived.Test.YtgnghhelalablaaBpblxux4
set_option linter.unusedVariables false
set_option linter.unusedSimpArgs false
namespace Go.Proofs.Ytgnghhelalablaa.PX
open Go.RowKit Go.Proofs.Ytgnghhelalablaa.G Go.Proofs.YtgnghhelalablaaW.PrintWords Go.Proofs.YtgnghhelalablaaW.PrintLast Go.Proofs.YtgnghhelalablaaW.PrintMore
attribute [local go_sem] max2_int min2_int max_two min_two max_three min_three max_four min_four   -- for this text's walks alone
set_option linter.unusedVariables false
set_option linter.unusedSimpArgs false
/-! ### spec_l6Has: function 65 -/
def spec_l6Has.f (a0 : Int) (a1 : Int) : Option (Bool) := if 0 ≤ (IntKind.u64.wrap (a1)) then (some ((Go.bits .and .i64 (shr .i64 a0 (IntKind.u64.wrap (a1))) 1) == 1)) else (none)
set_option maxHeartbeats 8000000 in
set_option maxRecDepth 100000 in
theorem spec_l6Has.calls (a0 : Int) (a1 : Int) (r : Bool) (w : World) (h : spec_l6Has.f a0 a1 = some r) :
  Calls Try.prog 65 #[.int .i64 a0, .int .i64 a1] w fun e w' => e = .returned (.bool r) ∧ Drawn0 w w' := by
 have H : (if 0 ≤ (IntKind.u64.wrap (a1)) then (some ((Go.bits .and .i64 (shr .i64 a0 (IntKind.u64.wrap (a1))) 1) == 1)) else (none)) = some r := h
 clear h
 obtain ⟨ji3, hji3⟩ : ∃ j_ : Int, (IntKind.u64.wrap (a1)) = j_ := ⟨_, rfl⟩
 replace H : (if 0 ≤ (ji3) then (some ((Go.bits .and .i64 (shr .i64 a0 (ji3)) 1) == 1)) else (none)) = some r := by first | (rw [hji3] at H; exact H) | (simp only [hji3] at H ⊢; exact H)
 by_cases c4 : 0 ≤ (ji3)
 ·rw [if_pos c4] at H
  have c4b0 := eq_true c4
  have c4b1 : decide (0 ≤ (ji3)) = true := decide_eq_true c4
  clear c4
  obtain ⟨ji5, hji5⟩ : ∃ j_ : Int, (shr .i64 a0 (ji3)) = j_ := ⟨_, rfl⟩
  replace H : (some ((Go.bits .and .i64 (ji5) 1) == 1)) = some r := by first | (rw [hji5] at H; exact H) | (simp only [hji5] at H ⊢; exact H)
  have hji5_ : (a0 / 2 ^ min (ji3).toNat 64) = ji5 := hji5
  have hji5z : (ji3) ≤ 64 → (a0 / 2 ^ (ji3).toNat) = ji5 := shr_small hji5
  obtain rfl := Option.some.inj H
  go_enter Try.func65, Try.ntmps65
  go_wp2
  go_ret
  exact ⟨by first | rfl | (simp; done) | (simp only [← hji3, ← hji5] <;> (first | rfl | simp)) | (simp [*]; done), by repeat (first | exact Drawn0.refl _ | apply Drawn0.step)⟩
 ·rw [if_neg c4] at H
  exact absurd H (by simp)
/-! ### spec_l6In: function 66 -/
mutual
def spec_l6In.l0 : Nat → Int → Int → Int → Int → ByteArray → Option (Bool)
 | 0, _, _, _, _, _ => none
 | k + 1, x1, x2, x7, x484000, x484001 => if x7 < x484000 then (spec_l6In.l1 k x1 x2 x7 (wrap64 (x7 + 1)) x484000 x484001) else (some false)
def spec_l6In.l1 : Nat → Int → Int → Int → Int → Int → ByteArray → Option (Bool)
 | 0, _, _, _, _, _, _ => none
 | k + 1, x1, x2, x7, x8, x484000, x484001 => if x8 < x484000 then (spec_l6In.l2 k x1 x2 x7 x8 (wrap64 (x8 + 1)) x484000 x484001) else (spec_l6In.l0 k x1 x2 (wrap64 (x7 + 1)) x484000 x484001)
def spec_l6In.l2 : Nat → Int → Int → Int → Int → Int → Int → ByteArray → Option (Bool)
 | 0, _, _, _, _, _, _, _ => none
 | k + 1, x1, x2, x7, x8, x9, x484000, x484001 => if x9 < x484000 then (if x2 = x7 then (spec_l6In.l2 k x1 x2 x7 x8 (wrap64 (x9 + 1)) x484000 x484001) else (if x2 = x8 then (spec_l6In.l2 k x1 x2 x7 x8 (wrap64 (x9 + 1)) x484000 x484001) else (if x2 = x9 then (spec_l6In.l2 k x1 x2 x7 x8 (wrap64 (x9 + 1)) x484000 x484001) else ((spec_l6Has.f x1 x7).bind fun t484 => (if t484 = true then ((spec_l6Has.f x1 x8).bind fun t485 => (if t485 = true then ((spec_l6Has.f x1 x9).bind fun t486 => (if t486 = true then ((spec_l5Inner.f k x484000 x484001 (([x2, x7, x8, x9] : List Int))).bind fun t490 => (if t490 = x2 then (some true) else (spec_l6In.l2 k x1 x2 x7 x8 (wrap64 (x9 + 1)) x484000 x484001))) else (spec_l6In.l2 k x1 x2 x7 x8 (wrap64 (x9 + 1)) x484000 x484001))) else (spec_l6In.l2 k x1 x2 x7 x8 (wrap64 (x9 + 1)) x484000 x484001))) else (spec_l6In.l2 k x1 x2 x7 x8 (wrap64 (x9 + 1)) x484000 x484001)))))) else (spec_l6In.l1 k x1 x2 x7 (wrap64 (x8 + 1)) x484000 x484001)
end
def spec_l6In.f (k : Nat) (a0_0 : Int) (a0_1 : ByteArray) (a1 : Int) (a2 : Int) : Option (Bool) := spec_l6In.l0 k a1 a2 0 a0_0 a0_1
theorem spec_l6In.mono_l : ∀ k, (∀ y0 y1 y2 y3 y4, LeO (spec_l6In.l0 k y0 y1 y2 y3 y4) (spec_l6In.l0 (k + 1) y0 y1 y2 y3 y4)) ∧ (∀ y0 y1 y2 y3 y4 y5, LeO (spec_l6In.l1 k y0 y1 y2 y3 y4 y5) (spec_l6In.l1 (k + 1) y0 y1 y2 y3 y4 y5)) ∧ (∀ y0 y1 y2 y3 y4 y5 y6, LeO (spec_l6In.l2 k y0 y1 y2 y3 y4 y5 y6) (spec_l6In.l2 (k + 1) y0 y1 y2 y3 y4 y5 y6))
 | 0 => ⟨fun _ _ _ _ _ r h => by simp [spec_l6In.l0] at h, fun _ _ _ _ _ _ r h => by simp [spec_l6In.l1] at h, fun _ _ _ _ _ _ _ r h => by simp [spec_l6In.l2] at h⟩
 | k + 1 => by
  obtain ⟨ih0, ih1, ih2⟩ := spec_l6In.mono_l k
  refine ⟨?_, ?_, ?_⟩
  ·intro y0 y1 y2 y3 y4
   unfold spec_l6In.l0
   repeat' first
   | (with_reducible exact ih0 _ _ _ _ _)
   | (with_reducible exact ih1 _ _ _ _ _ _)
   | (with_reducible exact ih2 _ _ _ _ _ _ _)
   | (with_reducible exact spec_l5Inner.mono _ _ _ _)
   | (with_reducible exact LeO.refl _)
   | (with_reducible exact LeO.none _)
   | (with_reducible refine LeO.ite ?_ ?_)
   | (with_reducible refine LeO.bind ?_ (fun _ => ?_))
   | exact ih0 _ _ _ _ _
   | exact ih1 _ _ _ _ _ _
   | exact ih2 _ _ _ _ _ _ _
   | exact spec_l5Inner.mono _ _ _ _
   | exact LeO.none _
   | refine LeO.ite ?_ ?_
   | refine LeO.bind ?_ (fun _ => ?_)
  ·intro y0 y1 y2 y3 y4 y5
   unfold spec_l6In.l1
   repeat' first
   | (with_reducible exact ih0 _ _ _ _ _)
   | (with_reducible exact ih1 _ _ _ _ _ _)
   | (with_reducible exact ih2 _ _ _ _ _ _ _)
   | (with_reducible exact spec_l5Inner.mono _ _ _ _)
   | (with_reducible exact LeO.refl _)
   | (with_reducible exact LeO.none _)
   | (with_reducible refine LeO.ite ?_ ?_)
   | (with_reducible refine LeO.bind ?_ (fun _ => ?_))
   | exact ih0 _ _ _ _ _
   | exact ih1 _ _ _ _ _ _
   | exact ih2 _ _ _ _ _ _ _
   | exact spec_l5Inner.mono _ _ _ _
   | exact LeO.none _
   | refine LeO.ite ?_ ?_
   | refine LeO.bind ?_ (fun _ => ?_)
  ·intro y0 y1 y2 y3 y4 y5 y6
   unfold spec_l6In.l2
   repeat' first
   | (with_reducible exact ih0 _ _ _ _ _)
   | (with_reducible exact ih1 _ _ _ _ _ _)
   | (with_reducible exact ih2 _ _ _ _ _ _ _)
   | (with_reducible exact spec_l5Inner.mono _ _ _ _)
   | (with_reducible exact LeO.refl _)
   | (with_reducible exact LeO.none _)
   | (with_reducible refine LeO.ite ?_ ?_)
   | (with_reducible refine LeO.bind ?_ (fun _ => ?_))
   | exact ih0 _ _ _ _ _
   | exact ih1 _ _ _ _ _ _
   | exact ih2 _ _ _ _ _ _ _
   | exact spec_l5Inner.mono _ _ _ _
   | exact LeO.none _
   | refine LeO.ite ?_ ?_
   | refine LeO.bind ?_ (fun _ => ?_)
theorem spec_l6In.mono : ∀ a0 a1 a2 a3 k, LeO (spec_l6In.f k a0 a1 a2 a3) (spec_l6In.f (k + 1) a0 a1 a2 a3) := by
 intro a0 a1 a2 a3 k
 obtain ⟨ih0, ih1, ih2⟩ := spec_l6In.mono_l k
 unfold spec_l6In.f
 repeat' first
   | (with_reducible exact ih0 _ _ _ _ _)
   | (with_reducible exact ih1 _ _ _ _ _ _)
   | (with_reducible exact ih2 _ _ _ _ _ _ _)
   | (with_reducible exact spec_l5Inner.mono _ _ _ _)
   | (with_reducible exact LeO.refl _)
   | (with_reducible exact LeO.none _)
   | (with_reducible refine LeO.ite ?_ ?_)
   | (with_reducible refine LeO.bind ?_ (fun _ => ?_))
   | exact ih0 _ _ _ _ _
   | exact ih1 _ _ _ _ _ _
   | exact ih2 _ _ _ _ _ _ _
   | exact spec_l5Inner.mono _ _ _ _
   | exact LeO.none _
   | refine LeO.ite ?_ ?_
   | refine LeO.bind ?_ (fun _ => ?_)
set_option maxHeartbeats 8000000 in
set_option maxRecDepth 100000 in
theorem spec_l6In.calls (k : Nat) (a0_0 : Int) (a0_1 : ByteArray) (a1 : Int) (a2 : Int) (r : Bool) (w : World) (h : spec_l6In.f k a0_0 a0_1 a1 a2 = some r) :
  Calls Try.prog 66 #[.agg #[.int .i64 a0_0, .string a0_1], .int .i64 a1, .int .i64 a2] w fun e w' => e = .returned (.bool r) ∧ Below w.heap.size w w' := by
 have hu27 := Try.underlying27
 have HB := Aside0.mk (Below.refl w.heap.size w)
 have H : (spec_l6In.l0 k a1 a2 0 a0_0 a0_1) = some r := h
 clear h
 have H' := Aside0.mk H
 clear H
 go_enter Try.func66, Try.ntmps66
 go_wp2_with (first | ((with_reducible refine gate_dst (N := 3) rfl ?_); (try (refine gate_guard (by rfl) ?_; dsimp only)); refine box_event ?hg (N := 3) ?hd (cs := #[.int .i64 a0_0, .string a0_1]) (t := 27) ?hr ?_; (case hd => rfl); (case hg => rfl); (case hr => first | (go_simp; done) | (go_simp; rfl)); intro gb483 hg w4 hbox hb; have n0_ := Aside0.mk (below_step zB hb); have n1_ := Aside0.mk (hbox); have n2_ := Aside0.mk ((by rw [hg]; exact (below_size zB) : w.heap.size ≤ gb483)); have n3_ := Aside0.mk ((by rw [hg]; exact (below_size zB) : w.heap.size ≤ gb483)); clear HB; have HB := n0_; have BK483 := n1_; have GW483 := n2_; have GE483 := n3_; clear n0_ n1_ n2_ n3_; clear hb hbox hg))
 go_loopg [7] k (fun kq v7 w' => ∃ (x7_1 : Int), v7 = .int .i64 x7_1 ∧ Aside0 (spec_l6In.l0 kq a1 a2 x7_1 a0_0 a0_1 = some r) ∧ Aside0 (kq ≤ k) ∧ Aside0 (w'.heap[gb483]? = some (.cells #[.int .i64 a0_0, .string a0_1] 27 (0, 0))) ∧ Aside0 (Below w.heap.size w w'))
 case atStart => exact ⟨(0), zF, H', ⟨Nat.le_refl _⟩, ⟨zK BK483.out⟩, ⟨zG GE483.out⟩⟩
 case round =>
  clear H'
  try clear p2
  obtain ⟨x7_1, rfl, HA, HK1, BK483, HB⟩ := hrel
  cases gk with
  | zero => exact absurd HA.out (by simp [spec_l6In.l0])
  | succ k1 =>
   have H := HA.out
   clear HA
   simp only [spec_l6In.l0] at H
   by_cases c5 : x7_1 < a0_0
   ·rw [if_pos c5] at H
    have c5b0 : decide (x7_1 < a0_0) = true := decide_eq_true c5
    clear c5
    have H' := Aside0.mk H
    clear H
    have hcz6_0 : wr.cell? ⟨gb483, 0, none⟩ = some (.int .i64 a0_0) := (blk_cell BK483.out 0).trans rfl
    have hcz6_1 : wr.cell? ⟨gb483, 1, none⟩ = some (.string a0_1) := (blk_cell BK483.out 1).trans rfl
    have hfz6_0 := blk_frozen BK483.out 0
    have hfz6_1 := blk_frozen BK483.out 1
    go_wp2
    go_loopg [8] k1 (fun kq v8 w' => ∃ (x8_2 : Int), v8 = .int .i64 x8_2 ∧ Aside0 (spec_l6In.l1 kq a1 a2 x7_1 x8_2 a0_0 a0_1 = some r) ∧ Aside0 (kq ≤ k1) ∧ Aside0 (w'.heap[gb483]? = some (.cells #[.int .i64 a0_0, .string a0_1] 27 (0, 0))) ∧ Aside0 (Below w.heap.size w w'))
    case atStart => exact ⟨(wrap64 (x7_1 + 1)), zF, H', ⟨Nat.le_refl _⟩, ⟨zK BK483.out⟩, ⟨zG GE483.out⟩⟩
    case round =>
     clear H'
     try clear p2
     try clear c5
     try clear c5b0
     try clear c6
     try clear p6
     try clear hcz6_0
     try clear hcz6_1
     try clear hfz6_0
     try clear hfz6_1
     try clear p2
     obtain ⟨x8_2, rfl, HA, HK2, BK483, HB⟩ := hrel
     cases gk with
     | zero => exact absurd HA.out (by simp [spec_l6In.l1])
     | succ k2 =>
      have H := HA.out
      clear HA
      simp only [spec_l6In.l1] at H
      by_cases c7 : x8_2 < a0_0
      ·rw [if_pos c7] at H
       have c7b0 : decide (x8_2 < a0_0) = true := decide_eq_true c7
       clear c7
       have H' := Aside0.mk H
       clear H
       have hcz8_0 : wr.cell? ⟨gb483, 0, none⟩ = some (.int .i64 a0_0) := (blk_cell BK483.out 0).trans rfl
       have hcz8_1 : wr.cell? ⟨gb483, 1, none⟩ = some (.string a0_1) := (blk_cell BK483.out 1).trans rfl
       have hfz8_0 := blk_frozen BK483.out 0
       have hfz8_1 := blk_frozen BK483.out 1
       go_wp2
       go_loopg [9] k2 (fun kq v9 w' => ∃ (x9_3 : Int), v9 = .int .i64 x9_3 ∧ Aside0 (spec_l6In.l2 kq a1 a2 x7_1 x8_2 x9_3 a0_0 a0_1 = some r) ∧ Aside0 (kq ≤ k2) ∧ Aside0 (w'.heap[gb483]? = some (.cells #[.int .i64 a0_0, .string a0_1] 27 (0, 0))) ∧ Aside0 (Below w.heap.size w w'))
       case atStart => exact ⟨(wrap64 (x8_2 + 1)), zF, H', ⟨Nat.le_refl _⟩, ⟨zK BK483.out⟩, ⟨zG GE483.out⟩⟩
       case round =>
        clear H'
        try clear p2
        try clear c5
        try clear c5b0
        try clear c6
        try clear p6
        try clear c7
        try clear c7b0
        try clear hcz6_0
        try clear hcz6_1
        try clear hcz8_0
        try clear hcz8_1
        try clear hfz6_0
        try clear hfz6_1
        try clear hfz8_0
        try clear hfz8_1
        try clear p2
        try clear p6
        obtain ⟨x9_3, rfl, HA, HK3, BK483, HB⟩ := hrel
        cases gk with
        | zero => exact absurd HA.out (by simp [spec_l6In.l2])
        | succ k3 =>
         have H := HA.out
         clear HA
         simp only [spec_l6In.l2] at H
         by_cases c9 : x9_3 < a0_0
         ·rw [if_pos c9] at H
          have c9b0 : decide (x9_3 < a0_0) = true := decide_eq_true c9
          clear c9
          by_cases c10 : a2 = x7_1
          ·rw [if_pos c10] at H
           have c10b0 : (a2 == x7_1) = true := beq_iff_eq.mpr c10
           have c10b1 : (a2 != x7_1) = false := bne_eq_false_iff_eq.mpr c10
           clear c10
           have H' := Aside0.mk H
           clear H
           have hcz11_0 : wr.cell? ⟨gb483, 0, none⟩ = some (.int .i64 a0_0) := (blk_cell BK483.out 0).trans rfl
           have hcz11_1 : wr.cell? ⟨gb483, 1, none⟩ = some (.string a0_1) := (blk_cell BK483.out 1).trans rfl
           have hfz11_0 := blk_frozen BK483.out 0
           have hfz11_1 := blk_frozen BK483.out 1
           go_wp2
           go_roundg k3
           case measure => have := HK1.out; have := HK2.out; have := HK3.out; omega
           case rel => exact ⟨(wrap64 (x9_3 + 1)), zF, H', ⟨by have := HK1.out; have := HK2.out; have := HK3.out; omega⟩, ⟨zK BK483.out⟩, ⟨zG GE483.out⟩⟩
          ·rw [if_neg c10] at H
           have c10b0 : (a2 == x7_1) = false := beq_eq_false_iff_ne.mpr c10
           have c10b1 : (a2 != x7_1) = true := bne_iff_ne.mpr c10
           by_cases c12 : a2 = x8_2
           ·rw [if_pos c12] at H
            have c12b0 : (a2 == x8_2) = true := beq_iff_eq.mpr c12
            have c12b1 : (a2 != x8_2) = false := bne_eq_false_iff_eq.mpr c12
            clear c12
            have H' := Aside0.mk H
            clear H
            have hcz13_0 : wr.cell? ⟨gb483, 0, none⟩ = some (.int .i64 a0_0) := (blk_cell BK483.out 0).trans rfl
            have hcz13_1 : wr.cell? ⟨gb483, 1, none⟩ = some (.string a0_1) := (blk_cell BK483.out 1).trans rfl
            have hfz13_0 := blk_frozen BK483.out 0
            have hfz13_1 := blk_frozen BK483.out 1
            go_wp2
            go_roundg k3
            case measure => have := HK1.out; have := HK2.out; have := HK3.out; omega
            case rel => exact ⟨(wrap64 (x9_3 + 1)), zF, H', ⟨by have := HK1.out; have := HK2.out; have := HK3.out; omega⟩, ⟨zK BK483.out⟩, ⟨zG GE483.out⟩⟩
           ·rw [if_neg c12] at H
            have c12b0 : (a2 == x8_2) = false := beq_eq_false_iff_ne.mpr c12
            have c12b1 : (a2 != x8_2) = true := bne_iff_ne.mpr c12
            by_cases c14 : a2 = x9_3
            ·rw [if_pos c14] at H
             have c14b0 : (a2 == x9_3) = true := beq_iff_eq.mpr c14
             have c14b1 : (a2 != x9_3) = false := bne_eq_false_iff_eq.mpr c14
             clear c14
             have H' := Aside0.mk H
             clear H
             have hcz15_0 : wr.cell? ⟨gb483, 0, none⟩ = some (.int .i64 a0_0) := (blk_cell BK483.out 0).trans rfl
             have hcz15_1 : wr.cell? ⟨gb483, 1, none⟩ = some (.string a0_1) := (blk_cell BK483.out 1).trans rfl
             have hfz15_0 := blk_frozen BK483.out 0
             have hfz15_1 := blk_frozen BK483.out 1
             go_wp2
             go_roundg k3
             case measure => have := HK1.out; have := HK2.out; have := HK3.out; omega
             case rel => exact ⟨(wrap64 (x9_3 + 1)), zF, H', ⟨by have := HK1.out; have := HK2.out; have := HK3.out; omega⟩, ⟨zK BK483.out⟩, ⟨zG GE483.out⟩⟩
            ·rw [if_neg c14] at H
             have c14b0 : (a2 == x9_3) = false := beq_eq_false_iff_ne.mpr c14
             have c14b1 : (a2 != x9_3) = true := bne_iff_ne.mpr c14
             replace H := Option.bind_eq_some_iff.mp H
             obtain ⟨t484, A160, H⟩ := H
             replace H : (if t484 = true then ((spec_l6Has.f a1 x8_2).bind fun t485 => (if t485 = true then ((spec_l6Has.f a1 x9_3).bind fun t486 => (if t486 = true then ((spec_l5Inner.f k3 a0_0 a0_1 (([a2, x7_1, x8_2, x9_3] : List Int))).bind fun t490 => (if t490 = a2 then (some true) else (spec_l6In.l2 k3 a1 a2 x7_1 x8_2 (wrap64 (x9_3 + 1)) a0_0 a0_1))) else (spec_l6In.l2 k3 a1 a2 x7_1 x8_2 (wrap64 (x9_3 + 1)) a0_0 a0_1))) else (spec_l6In.l2 k3 a1 a2 x7_1 x8_2 (wrap64 (x9_3 + 1)) a0_0 a0_1))) else (spec_l6In.l2 k3 a1 a2 x7_1 x8_2 (wrap64 (x9_3 + 1)) a0_0 a0_1)) = some r := H
             have A16 := Aside0.mk A160
             clear A160
             by_cases c17 : t484 = true
             ·subst c17
              have H1 : ((spec_l6Has.f a1 x8_2).bind fun t485 => (if t485 = true then ((spec_l6Has.f a1 x9_3).bind fun t486 => (if t486 = true then ((spec_l5Inner.f k3 a0_0 a0_1 (([a2, x7_1, x8_2, x9_3] : List Int))).bind fun t490 => (if t490 = a2 then (some true) else (spec_l6In.l2 k3 a1 a2 x7_1 x8_2 (wrap64 (x9_3 + 1)) a0_0 a0_1))) else (spec_l6In.l2 k3 a1 a2 x7_1 x8_2 (wrap64 (x9_3 + 1)) a0_0 a0_1))) else (spec_l6In.l2 k3 a1 a2 x7_1 x8_2 (wrap64 (x9_3 + 1)) a0_0 a0_1))) = some r := by rw [if_pos rfl] at H; exact H
              clear H
              have H := H1
              clear H1
              replace H := Option.bind_eq_some_iff.mp H
              obtain ⟨t485, A180, H⟩ := H
              replace H : (if t485 = true then ((spec_l6Has.f a1 x9_3).bind fun t486 => (if t486 = true then ((spec_l5Inner.f k3 a0_0 a0_1 (([a2, x7_1, x8_2, x9_3] : List Int))).bind fun t490 => (if t490 = a2 then (some true) else (spec_l6In.l2 k3 a1 a2 x7_1 x8_2 (wrap64 (x9_3 + 1)) a0_0 a0_1))) else (spec_l6In.l2 k3 a1 a2 x7_1 x8_2 (wrap64 (x9_3 + 1)) a0_0 a0_1))) else (spec_l6In.l2 k3 a1 a2 x7_1 x8_2 (wrap64 (x9_3 + 1)) a0_0 a0_1)) = some r := H
              have A18 := Aside0.mk A180
              clear A180
              by_cases c19 : t485 = true
              ·subst c19
               have H1 : ((spec_l6Has.f a1 x9_3).bind fun t486 => (if t486 = true then ((spec_l5Inner.f k3 a0_0 a0_1 (([a2, x7_1, x8_2, x9_3] : List Int))).bind fun t490 => (if t490 = a2 then (some true) else (spec_l6In.l2 k3 a1 a2 x7_1 x8_2 (wrap64 (x9_3 + 1)) a0_0 a0_1))) else (spec_l6In.l2 k3 a1 a2 x7_1 x8_2 (wrap64 (x9_3 + 1)) a0_0 a0_1))) = some r := by rw [if_pos rfl] at H; exact H
               clear H
               have H := H1
               clear H1
               replace H := Option.bind_eq_some_iff.mp H
               obtain ⟨t486, A200, H⟩ := H
               replace H : (if t486 = true then ((spec_l5Inner.f k3 a0_0 a0_1 (([a2, x7_1, x8_2, x9_3] : List Int))).bind fun t490 => (if t490 = a2 then (some true) else (spec_l6In.l2 k3 a1 a2 x7_1 x8_2 (wrap64 (x9_3 + 1)) a0_0 a0_1))) else (spec_l6In.l2 k3 a1 a2 x7_1 x8_2 (wrap64 (x9_3 + 1)) a0_0 a0_1)) = some r := H
               have A20 := Aside0.mk A200
               clear A200
               by_cases c21 : t486 = true
               ·subst c21
                have H1 : ((spec_l5Inner.f k3 a0_0 a0_1 (([a2, x7_1, x8_2, x9_3] : List Int))).bind fun t490 => (if t490 = a2 then (some true) else (spec_l6In.l2 k3 a1 a2 x7_1 x8_2 (wrap64 (x9_3 + 1)) a0_0 a0_1))) = some r := by rw [if_pos rfl] at H; exact H
                clear H
                have H := H1
                clear H1
                obtain ⟨y487, hy487⟩ : ∃ y_ : List Int, y_ = (([a2, x7_1, x8_2, x9_3] : List Int)) := ⟨_, rfl⟩
                replace H : ((spec_l5Inner.f k3 a0_0 a0_1 y487).bind fun t490 => (if t490 = a2 then (some true) else (spec_l6In.l2 k3 a1 a2 x7_1 x8_2 (wrap64 (x9_3 + 1)) a0_0 a0_1))) = some r := by first | (rw [hy487]; with_reducible exact H) | (have H2_ := (Option.bind_some _ _).symm.trans H; rw [hy487]; with_reducible exact H2_) | (have H2_ := (Option.bind_some _ _).symm.trans H; with_reducible exact H2_) | with_reducible exact H | (rw [hy487]; exact H) | exact H
                have Ny487 := Aside0.mk hy487
                clear hy487
                replace H := Option.bind_eq_some_iff.mp H
                obtain ⟨t490, A220, H⟩ := H
                replace H : (if t490 = a2 then (some true) else (spec_l6In.l2 k3 a1 a2 x7_1 x8_2 (wrap64 (x9_3 + 1)) a0_0 a0_1)) = some r := H
                have A22 := Aside0.mk A220
                clear A220
                by_cases c23 : t490 = a2
                ·rw [if_pos c23] at H
                 have c23b0 : (t490 == a2) = true := beq_iff_eq.mpr c23
                 have c23b1 : (t490 != a2) = false := bne_eq_false_iff_eq.mpr c23
                 clear c23
                 obtain rfl := Option.some.inj H
                 have hcz24_0 : wr.cell? ⟨gb483, 0, none⟩ = some (.int .i64 a0_0) := (blk_cell BK483.out 0).trans rfl
                 have hcz24_1 : wr.cell? ⟨gb483, 1, none⟩ = some (.string a0_1) := (blk_cell BK483.out 1).trans rfl
                 have hfz24_0 := blk_frozen BK483.out 0
                 have hfz24_1 := blk_frozen BK483.out 1
                 go_wp2_with (first | (go_at_call 65; (with_reducible refine (spec_l6Has.calls a1 x7_1 true _ A16.out).mono ?_); rintro e w' ⟨rfl, ⟨nd, rfl⟩⟩) | (go_at_call 65; (with_reducible refine (spec_l6Has.calls a1 x8_2 true _ A18.out).mono ?_); rintro e w' ⟨rfl, ⟨nd, rfl⟩⟩) | (go_at_call 65; (with_reducible refine (spec_l6Has.calls a1 x9_3 true _ A20.out).mono ?_); rintro e w' ⟨rfl, ⟨nd, rfl⟩⟩) | ((with_reducible refine gate_dst (N := 66) rfl ?_); (try (refine gate_guard (by rfl) ?_; dsimp only)); refine Kd.R_lit (Kd.int .i64) _ 3 ?hg (N := 66) ?hd (xs := ([a2, x7_1, x8_2, x9_3] : List Int)) (inner := [.int .i64 a2, .int .i64 x7_1, .int .i64 x8_2, .int .i64 x9_3]) (ok := fun _ => True) (okp := fun _ => True) ?hr ?hp (fun _ hk => hk) trivial (Below.refl _ _) (Nat.le_refl _) (by simp) ?_; (case hd => rfl); (case hg => rfl); (case hr => first | (go_simp; done) | (go_simp; rfl)); (case hp => exact (Reps.one (show Kd.M (Kd.int .i64) _ _ _ a2 [.int .i64 a2] from rfl) (Reps.one (show Kd.M (Kd.int .i64) _ _ _ x7_1 [.int .i64 x7_1] from rfl) (Reps.one (show Kd.M (Kd.int .i64) _ _ _ x8_2 [.int .i64 x8_2] from rfl) (Reps.one (show Kd.M (Kd.int .i64) _ _ _ x9_3 [.int .i64 x9_3] from rfl) (Reps.none _ _)))))); intro v488 w25 ho26 hb hg_ hnew_; clear hg_ hnew_; (first | rw [← Ny487.out] at ho26 | (simp only [Int.reduceToNat] at ho26; rw [← Ny487.out] at ho26)); have n0_ := Aside0.mk (Kd.R_lower ho26 (below_size (zG GE483.out))); have n1_ := Aside0.mk (blk_below (g := gb483) (o := .cells #[.int .i64 a0_0, .string a0_1] 27 (0, 0)) (zK BK483.out) hb); have n2_ := Aside0.mk (below_step (zG GE483.out) hb); clear BK483; clear HB; have HO489 := n0_; have BK483 := n1_; have HB := n2_; clear n0_ n1_ n2_; clear hb ho26; obtain ⟨Ao27, co27, eo27⟩ := Kd.R_slice HO489.out; subst eo27) | (go_at_call 54; (with_reducible refine (spec_l5Inner.calls k3 a0_0 a0_1 _ _ y487 t490 _ ?side1 ?side2 A22.out).mono ?_); (case side1 => repeat (first | exact (Kd.R_reads' HO489.out).2.2 | (with_reducible refine Kd.C_alloc ?_ _) | (with_reducible refine Kd.C_drewN ?_ _) | (with_reducible refine Kd.C_drew ?_))); (case side2 => exact (Kd.R_reads' HO489.out).2.1); rintro e w28 ⟨rfl, hb⟩; have n0_ := Aside0.mk (Kd.R_below (zR HO489.out) hb); have n1_ := Aside0.mk (blk_below (g := gb483) (o := .cells #[.int .i64 a0_0, .string a0_1] 27 (0, 0)) (zK BK483.out) hb); have n2_ := Aside0.mk (below_step (zG GE483.out) hb); clear HO489; clear BK483; clear HB; have HO489 := n0_; have BK483 := n1_; have HB := n2_; clear n0_ n1_ n2_; (try clear hb); (try clear hb2); (try clear hk); (try clear hi)))
                 go_ret
                 exact ⟨zE, zG GE483.out⟩
                ·rw [if_neg c23] at H
                 have c23b0 : (t490 == a2) = false := beq_eq_false_iff_ne.mpr c23
                 have c23b1 : (t490 != a2) = true := bne_iff_ne.mpr c23
                 have H' := Aside0.mk H
                 clear H
                 have hcz29_0 : wr.cell? ⟨gb483, 0, none⟩ = some (.int .i64 a0_0) := (blk_cell BK483.out 0).trans rfl
                 have hcz29_1 : wr.cell? ⟨gb483, 1, none⟩ = some (.string a0_1) := (blk_cell BK483.out 1).trans rfl
                 have hfz29_0 := blk_frozen BK483.out 0
                 have hfz29_1 := blk_frozen BK483.out 1
                 go_wp2_with (first | (go_at_call 65; (with_reducible refine (spec_l6Has.calls a1 x7_1 true _ A16.out).mono ?_); rintro e w' ⟨rfl, ⟨nd, rfl⟩⟩) | (go_at_call 65; (with_reducible refine (spec_l6Has.calls a1 x8_2 true _ A18.out).mono ?_); rintro e w' ⟨rfl, ⟨nd, rfl⟩⟩) | (go_at_call 65; (with_reducible refine (spec_l6Has.calls a1 x9_3 true _ A20.out).mono ?_); rintro e w' ⟨rfl, ⟨nd, rfl⟩⟩) | ((with_reducible refine gate_dst (N := 66) rfl ?_); (try (refine gate_guard (by rfl) ?_; dsimp only)); refine Kd.R_lit (Kd.int .i64) _ 3 ?hg (N := 66) ?hd (xs := ([a2, x7_1, x8_2, x9_3] : List Int)) (inner := [.int .i64 a2, .int .i64 x7_1, .int .i64 x8_2, .int .i64 x9_3]) (ok := fun _ => True) (okp := fun _ => True) ?hr ?hp (fun _ hk => hk) trivial (Below.refl _ _) (Nat.le_refl _) (by simp) ?_; (case hd => rfl); (case hg => rfl); (case hr => first | (go_simp; done) | (go_simp; rfl)); (case hp => exact (Reps.one (show Kd.M (Kd.int .i64) _ _ _ a2 [.int .i64 a2] from rfl) (Reps.one (show Kd.M (Kd.int .i64) _ _ _ x7_1 [.int .i64 x7_1] from rfl) (Reps.one (show Kd.M (Kd.int .i64) _ _ _ x8_2 [.int .i64 x8_2] from rfl) (Reps.one (show Kd.M (Kd.int .i64) _ _ _ x9_3 [.int .i64 x9_3] from rfl) (Reps.none _ _)))))); intro v488 w30 ho31 hb hg_ hnew_; clear hg_ hnew_; (first | rw [← Ny487.out] at ho31 | (simp only [Int.reduceToNat] at ho31; rw [← Ny487.out] at ho31)); have n0_ := Aside0.mk (Kd.R_lower ho31 (below_size (zG GE483.out))); have n1_ := Aside0.mk (blk_below (g := gb483) (o := .cells #[.int .i64 a0_0, .string a0_1] 27 (0, 0)) (zK BK483.out) hb); have n2_ := Aside0.mk (below_step (zG GE483.out) hb); clear BK483; clear HB; have HO489 := n0_; have BK483 := n1_; have HB := n2_; clear n0_ n1_ n2_; clear hb ho31; obtain ⟨Ao32, co32, eo32⟩ := Kd.R_slice HO489.out; subst eo32) | (go_at_call 54; (with_reducible refine (spec_l5Inner.calls k3 a0_0 a0_1 _ _ y487 t490 _ ?side1 ?side2 A22.out).mono ?_); (case side1 => repeat (first | exact (Kd.R_reads' HO489.out).2.2 | (with_reducible refine Kd.C_alloc ?_ _) | (with_reducible refine Kd.C_drewN ?_ _) | (with_reducible refine Kd.C_drew ?_))); (case side2 => exact (Kd.R_reads' HO489.out).2.1); rintro e w33 ⟨rfl, hb⟩; have n0_ := Aside0.mk (Kd.R_below (zR HO489.out) hb); have n1_ := Aside0.mk (blk_below (g := gb483) (o := .cells #[.int .i64 a0_0, .string a0_1] 27 (0, 0)) (zK BK483.out) hb); have n2_ := Aside0.mk (below_step (zG GE483.out) hb); clear HO489; clear BK483; clear HB; have HO489 := n0_; have BK483 := n1_; have HB := n2_; clear n0_ n1_ n2_; (try clear hb); (try clear hb2); (try clear hk); (try clear hi)))
                 go_roundg k3
                 case measure => have := HK1.out; have := HK2.out; have := HK3.out; omega
                 case rel => exact ⟨(wrap64 (x9_3 + 1)), zF, H', ⟨by have := HK1.out; have := HK2.out; have := HK3.out; omega⟩, ⟨zK BK483.out⟩, ⟨zG GE483.out⟩⟩
               ·replace c21 := Bool.eq_false_iff.mpr c21
                subst c21
                have H1 : (spec_l6In.l2 k3 a1 a2 x7_1 x8_2 (wrap64 (x9_3 + 1)) a0_0 a0_1) = some r := by rw [if_neg (show ¬ (false = true) by decide)] at H; exact H
                clear H
                have H := H1
                clear H1
                have H' := Aside0.mk H
                clear H
                have hcz34_0 : wr.cell? ⟨gb483, 0, none⟩ = some (.int .i64 a0_0) := (blk_cell BK483.out 0).trans rfl
                have hcz34_1 : wr.cell? ⟨gb483, 1, none⟩ = some (.string a0_1) := (blk_cell BK483.out 1).trans rfl
                have hfz34_0 := blk_frozen BK483.out 0
                have hfz34_1 := blk_frozen BK483.out 1
                go_wp2_with (first | (go_at_call 65; (with_reducible refine (spec_l6Has.calls a1 x7_1 true _ A16.out).mono ?_); rintro e w' ⟨rfl, ⟨nd, rfl⟩⟩) | (go_at_call 65; (with_reducible refine (spec_l6Has.calls a1 x8_2 true _ A18.out).mono ?_); rintro e w' ⟨rfl, ⟨nd, rfl⟩⟩) | (go_at_call 65; (with_reducible refine (spec_l6Has.calls a1 x9_3 false _ A20.out).mono ?_); rintro e w' ⟨rfl, ⟨nd, rfl⟩⟩))
                go_roundg k3
                case measure => have := HK1.out; have := HK2.out; have := HK3.out; omega
                case rel => exact ⟨(wrap64 (x9_3 + 1)), zF, H', ⟨by have := HK1.out; have := HK2.out; have := HK3.out; omega⟩, ⟨zK BK483.out⟩, ⟨zG GE483.out⟩⟩
              ·replace c19 := Bool.eq_false_iff.mpr c19
               subst c19
               have H1 : (spec_l6In.l2 k3 a1 a2 x7_1 x8_2 (wrap64 (x9_3 + 1)) a0_0 a0_1) = some r := by rw [if_neg (show ¬ (false = true) by decide)] at H; exact H
               clear H
               have H := H1
               clear H1
               have H' := Aside0.mk H
               clear H
               have hcz35_0 : wr.cell? ⟨gb483, 0, none⟩ = some (.int .i64 a0_0) := (blk_cell BK483.out 0).trans rfl
               have hcz35_1 : wr.cell? ⟨gb483, 1, none⟩ = some (.string a0_1) := (blk_cell BK483.out 1).trans rfl
               have hfz35_0 := blk_frozen BK483.out 0
               have hfz35_1 := blk_frozen BK483.out 1
               go_wp2_with (first | (go_at_call 65; (with_reducible refine (spec_l6Has.calls a1 x7_1 true _ A16.out).mono ?_); rintro e w' ⟨rfl, ⟨nd, rfl⟩⟩) | (go_at_call 65; (with_reducible refine (spec_l6Has.calls a1 x8_2 false _ A18.out).mono ?_); rintro e w' ⟨rfl, ⟨nd, rfl⟩⟩))
               go_roundg k3
               case measure => have := HK1.out; have := HK2.out; have := HK3.out; omega
               case rel => exact ⟨(wrap64 (x9_3 + 1)), zF, H', ⟨by have := HK1.out; have := HK2.out; have := HK3.out; omega⟩, ⟨zK BK483.out⟩, ⟨zG GE483.out⟩⟩
             ·replace c17 := Bool.eq_false_iff.mpr c17
              subst c17
              have H1 : (spec_l6In.l2 k3 a1 a2 x7_1 x8_2 (wrap64 (x9_3 + 1)) a0_0 a0_1) = some r := by rw [if_neg (show ¬ (false = true) by decide)] at H; exact H
              clear H
              have H := H1
              clear H1
              have H' := Aside0.mk H
              clear H
              have hcz36_0 : wr.cell? ⟨gb483, 0, none⟩ = some (.int .i64 a0_0) := (blk_cell BK483.out 0).trans rfl
              have hcz36_1 : wr.cell? ⟨gb483, 1, none⟩ = some (.string a0_1) := (blk_cell BK483.out 1).trans rfl
              have hfz36_0 := blk_frozen BK483.out 0
              have hfz36_1 := blk_frozen BK483.out 1
              go_wp2_with (first | (go_at_call 65; (with_reducible refine (spec_l6Has.calls a1 x7_1 false _ A16.out).mono ?_); rintro e w' ⟨rfl, ⟨nd, rfl⟩⟩))
              go_roundg k3
              case measure => have := HK1.out; have := HK2.out; have := HK3.out; omega
              case rel => exact ⟨(wrap64 (x9_3 + 1)), zF, H', ⟨by have := HK1.out; have := HK2.out; have := HK3.out; omega⟩, ⟨zK BK483.out⟩, ⟨zG GE483.out⟩⟩
         ·rw [if_neg c9] at H
          have c9b0 : decide (x9_3 < a0_0) = false := decide_eq_false c9
          clear c9
          have H' := Aside0.mk H
          clear H
          have hcz37_0 : wr.cell? ⟨gb483, 0, none⟩ = some (.int .i64 a0_0) := (blk_cell BK483.out 0).trans rfl
          have hcz37_1 : wr.cell? ⟨gb483, 1, none⟩ = some (.string a0_1) := (blk_cell BK483.out 1).trans rfl
          have hfz37_0 := blk_frozen BK483.out 0
          have hfz37_1 := blk_frozen BK483.out 1
          go_wp2
          go_roundg k3
          case measure => have := HK1.out; have := HK2.out; have := HK3.out; omega
          case rel => exact ⟨(wrap64 (x8_2 + 1)), zF, H', ⟨by have := HK1.out; have := HK2.out; have := HK3.out; omega⟩, ⟨zK BK483.out⟩, ⟨zG GE483.out⟩⟩
      ·rw [if_neg c7] at H
       have c7b0 : decide (x8_2 < a0_0) = false := decide_eq_false c7
       clear c7
       have H' := Aside0.mk H
       clear H
       have hcz38_0 : wr.cell? ⟨gb483, 0, none⟩ = some (.int .i64 a0_0) := (blk_cell BK483.out 0).trans rfl
       have hcz38_1 : wr.cell? ⟨gb483, 1, none⟩ = some (.string a0_1) := (blk_cell BK483.out 1).trans rfl
       have hfz38_0 := blk_frozen BK483.out 0
       have hfz38_1 := blk_frozen BK483.out 1
       go_wp2
       go_roundg k2
       case measure => have := HK1.out; have := HK2.out; omega
       case rel => exact ⟨(wrap64 (x7_1 + 1)), zF, H', ⟨by have := HK1.out; have := HK2.out; omega⟩, ⟨zK BK483.out⟩, ⟨zG GE483.out⟩⟩
   ·rw [if_neg c5] at H
    have c5b0 : decide (x7_1 < a0_0) = false := decide_eq_false c5
    clear c5
    obtain rfl := Option.some.inj H
    have hcz39_0 : wr.cell? ⟨gb483, 0, none⟩ = some (.int .i64 a0_0) := (blk_cell BK483.out 0).trans rfl
    have hcz39_1 : wr.cell? ⟨gb483, 1, none⟩ = some (.string a0_1) := (blk_cell BK483.out 1).trans rfl
    have hfz39_0 := blk_frozen BK483.out 0
    have hfz39_1 := blk_frozen BK483.out 1
    go_wp2
    go_ret
    exact ⟨zE, zG GE483.out⟩
/-! ### spec_InHull: function 34 -/
def spec_InHull.f (k : Nat) (a0_0 : Int) (a0_1 : ByteArray) (a1 : Int) (a2 : Int) : Option (Bool) := (spec_IsAcyclic.f k a0_0 a0_1).bind fun t492 => (if t492 = true then ((spec_l1In.f a2 0 (wrap64 (a0_0 - 1))).bind fun t493 => (if t493 = true then (if 0 ≤ (IntKind.u64.wrap (a0_0)) then ((spec_l1In.f a1 0 (wrap64 ((shl .i64 1 (IntKind.u64.wrap (a0_0))) - 1))).bind fun t494 => (if t494 = true then ((spec_l6Has.f a1 a2).bind fun t495 => (if t495 = true then (some false) else ((spec_l6In.f k a0_0 a0_1 a1 a2).bind fun t496 => (some t496)))) else (some false))) else (none)) else (some false))) else (some false))
theorem spec_InHull.mono : ∀ a0 a1 a2 a3 k, LeO (spec_InHull.f k a0 a1 a2 a3) (spec_InHull.f (k + 1) a0 a1 a2 a3) := by
 intro a0 a1 a2 a3 k
 unfold spec_InHull.f
 repeat' first
   | (with_reducible exact spec_IsAcyclic.mono _ _ _)
   | (with_reducible exact spec_l6In.mono _ _ _ _ _)
   | (with_reducible exact LeO.refl _)
   | (with_reducible exact LeO.none _)
   | (with_reducible refine LeO.ite ?_ ?_)
   | (with_reducible refine LeO.bind ?_ (fun _ => ?_))
   | exact spec_IsAcyclic.mono _ _ _
   | exact spec_l6In.mono _ _ _ _ _
   | exact LeO.none _
   | refine LeO.ite ?_ ?_
   | refine LeO.bind ?_ (fun _ => ?_)
set_option maxHeartbeats 8000000 in
set_option maxRecDepth 100000 in
theorem spec_InHull.calls (k : Nat) (a0_0 : Int) (a0_1 : ByteArray) (a1 : Int) (a2 : Int) (r : Bool) (w : World) (h : spec_InHull.f k a0_0 a0_1 a1 a2 = some r) :
  Calls Try.prog 34 #[.agg #[.int .i64 a0_0, .string a0_1], .int .i64 a1, .int .i64 a2] w fun e w' => e = .returned (.bool r) ∧ Below w.heap.size w w' := by
 have hu27 := Try.underlying27
 have HB := Aside0.mk (Below.refl w.heap.size w)
 have H : ((spec_IsAcyclic.f k a0_0 a0_1).bind fun t492 => (if t492 = true then ((spec_l1In.f a2 0 (wrap64 (a0_0 - 1))).bind fun t493 => (if t493 = true then (if 0 ≤ (IntKind.u64.wrap (a0_0)) then ((spec_l1In.f a1 0 (wrap64 ((shl .i64 1 (IntKind.u64.wrap (a0_0))) - 1))).bind fun t494 => (if t494 = true then ((spec_l6Has.f a1 a2).bind fun t495 => (if t495 = true then (some false) else ((spec_l6In.f k a0_0 a0_1 a1 a2).bind fun t496 => (some t496)))) else (some false))) else (none)) else (some false))) else (some false))) = some r := h
 clear h
 replace H := Option.bind_eq_some_iff.mp H
 obtain ⟨t492, A40, H⟩ := H
 replace H : (if t492 = true then ((spec_l1In.f a2 0 (wrap64 (a0_0 - 1))).bind fun t493 => (if t493 = true then (if 0 ≤ (IntKind.u64.wrap (a0_0)) then ((spec_l1In.f a1 0 (wrap64 ((shl .i64 1 (IntKind.u64.wrap (a0_0))) - 1))).bind fun t494 => (if t494 = true then ((spec_l6Has.f a1 a2).bind fun t495 => (if t495 = true then (some false) else ((spec_l6In.f k a0_0 a0_1 a1 a2).bind fun t496 => (some t496)))) else (some false))) else (none)) else (some false))) else (some false)) = some r := H
 have A4 := Aside0.mk A40
 clear A40
 by_cases c5 : t492 = true
 ·subst c5
  have H1 : ((spec_l1In.f a2 0 (wrap64 (a0_0 - 1))).bind fun t493 => (if t493 = true then (if 0 ≤ (IntKind.u64.wrap (a0_0)) then ((spec_l1In.f a1 0 (wrap64 ((shl .i64 1 (IntKind.u64.wrap (a0_0))) - 1))).bind fun t494 => (if t494 = true then ((spec_l6Has.f a1 a2).bind fun t495 => (if t495 = true then (some false) else ((spec_l6In.f k a0_0 a0_1 a1 a2).bind fun t496 => (some t496)))) else (some false))) else (none)) else (some false))) = some r := by rw [if_pos rfl] at H; exact H
  clear H
  have H := H1
  clear H1
  replace H := Option.bind_eq_some_iff.mp H
  obtain ⟨t493, A60, H⟩ := H
  replace H : (if t493 = true then (if 0 ≤ (IntKind.u64.wrap (a0_0)) then ((spec_l1In.f a1 0 (wrap64 ((shl .i64 1 (IntKind.u64.wrap (a0_0))) - 1))).bind fun t494 => (if t494 = true then ((spec_l6Has.f a1 a2).bind fun t495 => (if t495 = true then (some false) else ((spec_l6In.f k a0_0 a0_1 a1 a2).bind fun t496 => (some t496)))) else (some false))) else (none)) else (some false)) = some r := H
  have A6 := Aside0.mk A60
  clear A60
  by_cases c7 : t493 = true
  ·subst c7
   have H1 : (if 0 ≤ (IntKind.u64.wrap (a0_0)) then ((spec_l1In.f a1 0 (wrap64 ((shl .i64 1 (IntKind.u64.wrap (a0_0))) - 1))).bind fun t494 => (if t494 = true then ((spec_l6Has.f a1 a2).bind fun t495 => (if t495 = true then (some false) else ((spec_l6In.f k a0_0 a0_1 a1 a2).bind fun t496 => (some t496)))) else (some false))) else (none)) = some r := by rw [if_pos rfl] at H; exact H
   clear H
   have H := H1
   clear H1
   obtain ⟨ji8, hji8⟩ : ∃ j_ : Int, (IntKind.u64.wrap (a0_0)) = j_ := ⟨_, rfl⟩
   replace H : (if 0 ≤ (ji8) then ((spec_l1In.f a1 0 (wrap64 ((shl .i64 1 (ji8)) - 1))).bind fun t494 => (if t494 = true then ((spec_l6Has.f a1 a2).bind fun t495 => (if t495 = true then (some false) else ((spec_l6In.f k a0_0 a0_1 a1 a2).bind fun t496 => (some t496)))) else (some false))) else (none)) = some r := by first | (rw [hji8] at H; exact H) | (simp only [hji8] at H ⊢; exact H)
   (try rw [hji8] at A4)
   (try rw [hji8] at A6)
   by_cases c9 : 0 ≤ (ji8)
   ·rw [if_pos c9] at H
    have c9b0 := eq_true c9
    have c9b1 : decide (0 ≤ (ji8)) = true := decide_eq_true c9
    clear c9
    obtain ⟨ji10, hji10⟩ : ∃ j_ : Int, (shl .i64 1 (ji8)) = j_ := ⟨_, rfl⟩
    replace H : ((spec_l1In.f a1 0 (wrap64 ((ji10) - 1))).bind fun t494 => (if t494 = true then ((spec_l6Has.f a1 a2).bind fun t495 => (if t495 = true then (some false) else ((spec_l6In.f k a0_0 a0_1 a1 a2).bind fun t496 => (some t496)))) else (some false))) = some r := by first | (rw [hji10] at H; exact H) | (simp only [hji10] at H ⊢; exact H)
    (try rw [hji10] at A4)
    (try rw [hji10] at A6)
    have hji10_ : (IntKind.i64.wrap (1 * 2 ^ min (ji8).toNat 64)) = ji10 := hji10
    have hji10z : (ji8) ≤ 64 → (IntKind.i64.wrap (1 * 2 ^ (ji8).toNat)) = ji10 := shl_small hji10
    have hji10u : (IntKind.i64.wrap (2 ^ min (ji8).toNat 64)) = ji10 := by have h_ := hji10_; rw [Int.one_mul] at h_; exact h_
    have hji10v : (ji8) ≤ 64 → (IntKind.i64.wrap (2 ^ (ji8).toNat)) = ji10 := fun hle_ => by have h_ := hji10z hle_; rw [Int.one_mul] at h_; exact h_
    have hji10y : (wrap64 (1 * 2 ^ min (ji8).toNat 64)) = ji10 := (i64_w _).symm.trans hji10_
    have hji10x : (ji8) ≤ 64 → (wrap64 (1 * 2 ^ (ji8).toNat)) = ji10 := fun h_ => (i64_w _).symm.trans (hji10z h_)
    replace H := Option.bind_eq_some_iff.mp H
    obtain ⟨t494, A110, H⟩ := H
    replace H : (if t494 = true then ((spec_l6Has.f a1 a2).bind fun t495 => (if t495 = true then (some false) else ((spec_l6In.f k a0_0 a0_1 a1 a2).bind fun t496 => (some t496)))) else (some false)) = some r := H
    have A11 := Aside0.mk A110
    clear A110
    by_cases c12 : t494 = true
    ·subst c12
     have H1 : ((spec_l6Has.f a1 a2).bind fun t495 => (if t495 = true then (some false) else ((spec_l6In.f k a0_0 a0_1 a1 a2).bind fun t496 => (some t496)))) = some r := by rw [if_pos rfl] at H; exact H
     clear H
     have H := H1
     clear H1
     replace H := Option.bind_eq_some_iff.mp H
     obtain ⟨t495, A130, H⟩ := H
     replace H : (if t495 = true then (some false) else ((spec_l6In.f k a0_0 a0_1 a1 a2).bind fun t496 => (some t496))) = some r := H
     have A13 := Aside0.mk A130
     clear A130
     by_cases c14 : t495 = true
     ·subst c14
      have H1 : (some false) = some r := by rw [if_pos rfl] at H; exact H
      clear H
      have H := H1
      clear H1
      obtain rfl := Option.some.inj H
      go_enter Try.func34, Try.ntmps34
      go_wp2_with (first | ((with_reducible refine gate_dst (N := 3) rfl ?_); refine box_event ?hg (N := 3) ?hd (cs := #[.int .i64 a0_0, .string a0_1]) (t := 27) ?hr ?_; (case hd => rfl); (case hg => rfl); (case hr => first | (go_simp; done) | (go_simp; rfl)); intro gb491 hg w15 hbox hb; have n0_ := Aside0.mk (below_step zB hb); have n1_ := Aside0.mk (hbox); have n2_ := Aside0.mk ((by rw [hg]; exact (below_size zB) : w.heap.size ≤ gb491)); have n3_ := Aside0.mk ((by rw [hg]; exact (below_size zB) : w.heap.size ≤ gb491)); clear HB; have HB := n0_; have BK491 := n1_; have GW491 := n2_; have GE491 := n3_; clear n0_ n1_ n2_ n3_; clear hb hbox hg; have hcz16_0 : w15.cell? ⟨gb491, 0, none⟩ = some (.int .i64 a0_0) := (blk_cell BK491.out 0).trans rfl; have hcz16_1 : w15.cell? ⟨gb491, 1, none⟩ = some (.string a0_1) := (blk_cell BK491.out 1).trans rfl; have hfz16_0 := blk_frozen BK491.out 0; have hfz16_1 := blk_frozen BK491.out 1) | ((with_reducible refine gate_callee (f := 44) rfl ?_); refine goesL_ (some 8) rfl rfl Try.func44 (by kernel_rfl) rfl #[.agg #[.int .i64 a0_0, .string a0_1]] rfl zM ?_; (with_reducible refine (spec_IsAcyclic.calls k a0_0 a0_1 true _ A4.out).mono ?_); rintro e w17 ⟨rfl, hb⟩; refine ⟨_, rfl, ?_⟩; have n0_ := Aside0.mk (blk_below (g := gb491) (o := .cells #[.int .i64 a0_0, .string a0_1] 27 (0, 0)) (zK BK491.out) hb); have n1_ := Aside0.mk (below_step (zG GE491.out) hb); clear BK491; clear HB; have BK491 := n0_; have HB := n1_; clear n0_ n1_; (try clear hb); (try clear hb2); (try clear hk); (try clear hi); have hcz18_0 : w17.cell? ⟨gb491, 0, none⟩ = some (.int .i64 a0_0) := (blk_cell BK491.out 0).trans rfl; have hcz18_1 : w17.cell? ⟨gb491, 1, none⟩ = some (.string a0_1) := (blk_cell BK491.out 1).trans rfl; have hfz18_0 := blk_frozen BK491.out 0; have hfz18_1 := blk_frozen BK491.out 1) | (go_at_call 64; (with_reducible refine (spec_l1In.calls a2 0 (wrap64 (a0_0 - 1)) true _ A6.out).mono ?_); rintro e w' ⟨rfl, ⟨nd, rfl⟩⟩) | (go_at_call 64; (with_reducible refine (spec_l1In.calls a1 0 (wrap64 ((ji10) - 1)) true _ A11.out).mono ?_); rintro e w' ⟨rfl, ⟨nd, rfl⟩⟩) | (go_at_call 65; (with_reducible refine (spec_l6Has.calls a1 a2 true _ A13.out).mono ?_); rintro e w' ⟨rfl, ⟨nd, rfl⟩⟩))
      go_ret
      exact ⟨by first | rfl | (simp [errW_none, errW_some] <;> rfl) | (simp only [← hji8, ← hji10]; first | rfl | (simp [errW_none, errW_some] <;> rfl)) | (simp [*, errW_none, errW_some] <;> rfl), zG GE491.out⟩
     ·replace c14 := Bool.eq_false_iff.mpr c14
      subst c14
      have H1 : ((spec_l6In.f k a0_0 a0_1 a1 a2).bind fun t496 => (some t496)) = some r := by rw [if_neg (show ¬ (false = true) by decide)] at H; exact H
      clear H
      have H := H1
      clear H1
      replace H := Option.bind_eq_some_iff.mp H
      obtain ⟨t496, A190, H⟩ := H
      replace H : (some t496) = some r := H
      have A19 := Aside0.mk A190
      clear A190
      obtain rfl := Option.some.inj H
      go_enter Try.func34, Try.ntmps34
      go_wp2_with (first | ((with_reducible refine gate_dst (N := 3) rfl ?_); refine box_event ?hg (N := 3) ?hd (cs := #[.int .i64 a0_0, .string a0_1]) (t := 27) ?hr ?_; (case hd => rfl); (case hg => rfl); (case hr => first | (go_simp; done) | (go_simp; rfl)); intro gb491 hg w20 hbox hb; have n0_ := Aside0.mk (below_step zB hb); have n1_ := Aside0.mk (hbox); have n2_ := Aside0.mk ((by rw [hg]; exact (below_size zB) : w.heap.size ≤ gb491)); have n3_ := Aside0.mk ((by rw [hg]; exact (below_size zB) : w.heap.size ≤ gb491)); clear HB; have HB := n0_; have BK491 := n1_; have GW491 := n2_; have GE491 := n3_; clear n0_ n1_ n2_ n3_; clear hb hbox hg; have hcz21_0 : w20.cell? ⟨gb491, 0, none⟩ = some (.int .i64 a0_0) := (blk_cell BK491.out 0).trans rfl; have hcz21_1 : w20.cell? ⟨gb491, 1, none⟩ = some (.string a0_1) := (blk_cell BK491.out 1).trans rfl; have hfz21_0 := blk_frozen BK491.out 0; have hfz21_1 := blk_frozen BK491.out 1) | ((with_reducible refine gate_callee (f := 44) rfl ?_); refine goesL_ (some 8) rfl rfl Try.func44 (by kernel_rfl) rfl #[.agg #[.int .i64 a0_0, .string a0_1]] rfl zM ?_; (with_reducible refine (spec_IsAcyclic.calls k a0_0 a0_1 true _ A4.out).mono ?_); rintro e w22 ⟨rfl, hb⟩; refine ⟨_, rfl, ?_⟩; have n0_ := Aside0.mk (blk_below (g := gb491) (o := .cells #[.int .i64 a0_0, .string a0_1] 27 (0, 0)) (zK BK491.out) hb); have n1_ := Aside0.mk (below_step (zG GE491.out) hb); clear BK491; clear HB; have BK491 := n0_; have HB := n1_; clear n0_ n1_; (try clear hb); (try clear hb2); (try clear hk); (try clear hi); have hcz23_0 : w22.cell? ⟨gb491, 0, none⟩ = some (.int .i64 a0_0) := (blk_cell BK491.out 0).trans rfl; have hcz23_1 : w22.cell? ⟨gb491, 1, none⟩ = some (.string a0_1) := (blk_cell BK491.out 1).trans rfl; have hfz23_0 := blk_frozen BK491.out 0; have hfz23_1 := blk_frozen BK491.out 1) | (go_at_call 64; (with_reducible refine (spec_l1In.calls a2 0 (wrap64 (a0_0 - 1)) true _ A6.out).mono ?_); rintro e w' ⟨rfl, ⟨nd, rfl⟩⟩) | (go_at_call 64; (with_reducible refine (spec_l1In.calls a1 0 (wrap64 ((ji10) - 1)) true _ A11.out).mono ?_); rintro e w' ⟨rfl, ⟨nd, rfl⟩⟩) | (go_at_call 65; (with_reducible refine (spec_l6Has.calls a1 a2 false _ A13.out).mono ?_); rintro e w' ⟨rfl, ⟨nd, rfl⟩⟩) | (go_at_call 66; (with_reducible refine (spec_l6In.calls k a0_0 a0_1 a1 a2 t496 _ A19.out).mono ?_); rintro e w24 ⟨rfl, hb⟩; have n0_ := Aside0.mk (blk_below (g := gb491) (o := .cells #[.int .i64 a0_0, .string a0_1] 27 (0, 0)) (zK BK491.out) hb); have n1_ := Aside0.mk (below_step (zG GE491.out) hb); clear BK491; clear HB; have BK491 := n0_; have HB := n1_; clear n0_ n1_; (try clear hb); (try clear hb2); (try clear hk); (try clear hi)))
      go_ret
      exact ⟨by first | rfl | (simp [errW_none, errW_some] <;> rfl) | (simp only [← hji8, ← hji10]; first | rfl | (simp [errW_none, errW_some] <;> rfl)) | (simp [*, errW_none, errW_some] <;> rfl), zG GE491.out⟩
    ·replace c12 := Bool.eq_false_iff.mpr c12
     subst c12
     have H1 : (some false) = some r := by rw [if_neg (show ¬ (false = true) by decide)] at H; exact H
     clear H
     have H := H1
     clear H1
     obtain rfl := Option.some.inj H
     go_enter Try.func34, Try.ntmps34
     go_wp2_with (first | ((with_reducible refine gate_dst (N := 3) rfl ?_); refine box_event ?hg (N := 3) ?hd (cs := #[.int .i64 a0_0, .string a0_1]) (t := 27) ?hr ?_; (case hd => rfl); (case hg => rfl); (case hr => first | (go_simp; done) | (go_simp; rfl)); intro gb491 hg w25 hbox hb; have n0_ := Aside0.mk (below_step zB hb); have n1_ := Aside0.mk (hbox); have n2_ := Aside0.mk ((by rw [hg]; exact (below_size zB) : w.heap.size ≤ gb491)); have n3_ := Aside0.mk ((by rw [hg]; exact (below_size zB) : w.heap.size ≤ gb491)); clear HB; have HB := n0_; have BK491 := n1_; have GW491 := n2_; have GE491 := n3_; clear n0_ n1_ n2_ n3_; clear hb hbox hg; have hcz26_0 : w25.cell? ⟨gb491, 0, none⟩ = some (.int .i64 a0_0) := (blk_cell BK491.out 0).trans rfl; have hcz26_1 : w25.cell? ⟨gb491, 1, none⟩ = some (.string a0_1) := (blk_cell BK491.out 1).trans rfl; have hfz26_0 := blk_frozen BK491.out 0; have hfz26_1 := blk_frozen BK491.out 1) | ((with_reducible refine gate_callee (f := 44) rfl ?_); refine goesL_ (some 8) rfl rfl Try.func44 (by kernel_rfl) rfl #[.agg #[.int .i64 a0_0, .string a0_1]] rfl zM ?_; (with_reducible refine (spec_IsAcyclic.calls k a0_0 a0_1 true _ A4.out).mono ?_); rintro e w27 ⟨rfl, hb⟩; refine ⟨_, rfl, ?_⟩; have n0_ := Aside0.mk (blk_below (g := gb491) (o := .cells #[.int .i64 a0_0, .string a0_1] 27 (0, 0)) (zK BK491.out) hb); have n1_ := Aside0.mk (below_step (zG GE491.out) hb); clear BK491; clear HB; have BK491 := n0_; have HB := n1_; clear n0_ n1_; (try clear hb); (try clear hb2); (try clear hk); (try clear hi); have hcz28_0 : w27.cell? ⟨gb491, 0, none⟩ = some (.int .i64 a0_0) := (blk_cell BK491.out 0).trans rfl; have hcz28_1 : w27.cell? ⟨gb491, 1, none⟩ = some (.string a0_1) := (blk_cell BK491.out 1).trans rfl; have hfz28_0 := blk_frozen BK491.out 0; have hfz28_1 := blk_frozen BK491.out 1) | (go_at_call 64; (with_reducible refine (spec_l1In.calls a2 0 (wrap64 (a0_0 - 1)) true _ A6.out).mono ?_); rintro e w' ⟨rfl, ⟨nd, rfl⟩⟩) | (go_at_call 64; (with_reducible refine (spec_l1In.calls a1 0 (wrap64 ((ji10) - 1)) false _ A11.out).mono ?_); rintro e w' ⟨rfl, ⟨nd, rfl⟩⟩))
     go_ret
     exact ⟨by first | rfl | (simp [errW_none, errW_some] <;> rfl) | (simp only [← hji8, ← hji10]; first | rfl | (simp [errW_none, errW_some] <;> rfl)) | (simp [*, errW_none, errW_some] <;> rfl), zG GE491.out⟩
   ·rw [if_neg c9] at H
    exact absurd H (by simp)
  ·replace c7 := Bool.eq_false_iff.mpr c7
   subst c7
   have H1 : (some false) = some r := by rw [if_neg (show ¬ (false = true) by decide)] at H; exact H
   clear H
   have H := H1
   clear H1
   obtain rfl := Option.some.inj H
   go_enter Try.func34, Try.ntmps34
   go_wp2_with (first | ((with_reducible refine gate_dst (N := 3) rfl ?_); refine box_event ?hg (N := 3) ?hd (cs := #[.int .i64 a0_0, .string a0_1]) (t := 27) ?hr ?_; (case hd => rfl); (case hg => rfl); (case hr => first | (go_simp; done) | (go_simp; rfl)); intro gb491 hg w29 hbox hb; have n0_ := Aside0.mk (below_step zB hb); have n1_ := Aside0.mk (hbox); have n2_ := Aside0.mk ((by rw [hg]; exact (below_size zB) : w.heap.size ≤ gb491)); have n3_ := Aside0.mk ((by rw [hg]; exact (below_size zB) : w.heap.size ≤ gb491)); clear HB; have HB := n0_; have BK491 := n1_; have GW491 := n2_; have GE491 := n3_; clear n0_ n1_ n2_ n3_; clear hb hbox hg; have hcz30_0 : w29.cell? ⟨gb491, 0, none⟩ = some (.int .i64 a0_0) := (blk_cell BK491.out 0).trans rfl; have hcz30_1 : w29.cell? ⟨gb491, 1, none⟩ = some (.string a0_1) := (blk_cell BK491.out 1).trans rfl; have hfz30_0 := blk_frozen BK491.out 0; have hfz30_1 := blk_frozen BK491.out 1) | ((with_reducible refine gate_callee (f := 44) rfl ?_); refine goesL_ (some 8) rfl rfl Try.func44 (by kernel_rfl) rfl #[.agg #[.int .i64 a0_0, .string a0_1]] rfl zM ?_; (with_reducible refine (spec_IsAcyclic.calls k a0_0 a0_1 true _ A4.out).mono ?_); rintro e w31 ⟨rfl, hb⟩; refine ⟨_, rfl, ?_⟩; have n0_ := Aside0.mk (blk_below (g := gb491) (o := .cells #[.int .i64 a0_0, .string a0_1] 27 (0, 0)) (zK BK491.out) hb); have n1_ := Aside0.mk (below_step (zG GE491.out) hb); clear BK491; clear HB; have BK491 := n0_; have HB := n1_; clear n0_ n1_; (try clear hb); (try clear hb2); (try clear hk); (try clear hi); have hcz32_0 : w31.cell? ⟨gb491, 0, none⟩ = some (.int .i64 a0_0) := (blk_cell BK491.out 0).trans rfl; have hcz32_1 : w31.cell? ⟨gb491, 1, none⟩ = some (.string a0_1) := (blk_cell BK491.out 1).trans rfl; have hfz32_0 := blk_frozen BK491.out 0; have hfz32_1 := blk_frozen BK491.out 1) | (go_at_call 64; (with_reducible refine (spec_l1In.calls a2 0 (wrap64 (a0_0 - 1)) false _ A6.out).mono ?_); rintro e w' ⟨rfl, ⟨nd, rfl⟩⟩))
   go_ret
   exact ⟨zE, zG GE491.out⟩
 ·replace c5 := Bool.eq_false_iff.mpr c5
  subst c5
  have H1 : (some false) = some r := by rw [if_neg (show ¬ (false = true) by decide)] at H; exact H
  clear H
  have H := H1
  clear H1
  obtain rfl := Option.some.inj H
  go_enter Try.func34, Try.ntmps34
  go_wp2_with (first | ((with_reducible refine gate_dst (N := 3) rfl ?_); refine box_event ?hg (N := 3) ?hd (cs := #[.int .i64 a0_0, .string a0_1]) (t := 27) ?hr ?_; (case hd => rfl); (case hg => rfl); (case hr => first | (go_simp; done) | (go_simp; rfl)); intro gb491 hg w33 hbox hb; have n0_ := Aside0.mk (below_step zB hb); have n1_ := Aside0.mk (hbox); have n2_ := Aside0.mk ((by rw [hg]; exact (below_size zB) : w.heap.size ≤ gb491)); have n3_ := Aside0.mk ((by rw [hg]; exact (below_size zB) : w.heap.size ≤ gb491)); clear HB; have HB := n0_; have BK491 := n1_; have GW491 := n2_; have GE491 := n3_; clear n0_ n1_ n2_ n3_; clear hb hbox hg; have hcz34_0 : w33.cell? ⟨gb491, 0, none⟩ = some (.int .i64 a0_0) := (blk_cell BK491.out 0).trans rfl; have hcz34_1 : w33.cell? ⟨gb491, 1, none⟩ = some (.string a0_1) := (blk_cell BK491.out 1).trans rfl; have hfz34_0 := blk_frozen BK491.out 0; have hfz34_1 := blk_frozen BK491.out 1) | ((with_reducible refine gate_callee (f := 44) rfl ?_); refine goesL_ (some 8) rfl rfl Try.func44 (by kernel_rfl) rfl #[.agg #[.int .i64 a0_0, .string a0_1]] rfl zM ?_; (with_reducible refine (spec_IsAcyclic.calls k a0_0 a0_1 false _ A4.out).mono ?_); rintro e w35 ⟨rfl, hb⟩; refine ⟨_, rfl, ?_⟩; have n0_ := Aside0.mk (blk_below (g := gb491) (o := .cells #[.int .i64 a0_0, .string a0_1] 27 (0, 0)) (zK BK491.out) hb); have n1_ := Aside0.mk (below_step (zG GE491.out) hb); clear BK491; clear HB; have BK491 := n0_; have HB := n1_; clear n0_ n1_; (try clear hb); (try clear hb2); (try clear hk); (try clear hi)))
  go_ret
  exact ⟨zE, zG GE491.out⟩
/-! ### impl_fullSet: function 71 -/
def impl_fullSet.f (a0 : Int) : Option (Int) := if 0 ≤ a0 then (some (wrap64 ((shl .i64 1 a0) - 1))) else (none)
set_option maxHeartbeats 8000000 in
set_option maxRecDepth 100000 in
theorem impl_fullSet.calls (a0 : Int) (r : Int) (w : World) (h : impl_fullSet.f a0 = some r) :
  Calls Try.prog 71 #[.int .i64 a0] w fun e w' => e = .returned (.int .i64 r) ∧ Drawn0 w w' := by
 have H : (if 0 ≤ a0 then (some (wrap64 ((shl .i64 1 a0) - 1))) else (none)) = some r := h
 clear h
 by_cases c2 : 0 ≤ a0
 ·rw [if_pos c2] at H
  have c2b0 := eq_true c2
  have c2b1 : decide (0 ≤ a0) = true := decide_eq_true c2
  clear c2
  obtain ⟨ji3, hji3⟩ : ∃ j_ : Int, (shl .i64 1 a0) = j_ := ⟨_, rfl⟩
  replace H : (some (wrap64 ((ji3) - 1))) = some r := by first | (rw [hji3] at H; exact H) | (simp only [hji3] at H ⊢; exact H)
  have hji3_ : (IntKind.i64.wrap (1 * 2 ^ min a0.toNat 64)) = ji3 := hji3
  have hji3z : a0 ≤ 64 → (IntKind.i64.wrap (1 * 2 ^ a0.toNat)) = ji3 := shl_small hji3
  have hji3u : (IntKind.i64.wrap (2 ^ min a0.toNat 64)) = ji3 := by have h_ := hji3_; rw [Int.one_mul] at h_; exact h_
  have hji3v : a0 ≤ 64 → (IntKind.i64.wrap (2 ^ a0.toNat)) = ji3 := fun hle_ => by have h_ := hji3z hle_; rw [Int.one_mul] at h_; exact h_
  have hji3y : (wrap64 (1 * 2 ^ min a0.toNat 64)) = ji3 := (i64_w _).symm.trans hji3_
  have hji3x : a0 ≤ 64 → (wrap64 (1 * 2 ^ a0.toNat)) = ji3 := fun h_ => (i64_w _).symm.trans (hji3z h_)
  obtain rfl := Option.some.inj H
  go_enter Try.func71, Try.ntmps71
  go_wp2
  go_ret
  exact ⟨by first | rfl | (simp; done) | (simp only [← hji3] <;> (first | rfl | simp)) | (simp [*]; done), by repeat (first | exact Drawn0.refl _ | apply Drawn0.step)⟩
 ·rw [if_neg c2] at H
  exact absurd H (by simp)
/-! ### impl_isSet: function 67 -/
def impl_isSet.f (a0 : Int) (a1 : Int) : Option (Bool) := if a1 ≥ 0 then ((impl_fullSet.f a0).bind fun t497 => (some (decide (a1 ≤ t497)))) else (some false)
set_option maxHeartbeats 8000000 in
set_option maxRecDepth 100000 in
theorem impl_isSet.calls (a0 : Int) (a1 : Int) (r : Bool) (w : World) (h : impl_isSet.f a0 a1 = some r) :
  Calls Try.prog 67 #[.int .i64 a0, .int .i64 a1] w fun e w' => e = .returned (.bool r) ∧ Drawn0 w w' := by
 have H : (if a1 ≥ 0 then ((impl_fullSet.f a0).bind fun t497 => (some (decide (a1 ≤ t497)))) else (some false)) = some r := h
 clear h
 by_cases c3 : a1 ≥ 0
 ·rw [if_pos c3] at H
  have c3b0 : decide (0 ≤ a1) = true := decide_eq_true c3
  clear c3
  replace H := Option.bind_eq_some_iff.mp H
  obtain ⟨t497, A40, H⟩ := H
  replace H : (some (decide (a1 ≤ t497))) = some r := H
  have A4 := Aside0.mk A40
  clear A40
  obtain rfl := Option.some.inj H
  go_enter Try.func67, Try.ntmps67
  go_wp2_with (first | (go_at_call 71; (with_reducible refine (impl_fullSet.calls a0 t497 _ A4.out).mono ?_); rintro e w' ⟨rfl, ⟨nd, rfl⟩⟩))
  go_ret
  exact ⟨by first | rfl | (simp; done) | (simp [*]; done), by repeat (first | exact Drawn0.refl _ | apply Drawn0.step)⟩
 ·rw [if_neg c3] at H
  have c3b0 : decide (0 ≤ a1) = false := decide_eq_false c3
  clear c3
  obtain rfl := Option.some.inj H
  go_enter Try.func67, Try.ntmps67
  go_wp2
  go_ret
  exact ⟨by first | rfl | (simp; done) | (simp [*]; done), by repeat (first | exact Drawn0.refl _ | apply Drawn0.step)⟩
/-! ### impl_chi_inHull: function 69 -/
def impl_chi_inHull.l0 : Nat → List Int → Int → Int → List (S67) → Int → Int → Option (Bool)
 | 0, _, _, _, _, _, _ => none
 | k + 1, x0, x1, x2, x14, x15, x16 => if x16 < x15 then (if 0 ≤ x16 then (if x16 < (x14.length : Int) then (if 0 ≤ ((rd_T67 x14 x16).f0) then (if 0 ≤ ((rd_T67 x14 x16).f1) then (if 0 ≤ ((rd_T67 x14 x16).f2) then (if (Go.bits .and .i64 x1 (Go.bits .or .i64 (Go.bits .or .i64 (shl .i64 1 ((rd_T67 x14 x16).f0)) (shl .i64 1 ((rd_T67 x14 x16).f1))) (shl .i64 1 ((rd_T67 x14 x16).f2)))) = (Go.bits .or .i64 (Go.bits .or .i64 (shl .i64 1 ((rd_T67 x14 x16).f0)) (shl .i64 1 ((rd_T67 x14 x16).f1))) (shl .i64 1 ((rd_T67 x14 x16).f2))) then ((impl_chi_isInside.f k x0 x2 ((rd_T67 x14 x16).f0) ((rd_T67 x14 x16).f1) ((rd_T67 x14 x16).f2)).bind fun t504 => (if t504 = true then (some true) else (impl_chi_inHull.l0 k x0 x1 x2 x14 x15 (wrap64 (x16 + 1))))) else (impl_chi_inHull.l0 k x0 x1 x2 x14 x15 (wrap64 (x16 + 1)))) else (none)) else (none)) else (none)) else (none)) else (none)) else (some false)
def impl_chi_inHull.f (k : Nat) (l0 : List Int) (a1 : Int) (a2 : Int) : Option (Bool) := (impl_triplesOf.f k (rd l0 0)).bind fun t499 => (impl_chi_inHull.l0 k l0 a1 a2 t499 (t499.length : Int) 0)
theorem impl_chi_inHull.mono_l : ∀ k, (∀ y0 y1 y2 y3 y4 y5, LeO (impl_chi_inHull.l0 k y0 y1 y2 y3 y4 y5) (impl_chi_inHull.l0 (k + 1) y0 y1 y2 y3 y4 y5))
 | 0 => fun _ _ _ _ _ _ r h => by simp [impl_chi_inHull.l0] at h
 | k + 1 => by
  have ih0 := impl_chi_inHull.mono_l k
  ·intro y0 y1 y2 y3 y4 y5
   unfold impl_chi_inHull.l0
   repeat' first
   | (with_reducible exact ih0 _ _ _ _ _ _)
   | (with_reducible exact impl_chi_isInside.mono _ _ _ _ _ _)
   | (with_reducible exact impl_triplesOf.mono _ _)
   | (with_reducible exact LeO.refl _)
   | (with_reducible exact LeO.none _)
   | (with_reducible refine LeO.ite ?_ ?_)
   | (with_reducible refine LeO.bind ?_ (fun _ => ?_))
   | exact ih0 _ _ _ _ _ _
   | exact impl_chi_isInside.mono _ _ _ _ _ _
   | exact impl_triplesOf.mono _ _
   | exact LeO.none _
   | refine LeO.ite ?_ ?_
   | refine LeO.bind ?_ (fun _ => ?_)
theorem impl_chi_inHull.mono : ∀ a0 a1 a2 k, LeO (impl_chi_inHull.f k a0 a1 a2) (impl_chi_inHull.f (k + 1) a0 a1 a2) := by
 intro a0 a1 a2 k
 have ih0 := impl_chi_inHull.mono_l k
 unfold impl_chi_inHull.f
 repeat' first
   | (with_reducible exact ih0 _ _ _ _ _ _)
   | (with_reducible exact impl_chi_isInside.mono _ _ _ _ _ _)
   | (with_reducible exact impl_triplesOf.mono _ _)
   | (with_reducible exact LeO.refl _)
   | (with_reducible exact LeO.none _)
   | (with_reducible refine LeO.ite ?_ ?_)
   | (with_reducible refine LeO.bind ?_ (fun _ => ?_))
   | exact ih0 _ _ _ _ _ _
   | exact impl_chi_isInside.mono _ _ _ _ _ _
   | exact impl_triplesOf.mono _ _
   | exact LeO.none _
   | refine LeO.ite ?_ ?_
   | refine LeO.bind ?_ (fun _ => ?_)
set_option maxHeartbeats 8000000 in
set_option maxRecDepth 100000 in
theorem impl_chi_inHull.calls (k : Nat) (g0 : Nat) (l0 : List Int) (a1 : Int) (a2 : Int) (r : Bool) (w : World) (hr0 : Kd.C (Kd.int .i64) w (some ⟨g0, 0, none⟩) l0.length l0) (hc0 : l0.length = 344) (h : impl_chi_inHull.f k l0 a1 a2 = some r) :
  Calls Try.prog 69 #[.pointer (some ⟨g0, 0, none⟩), .int .i64 a1, .int .i64 a2] w fun e w' => e = .returned (.bool r) ∧ Below w.heap.size w w' := by
 have hu67 := Try.underlying67
 have hu84 := Try.underlying84
 have HR0 := Aside0.mk hr0
 have HC0 := Aside0.mk hc0
 clear hr0 hc0
 have HB := Aside0.mk (Below.refl w.heap.size w)
 have H : ((impl_triplesOf.f k (rd l0 0)).bind fun t499 => (impl_chi_inHull.l0 k l0 a1 a2 t499 (t499.length : Int) 0)) = some r := h
 clear h
 replace H := Option.bind_eq_some_iff.mp H
 obtain ⟨t499, A40, H⟩ := H
 replace H : (impl_chi_inHull.l0 k l0 a1 a2 t499 (t499.length : Int) 0) = some r := H
 have A4 := Aside0.mk A40
 clear A40
 have H' := Aside0.mk H
 clear H
 have hL498 := HC0.out
 have dq498 : decide (0 < (l0.length : Int)) = true := decide_eq_true (by omega)
 clear hL498
 have p498 : 0 ≤ (0 : Int) := (by omega)
 have q498 : 0 < (l0.length : Int) := zA
 obtain ⟨ad498, e498, hx498_0⟩ := Kd.at_int HR0.out 0 p498 q498
 obtain rfl : (⟨g0, 0, none⟩ : Addr) = ad498 := (by injection e498)
 (first | simp only [add_plain] at hx498_0 | simp only [add_at] at hx498_0 | simp only [Addr.add, Nat.zero_add] at hx498_0 | skip)
 have qi498 : (0 < l0.length) = True := eq_true (by omega)
 (try rw [show ((0 : Int)).toNat = 0 from rfl] at hx498_0)
 (try rw [Addr.add_zero'] at hx498_0)
 replace p498 := eq_true p498
 replace q498 := eq_true q498
 clear dq498
 go_enter Try.func69, Try.ntmps69
 go_wp2_with (first | (go_at_call 63; (with_reducible refine (impl_triplesOf.calls k (rd l0 0) t499 _ A4.out).mono ?_); rintro e w5 ⟨v500, rfl, ho0, hb⟩; have n0_ := Aside0.mk (Kd.R_lower ho0 (below_size zB)); have n1_ := Aside0.mk (below_step zB hb); clear HB; have HO501 := n0_; have HB := n1_; clear n0_ n1_; (try clear hb); (try clear hb2); (try clear hk); (try clear hi); (try clear ho0); obtain ⟨Ao6, co6, eo6⟩ := Kd.R_slice HO501.out; subst eo6))
 repeat (go_quiet (first | (go_at_call 63; (with_reducible refine (impl_triplesOf.calls k (rd l0 0) t499 _ A4.out).mono ?_); rintro e w5 ⟨v500, rfl, ho0, hb⟩; have n0_ := Aside0.mk (Kd.R_lower ho0 (below_size zB)); have n1_ := Aside0.mk (below_step zB hb); clear HB; have HO501 := n0_; have HB := n1_; clear n0_ n1_; (try clear hb); (try clear hb2); (try clear hk); (try clear hi); (try clear ho0); obtain ⟨Ao6, co6, eo6⟩ := Kd.R_slice HO501.out; subst eo6)); try go_wp2_with (first | (go_at_call 63; (with_reducible refine (impl_triplesOf.calls k (rd l0 0) t499 _ A4.out).mono ?_); rintro e w5 ⟨v500, rfl, ho0, hb⟩; have n0_ := Aside0.mk (Kd.R_lower ho0 (below_size zB)); have n1_ := Aside0.mk (below_step zB hb); clear HB; have HO501 := n0_; have HB := n1_; clear n0_ n1_; (try clear hb); (try clear hb2); (try clear hk); (try clear hi); (try clear ho0); obtain ⟨Ao6, co6, eo6⟩ := Kd.R_slice HO501.out; subst eo6)))
 go_loopg [16] k (fun kq v16 w' => ∃ (x16_1 : Int), v16 = .int .i64 x16_1 ∧ Aside0 (impl_chi_inHull.l0 kq l0 a1 a2 t499 (t499.length : Int) x16_1 = some r) ∧ Aside0 (kq ≤ k) ∧ Aside0 (Kd.R k67 67 w' w.heap.size (fun _ => True) (.slice Ao6 t499.length co6) t499) ∧ Aside0 (Below w.heap.size w w'))
 case atStart => exact ⟨(0), zF, H', ⟨Nat.le_refl _⟩, ⟨zR HO501.out⟩, ⟨zB⟩⟩
 case round =>
  clear H'
  try clear p2
  try clear p4
  try clear q4
  try clear hx4
  try clear qi4
  try clear c6
  try clear hx498_0
  try clear p498
  try clear q498
  obtain ⟨x16_1, rfl, HA, HK1, HO_14, HB⟩ := hrel
  cases gk with
  | zero => exact absurd HA.out (by simp [impl_chi_inHull.l0])
  | succ k1 =>
   have H := HA.out
   clear HA
   simp only [impl_chi_inHull.l0] at H
   by_cases c7 : x16_1 < (t499.length : Int)
   ·rw [if_pos c7] at H
    have c7b0 : decide (x16_1 < (t499.length : Int)) = true := decide_eq_true c7
    clear c7
    by_cases c8 : 0 ≤ x16_1
    ·rw [if_pos c8] at H
     have c8b0 : decide (0 ≤ x16_1) = true := decide_eq_true c8
     clear c8
     by_cases c9 : x16_1 < (t499.length : Int)
     ·rw [if_pos c9] at H
      have c9b0 : decide (x16_1 < (t499.length : Int)) = true := decide_eq_true c9
      clear c9
      by_cases c10 : 0 ≤ ((rd_T67 t499 x16_1).f0)
      ·rw [if_pos c10] at H
       have c10b0 := eq_true c10
       have c10b1 : decide (0 ≤ ((rd_T67 t499 x16_1).f0)) = true := decide_eq_true c10
       clear c10
       obtain ⟨ji11, hji11⟩ : ∃ j_ : Int, (shl .i64 1 ((rd_T67 t499 x16_1).f0)) = j_ := ⟨_, rfl⟩
       replace H : (if 0 ≤ ((rd_T67 t499 x16_1).f1) then (if 0 ≤ ((rd_T67 t499 x16_1).f2) then (if (Go.bits .and .i64 a1 (Go.bits .or .i64 (Go.bits .or .i64 (ji11) (shl .i64 1 ((rd_T67 t499 x16_1).f1))) (shl .i64 1 ((rd_T67 t499 x16_1).f2)))) = (Go.bits .or .i64 (Go.bits .or .i64 (ji11) (shl .i64 1 ((rd_T67 t499 x16_1).f1))) (shl .i64 1 ((rd_T67 t499 x16_1).f2))) then ((impl_chi_isInside.f k1 l0 a2 ((rd_T67 t499 x16_1).f0) ((rd_T67 t499 x16_1).f1) ((rd_T67 t499 x16_1).f2)).bind fun t504 => (if t504 = true then (some true) else (impl_chi_inHull.l0 k1 l0 a1 a2 t499 (t499.length : Int) (wrap64 (x16_1 + 1))))) else (impl_chi_inHull.l0 k1 l0 a1 a2 t499 (t499.length : Int) (wrap64 (x16_1 + 1)))) else (none)) else (none)) = some r := by first | (rw [hji11] at H; exact H) | (simp only [hji11] at H ⊢; exact H)
       have hji11_ : (IntKind.i64.wrap (1 * 2 ^ min ((rd_T67 t499 x16_1).f0).toNat 64)) = ji11 := hji11
       have hji11z : ((rd_T67 t499 x16_1).f0) ≤ 64 → (IntKind.i64.wrap (1 * 2 ^ ((rd_T67 t499 x16_1).f0).toNat)) = ji11 := shl_small hji11
       have hji11u : (IntKind.i64.wrap (2 ^ min ((rd_T67 t499 x16_1).f0).toNat 64)) = ji11 := by have h_ := hji11_; rw [Int.one_mul] at h_; exact h_
       have hji11v : ((rd_T67 t499 x16_1).f0) ≤ 64 → (IntKind.i64.wrap (2 ^ ((rd_T67 t499 x16_1).f0).toNat)) = ji11 := fun hle_ => by have h_ := hji11z hle_; rw [Int.one_mul] at h_; exact h_
       have hji11y : (wrap64 (1 * 2 ^ min ((rd_T67 t499 x16_1).f0).toNat 64)) = ji11 := (i64_w _).symm.trans hji11_
       have hji11x : ((rd_T67 t499 x16_1).f0) ≤ 64 → (wrap64 (1 * 2 ^ ((rd_T67 t499 x16_1).f0).toNat)) = ji11 := fun h_ => (i64_w _).symm.trans (hji11z h_)
       by_cases c12 : 0 ≤ ((rd_T67 t499 x16_1).f1)
       ·rw [if_pos c12] at H
        have c12b0 := eq_true c12
        have c12b1 : decide (0 ≤ ((rd_T67 t499 x16_1).f1)) = true := decide_eq_true c12
        clear c12
        obtain ⟨ji13, hji13⟩ : ∃ j_ : Int, (shl .i64 1 ((rd_T67 t499 x16_1).f1)) = j_ := ⟨_, rfl⟩
        replace H : (if 0 ≤ ((rd_T67 t499 x16_1).f2) then (if (Go.bits .and .i64 a1 (Go.bits .or .i64 (Go.bits .or .i64 (ji11) (ji13)) (shl .i64 1 ((rd_T67 t499 x16_1).f2)))) = (Go.bits .or .i64 (Go.bits .or .i64 (ji11) (ji13)) (shl .i64 1 ((rd_T67 t499 x16_1).f2))) then ((impl_chi_isInside.f k1 l0 a2 ((rd_T67 t499 x16_1).f0) ((rd_T67 t499 x16_1).f1) ((rd_T67 t499 x16_1).f2)).bind fun t504 => (if t504 = true then (some true) else (impl_chi_inHull.l0 k1 l0 a1 a2 t499 (t499.length : Int) (wrap64 (x16_1 + 1))))) else (impl_chi_inHull.l0 k1 l0 a1 a2 t499 (t499.length : Int) (wrap64 (x16_1 + 1)))) else (none)) = some r := by first | (rw [hji13] at H; exact H) | (simp only [hji13] at H ⊢; exact H)
        have hji13_ : (IntKind.i64.wrap (1 * 2 ^ min ((rd_T67 t499 x16_1).f1).toNat 64)) = ji13 := hji13
        have hji13z : ((rd_T67 t499 x16_1).f1) ≤ 64 → (IntKind.i64.wrap (1 * 2 ^ ((rd_T67 t499 x16_1).f1).toNat)) = ji13 := shl_small hji13
        have hji13u : (IntKind.i64.wrap (2 ^ min ((rd_T67 t499 x16_1).f1).toNat 64)) = ji13 := by have h_ := hji13_; rw [Int.one_mul] at h_; exact h_
        have hji13v : ((rd_T67 t499 x16_1).f1) ≤ 64 → (IntKind.i64.wrap (2 ^ ((rd_T67 t499 x16_1).f1).toNat)) = ji13 := fun hle_ => by have h_ := hji13z hle_; rw [Int.one_mul] at h_; exact h_
        have hji13y : (wrap64 (1 * 2 ^ min ((rd_T67 t499 x16_1).f1).toNat 64)) = ji13 := (i64_w _).symm.trans hji13_
        have hji13x : ((rd_T67 t499 x16_1).f1) ≤ 64 → (wrap64 (1 * 2 ^ ((rd_T67 t499 x16_1).f1).toNat)) = ji13 := fun h_ => (i64_w _).symm.trans (hji13z h_)
        by_cases c14 : 0 ≤ ((rd_T67 t499 x16_1).f2)
        ·rw [if_pos c14] at H
         have c14b0 := eq_true c14
         have c14b1 : decide (0 ≤ ((rd_T67 t499 x16_1).f2)) = true := decide_eq_true c14
         clear c14
         obtain ⟨ji15, hji15⟩ : ∃ j_ : Int, (shl .i64 1 ((rd_T67 t499 x16_1).f2)) = j_ := ⟨_, rfl⟩
         replace H : (if (Go.bits .and .i64 a1 (Go.bits .or .i64 (Go.bits .or .i64 (ji11) (ji13)) (ji15))) = (Go.bits .or .i64 (Go.bits .or .i64 (ji11) (ji13)) (ji15)) then ((impl_chi_isInside.f k1 l0 a2 ((rd_T67 t499 x16_1).f0) ((rd_T67 t499 x16_1).f1) ((rd_T67 t499 x16_1).f2)).bind fun t504 => (if t504 = true then (some true) else (impl_chi_inHull.l0 k1 l0 a1 a2 t499 (t499.length : Int) (wrap64 (x16_1 + 1))))) else (impl_chi_inHull.l0 k1 l0 a1 a2 t499 (t499.length : Int) (wrap64 (x16_1 + 1)))) = some r := by first | (rw [hji15] at H; exact H) | (simp only [hji15] at H ⊢; exact H)
         have hji15_ : (IntKind.i64.wrap (1 * 2 ^ min ((rd_T67 t499 x16_1).f2).toNat 64)) = ji15 := hji15
         have hji15z : ((rd_T67 t499 x16_1).f2) ≤ 64 → (IntKind.i64.wrap (1 * 2 ^ ((rd_T67 t499 x16_1).f2).toNat)) = ji15 := shl_small hji15
         have hji15u : (IntKind.i64.wrap (2 ^ min ((rd_T67 t499 x16_1).f2).toNat 64)) = ji15 := by have h_ := hji15_; rw [Int.one_mul] at h_; exact h_
         have hji15v : ((rd_T67 t499 x16_1).f2) ≤ 64 → (IntKind.i64.wrap (2 ^ ((rd_T67 t499 x16_1).f2).toNat)) = ji15 := fun hle_ => by have h_ := hji15z hle_; rw [Int.one_mul] at h_; exact h_
         have hji15y : (wrap64 (1 * 2 ^ min ((rd_T67 t499 x16_1).f2).toNat 64)) = ji15 := (i64_w _).symm.trans hji15_
         have hji15x : ((rd_T67 t499 x16_1).f2) ≤ 64 → (wrap64 (1 * 2 ^ ((rd_T67 t499 x16_1).f2).toNat)) = ji15 := fun h_ => (i64_w _).symm.trans (hji15z h_)
         by_cases c16 : (Go.bits .and .i64 a1 (Go.bits .or .i64 (Go.bits .or .i64 (ji11) (ji13)) (ji15))) = (Go.bits .or .i64 (Go.bits .or .i64 (ji11) (ji13)) (ji15))
         ·rw [if_pos c16] at H
          have c16b0 : ((Go.bits .and .i64 a1 (Go.bits .or .i64 (Go.bits .or .i64 (ji11) (ji13)) (ji15))) == (Go.bits .or .i64 (Go.bits .or .i64 (ji11) (ji13)) (ji15))) = true := beq_iff_eq.mpr c16
          have c16b1 : ((Go.bits .and .i64 a1 (Go.bits .or .i64 (Go.bits .or .i64 (ji11) (ji13)) (ji15))) != (Go.bits .or .i64 (Go.bits .or .i64 (ji11) (ji13)) (ji15))) = false := bne_eq_false_iff_eq.mpr c16
          clear c16
          replace H := Option.bind_eq_some_iff.mp H
          obtain ⟨t504, A170, H⟩ := H
          replace H : (if t504 = true then (some true) else (impl_chi_inHull.l0 k1 l0 a1 a2 t499 (t499.length : Int) (wrap64 (x16_1 + 1)))) = some r := H
          have A17 := Aside0.mk A170
          clear A170
          by_cases c18 : t504 = true
          ·subst c18
           have H1 : (some true) = some r := by rw [if_pos rfl] at H; exact H
           clear H
           have H := H1
           clear H1
           obtain rfl := Option.some.inj H
           have p502 : 0 ≤ (x16_1 : Int) := zA
           have q502 : x16_1 < (t499.length : Int) := zA
           obtain ⟨ad502, e502, hx502_0, hx502_1, hx502_2⟩ := at_T67 (Kd.R_reads' HO_14.out).2.2 x16_1 p502 q502
           cases e502
           replace p502 := eq_true p502
           replace q502 := eq_true q502
           go_wp2_with (first | ((with_reducible refine gate_dst (N := 8) rfl ?_); refine box_event ?hg (N := 8) ?hd (cs := #[.int .i64 0, .int .i64 0, .int .i64 0]) (t := 67) ?hr ?_; (case hd => rfl); (case hg => rfl); (case hr => first | (go_simp; done) | (go_simp; rfl)); intro gb503 hg w19 hbox hb; have n0_ := Aside0.mk (Kd.R_below (Kd.R_elderB (zR HO_14.out) gb503 (Nat.le_of_eq hg.symm)) hb); have n1_ := Aside0.mk (below_step zB hb); have n2_ := Aside0.mk (hbox); have n3_ := Aside0.mk ((by rw [hg]; exact (below_size zB) : w.heap.size ≤ gb503)); have n4_ := Aside0.mk ((by rw [hg]; exact (below_size zB) : w.heap.size ≤ gb503)); clear HO_14; clear HB; have HO_14 := n0_; have HB := n1_; have BK503 := n2_; have GW503 := n3_; have GE503 := n4_; clear n0_ n1_ n2_ n3_ n4_; clear hb hbox hg; have hcz20_0 : w19.cell? ⟨gb503, 0, none⟩ = some (.int .i64 0) := (blk_cell BK503.out 0).trans rfl; have hcz20_1 : w19.cell? ⟨gb503, 1, none⟩ = some (.int .i64 0) := (blk_cell BK503.out 1).trans rfl; have hcz20_2 : w19.cell? ⟨gb503, 2, none⟩ = some (.int .i64 0) := (blk_cell BK503.out 2).trans rfl; have hfz20_0 := blk_frozen BK503.out 0; have hfz20_1 := blk_frozen BK503.out 1; have hfz20_2 := blk_frozen BK503.out 2) | (go_at_call 59; (with_reducible refine (impl_chi_isInside.calls k1 _ l0 a2 ((rd_T67 t499 x16_1).f0) ((rd_T67 t499 x16_1).f1) ((rd_T67 t499 x16_1).f2) true _ ?side1 ?side2 A17.out).mono ?_); (case side1 => exact Kd.C_below HR0.out (zG GE503.out)); (case side2 => exact HC0.out); rintro e w21 ⟨rfl, hb⟩; have n0_ := Aside0.mk (Kd.R_below (by (with_reducible repeat (first | apply Kd.R_alloc | apply Kd.R_drewN | apply Kd.R_drew)); exact (Kd.R_mono (Kd.R_far (p := ⟨gb503, 2, none⟩) (Kd.R_far (p := ⟨gb503, 1, none⟩) (Kd.R_far (p := ⟨gb503, 0, none⟩) (Kd.R_mono HO_14.out (fun k_ hk => (⟨hk, hk.2⟩ : _ ∧ k_ ≠ gb503))) (fun _ hk => hk.2) (.int .i64 ((rd_T67 t499 x16_1).f0))) (fun _ hk => hk.2) (.int .i64 ((rd_T67 t499 x16_1).f1))) (fun _ hk => hk.2) (.int .i64 ((rd_T67 t499 x16_1).f2))) (fun _ h_ => h_.1))) hb); have n1_ := Aside0.mk (blk_below (g := gb503) (o := .cells #[.int .i64 ((rd_T67 t499 x16_1).f0), .int .i64 ((rd_T67 t499 x16_1).f1), .int .i64 ((rd_T67 t499 x16_1).f2)] 67 (0, 0)) (by (with_reducible repeat (first | refine blk_drewN ?_ _ | refine blk_drew ?_ | refine blk_alloc ?_ _)); refine blk_put (cs := #[.int .i64 ((rd_T67 t499 x16_1).f0), .int .i64 ((rd_T67 t499 x16_1).f1), .int .i64 0]) ?_ 2 _ rfl; (with_reducible repeat (first | refine blk_drewN ?_ _ | refine blk_drew ?_ | refine blk_alloc ?_ _)); refine blk_put (cs := #[.int .i64 ((rd_T67 t499 x16_1).f0), .int .i64 0, .int .i64 0]) ?_ 1 _ rfl; (with_reducible repeat (first | refine blk_drewN ?_ _ | refine blk_drew ?_ | refine blk_alloc ?_ _)); refine blk_put (cs := #[.int .i64 0, .int .i64 0, .int .i64 0]) ?_ 0 _ rfl; (with_reducible repeat (first | refine blk_drewN ?_ _ | refine blk_drew ?_ | refine blk_alloc ?_ _)); exact BK503.out) hb); have n2_ := Aside0.mk (below_step (zG GE503.out) hb); clear HO_14; clear BK503; clear HB; have HO_14 := n0_; have BK503 := n1_; have HB := n2_; clear n0_ n1_ n2_; (try clear hb); (try clear hb2); (try clear hk); (try clear hi)))
           repeat (go_quiet (first | ((with_reducible refine gate_dst (N := 8) rfl ?_); refine box_event ?hg (N := 8) ?hd (cs := #[.int .i64 0, .int .i64 0, .int .i64 0]) (t := 67) ?hr ?_; (case hd => rfl); (case hg => rfl); (case hr => first | (go_simp; done) | (go_simp; rfl)); intro gb503 hg w19 hbox hb; have n0_ := Aside0.mk (Kd.R_below (Kd.R_elderB (zR HO_14.out) gb503 (Nat.le_of_eq hg.symm)) hb); have n1_ := Aside0.mk (below_step zB hb); have n2_ := Aside0.mk (hbox); have n3_ := Aside0.mk ((by rw [hg]; exact (below_size zB) : w.heap.size ≤ gb503)); have n4_ := Aside0.mk ((by rw [hg]; exact (below_size zB) : w.heap.size ≤ gb503)); clear HO_14; clear HB; have HO_14 := n0_; have HB := n1_; have BK503 := n2_; have GW503 := n3_; have GE503 := n4_; clear n0_ n1_ n2_ n3_ n4_; clear hb hbox hg; have hcz20_0 : w19.cell? ⟨gb503, 0, none⟩ = some (.int .i64 0) := (blk_cell BK503.out 0).trans rfl; have hcz20_1 : w19.cell? ⟨gb503, 1, none⟩ = some (.int .i64 0) := (blk_cell BK503.out 1).trans rfl; have hcz20_2 : w19.cell? ⟨gb503, 2, none⟩ = some (.int .i64 0) := (blk_cell BK503.out 2).trans rfl; have hfz20_0 := blk_frozen BK503.out 0; have hfz20_1 := blk_frozen BK503.out 1; have hfz20_2 := blk_frozen BK503.out 2) | (go_at_call 59; (with_reducible refine (impl_chi_isInside.calls k1 _ l0 a2 ((rd_T67 t499 x16_1).f0) ((rd_T67 t499 x16_1).f1) ((rd_T67 t499 x16_1).f2) true _ ?side1 ?side2 A17.out).mono ?_); (case side1 => exact Kd.C_below HR0.out (zG GE503.out)); (case side2 => exact HC0.out); rintro e w21 ⟨rfl, hb⟩; have n0_ := Aside0.mk (Kd.R_below (by (with_reducible repeat (first | apply Kd.R_alloc | apply Kd.R_drewN | apply Kd.R_drew)); exact (Kd.R_mono (Kd.R_far (p := ⟨gb503, 2, none⟩) (Kd.R_far (p := ⟨gb503, 1, none⟩) (Kd.R_far (p := ⟨gb503, 0, none⟩) (Kd.R_mono HO_14.out (fun k_ hk => (⟨hk, hk.2⟩ : _ ∧ k_ ≠ gb503))) (fun _ hk => hk.2) (.int .i64 ((rd_T67 t499 x16_1).f0))) (fun _ hk => hk.2) (.int .i64 ((rd_T67 t499 x16_1).f1))) (fun _ hk => hk.2) (.int .i64 ((rd_T67 t499 x16_1).f2))) (fun _ h_ => h_.1))) hb); have n1_ := Aside0.mk (blk_below (g := gb503) (o := .cells #[.int .i64 ((rd_T67 t499 x16_1).f0), .int .i64 ((rd_T67 t499 x16_1).f1), .int .i64 ((rd_T67 t499 x16_1).f2)] 67 (0, 0)) (by (with_reducible repeat (first | refine blk_drewN ?_ _ | refine blk_drew ?_ | refine blk_alloc ?_ _)); refine blk_put (cs := #[.int .i64 ((rd_T67 t499 x16_1).f0), .int .i64 ((rd_T67 t499 x16_1).f1), .int .i64 0]) ?_ 2 _ rfl; (with_reducible repeat (first | refine blk_drewN ?_ _ | refine blk_drew ?_ | refine blk_alloc ?_ _)); refine blk_put (cs := #[.int .i64 ((rd_T67 t499 x16_1).f0), .int .i64 0, .int .i64 0]) ?_ 1 _ rfl; (with_reducible repeat (first | refine blk_drewN ?_ _ | refine blk_drew ?_ | refine blk_alloc ?_ _)); refine blk_put (cs := #[.int .i64 0, .int .i64 0, .int .i64 0]) ?_ 0 _ rfl; (with_reducible repeat (first | refine blk_drewN ?_ _ | refine blk_drew ?_ | refine blk_alloc ?_ _)); exact BK503.out) hb); have n2_ := Aside0.mk (below_step (zG GE503.out) hb); clear HO_14; clear BK503; clear HB; have HO_14 := n0_; have BK503 := n1_; have HB := n2_; clear n0_ n1_ n2_; (try clear hb); (try clear hb2); (try clear hk); (try clear hi))); try go_wp2_with (first | ((with_reducible refine gate_dst (N := 8) rfl ?_); refine box_event ?hg (N := 8) ?hd (cs := #[.int .i64 0, .int .i64 0, .int .i64 0]) (t := 67) ?hr ?_; (case hd => rfl); (case hg => rfl); (case hr => first | (go_simp; done) | (go_simp; rfl)); intro gb503 hg w19 hbox hb; have n0_ := Aside0.mk (Kd.R_below (Kd.R_elderB (zR HO_14.out) gb503 (Nat.le_of_eq hg.symm)) hb); have n1_ := Aside0.mk (below_step zB hb); have n2_ := Aside0.mk (hbox); have n3_ := Aside0.mk ((by rw [hg]; exact (below_size zB) : w.heap.size ≤ gb503)); have n4_ := Aside0.mk ((by rw [hg]; exact (below_size zB) : w.heap.size ≤ gb503)); clear HO_14; clear HB; have HO_14 := n0_; have HB := n1_; have BK503 := n2_; have GW503 := n3_; have GE503 := n4_; clear n0_ n1_ n2_ n3_ n4_; clear hb hbox hg; have hcz20_0 : w19.cell? ⟨gb503, 0, none⟩ = some (.int .i64 0) := (blk_cell BK503.out 0).trans rfl; have hcz20_1 : w19.cell? ⟨gb503, 1, none⟩ = some (.int .i64 0) := (blk_cell BK503.out 1).trans rfl; have hcz20_2 : w19.cell? ⟨gb503, 2, none⟩ = some (.int .i64 0) := (blk_cell BK503.out 2).trans rfl; have hfz20_0 := blk_frozen BK503.out 0; have hfz20_1 := blk_frozen BK503.out 1; have hfz20_2 := blk_frozen BK503.out 2) | (go_at_call 59; (with_reducible refine (impl_chi_isInside.calls k1 _ l0 a2 ((rd_T67 t499 x16_1).f0) ((rd_T67 t499 x16_1).f1) ((rd_T67 t499 x16_1).f2) true _ ?side1 ?side2 A17.out).mono ?_); (case side1 => exact Kd.C_below HR0.out (zG GE503.out)); (case side2 => exact HC0.out); rintro e w21 ⟨rfl, hb⟩; have n0_ := Aside0.mk (Kd.R_below (by (with_reducible repeat (first | apply Kd.R_alloc | apply Kd.R_drewN | apply Kd.R_drew)); exact (Kd.R_mono (Kd.R_far (p := ⟨gb503, 2, none⟩) (Kd.R_far (p := ⟨gb503, 1, none⟩) (Kd.R_far (p := ⟨gb503, 0, none⟩) (Kd.R_mono HO_14.out (fun k_ hk => (⟨hk, hk.2⟩ : _ ∧ k_ ≠ gb503))) (fun _ hk => hk.2) (.int .i64 ((rd_T67 t499 x16_1).f0))) (fun _ hk => hk.2) (.int .i64 ((rd_T67 t499 x16_1).f1))) (fun _ hk => hk.2) (.int .i64 ((rd_T67 t499 x16_1).f2))) (fun _ h_ => h_.1))) hb); have n1_ := Aside0.mk (blk_below (g := gb503) (o := .cells #[.int .i64 ((rd_T67 t499 x16_1).f0), .int .i64 ((rd_T67 t499 x16_1).f1), .int .i64 ((rd_T67 t499 x16_1).f2)] 67 (0, 0)) (by (with_reducible repeat (first | refine blk_drewN ?_ _ | refine blk_drew ?_ | refine blk_alloc ?_ _)); refine blk_put (cs := #[.int .i64 ((rd_T67 t499 x16_1).f0), .int .i64 ((rd_T67 t499 x16_1).f1), .int .i64 0]) ?_ 2 _ rfl; (with_reducible repeat (first | refine blk_drewN ?_ _ | refine blk_drew ?_ | refine blk_alloc ?_ _)); refine blk_put (cs := #[.int .i64 ((rd_T67 t499 x16_1).f0), .int .i64 0, .int .i64 0]) ?_ 1 _ rfl; (with_reducible repeat (first | refine blk_drewN ?_ _ | refine blk_drew ?_ | refine blk_alloc ?_ _)); refine blk_put (cs := #[.int .i64 0, .int .i64 0, .int .i64 0]) ?_ 0 _ rfl; (with_reducible repeat (first | refine blk_drewN ?_ _ | refine blk_drew ?_ | refine blk_alloc ?_ _)); exact BK503.out) hb); have n2_ := Aside0.mk (below_step (zG GE503.out) hb); clear HO_14; clear BK503; clear HB; have HO_14 := n0_; have BK503 := n1_; have HB := n2_; clear n0_ n1_ n2_; (try clear hb); (try clear hb2); (try clear hk); (try clear hi))))
           go_ret
           exact ⟨by first | rfl | (simp [errW_none, errW_some] <;> rfl) | (simp only [← hji11, ← hji13, ← hji15]; first | rfl | (simp [errW_none, errW_some] <;> rfl)) | (simp [*, errW_none, errW_some] <;> rfl), zG GE503.out⟩
          ·replace c18 := Bool.eq_false_iff.mpr c18
           subst c18
           have H1 : (impl_chi_inHull.l0 k1 l0 a1 a2 t499 (t499.length : Int) (wrap64 (x16_1 + 1))) = some r := by rw [if_neg (show ¬ (false = true) by decide)] at H; exact H
           clear H
           have H := H1
           clear H1
           have H' := Aside0.mk H
           clear H
           have p502 : 0 ≤ (x16_1 : Int) := zA
           have q502 : x16_1 < (t499.length : Int) := zA
           obtain ⟨ad502, e502, hx502_0, hx502_1, hx502_2⟩ := at_T67 (Kd.R_reads' HO_14.out).2.2 x16_1 p502 q502
           cases e502
           replace p502 := eq_true p502
           replace q502 := eq_true q502
           go_wp2_with (first | ((with_reducible refine gate_dst (N := 8) rfl ?_); refine box_event ?hg (N := 8) ?hd (cs := #[.int .i64 0, .int .i64 0, .int .i64 0]) (t := 67) ?hr ?_; (case hd => rfl); (case hg => rfl); (case hr => first | (go_simp; done) | (go_simp; rfl)); intro gb503 hg w22 hbox hb; have n0_ := Aside0.mk (Kd.R_below (Kd.R_elderB (zR HO_14.out) gb503 (Nat.le_of_eq hg.symm)) hb); have n1_ := Aside0.mk (below_step zB hb); have n2_ := Aside0.mk (hbox); have n3_ := Aside0.mk ((by rw [hg]; exact (below_size zB) : w.heap.size ≤ gb503)); have n4_ := Aside0.mk ((by rw [hg]; exact (below_size zB) : w.heap.size ≤ gb503)); clear HO_14; clear HB; have HO_14 := n0_; have HB := n1_; have BK503 := n2_; have GW503 := n3_; have GE503 := n4_; clear n0_ n1_ n2_ n3_ n4_; clear hb hbox hg; have hcz23_0 : w22.cell? ⟨gb503, 0, none⟩ = some (.int .i64 0) := (blk_cell BK503.out 0).trans rfl; have hcz23_1 : w22.cell? ⟨gb503, 1, none⟩ = some (.int .i64 0) := (blk_cell BK503.out 1).trans rfl; have hcz23_2 : w22.cell? ⟨gb503, 2, none⟩ = some (.int .i64 0) := (blk_cell BK503.out 2).trans rfl; have hfz23_0 := blk_frozen BK503.out 0; have hfz23_1 := blk_frozen BK503.out 1; have hfz23_2 := blk_frozen BK503.out 2) | (go_at_call 59; (with_reducible refine (impl_chi_isInside.calls k1 _ l0 a2 ((rd_T67 t499 x16_1).f0) ((rd_T67 t499 x16_1).f1) ((rd_T67 t499 x16_1).f2) false _ ?side1 ?side2 A17.out).mono ?_); (case side1 => exact Kd.C_below HR0.out (zG GE503.out)); (case side2 => exact HC0.out); rintro e w24 ⟨rfl, hb⟩; have n0_ := Aside0.mk (Kd.R_below (by (with_reducible repeat (first | apply Kd.R_alloc | apply Kd.R_drewN | apply Kd.R_drew)); exact (Kd.R_mono (Kd.R_far (p := ⟨gb503, 2, none⟩) (Kd.R_far (p := ⟨gb503, 1, none⟩) (Kd.R_far (p := ⟨gb503, 0, none⟩) (Kd.R_mono HO_14.out (fun k_ hk => (⟨hk, hk.2⟩ : _ ∧ k_ ≠ gb503))) (fun _ hk => hk.2) (.int .i64 ((rd_T67 t499 x16_1).f0))) (fun _ hk => hk.2) (.int .i64 ((rd_T67 t499 x16_1).f1))) (fun _ hk => hk.2) (.int .i64 ((rd_T67 t499 x16_1).f2))) (fun _ h_ => h_.1))) hb); have n1_ := Aside0.mk (blk_below (g := gb503) (o := .cells #[.int .i64 ((rd_T67 t499 x16_1).f0), .int .i64 ((rd_T67 t499 x16_1).f1), .int .i64 ((rd_T67 t499 x16_1).f2)] 67 (0, 0)) (by (with_reducible repeat (first | refine blk_drewN ?_ _ | refine blk_drew ?_ | refine blk_alloc ?_ _)); refine blk_put (cs := #[.int .i64 ((rd_T67 t499 x16_1).f0), .int .i64 ((rd_T67 t499 x16_1).f1), .int .i64 0]) ?_ 2 _ rfl; (with_reducible repeat (first | refine blk_drewN ?_ _ | refine blk_drew ?_ | refine blk_alloc ?_ _)); refine blk_put (cs := #[.int .i64 ((rd_T67 t499 x16_1).f0), .int .i64 0, .int .i64 0]) ?_ 1 _ rfl; (with_reducible repeat (first | refine blk_drewN ?_ _ | refine blk_drew ?_ | refine blk_alloc ?_ _)); refine blk_put (cs := #[.int .i64 0, .int .i64 0, .int .i64 0]) ?_ 0 _ rfl; (with_reducible repeat (first | refine blk_drewN ?_ _ | refine blk_drew ?_ | refine blk_alloc ?_ _)); exact BK503.out) hb); have n2_ := Aside0.mk (below_step (zG GE503.out) hb); clear HO_14; clear BK503; clear HB; have HO_14 := n0_; have BK503 := n1_; have HB := n2_; clear n0_ n1_ n2_; (try clear hb); (try clear hb2); (try clear hk); (try clear hi)))
           repeat (go_quiet (first | ((with_reducible refine gate_dst (N := 8) rfl ?_); refine box_event ?hg (N := 8) ?hd (cs := #[.int .i64 0, .int .i64 0, .int .i64 0]) (t := 67) ?hr ?_; (case hd => rfl); (case hg => rfl); (case hr => first | (go_simp; done) | (go_simp; rfl)); intro gb503 hg w22 hbox hb; have n0_ := Aside0.mk (Kd.R_below (Kd.R_elderB (zR HO_14.out) gb503 (Nat.le_of_eq hg.symm)) hb); have n1_ := Aside0.mk (below_step zB hb); have n2_ := Aside0.mk (hbox); have n3_ := Aside0.mk ((by rw [hg]; exact (below_size zB) : w.heap.size ≤ gb503)); have n4_ := Aside0.mk ((by rw [hg]; exact (below_size zB) : w.heap.size ≤ gb503)); clear HO_14; clear HB; have HO_14 := n0_; have HB := n1_; have BK503 := n2_; have GW503 := n3_; have GE503 := n4_; clear n0_ n1_ n2_ n3_ n4_; clear hb hbox hg; have hcz23_0 : w22.cell? ⟨gb503, 0, none⟩ = some (.int .i64 0) := (blk_cell BK503.out 0).trans rfl; have hcz23_1 : w22.cell? ⟨gb503, 1, none⟩ = some (.int .i64 0) := (blk_cell BK503.out 1).trans rfl; have hcz23_2 : w22.cell? ⟨gb503, 2, none⟩ = some (.int .i64 0) := (blk_cell BK503.out 2).trans rfl; have hfz23_0 := blk_frozen BK503.out 0; have hfz23_1 := blk_frozen BK503.out 1; have hfz23_2 := blk_frozen BK503.out 2) | (go_at_call 59; (with_reducible refine (impl_chi_isInside.calls k1 _ l0 a2 ((rd_T67 t499 x16_1).f0) ((rd_T67 t499 x16_1).f1) ((rd_T67 t499 x16_1).f2) false _ ?side1 ?side2 A17.out).mono ?_); (case side1 => exact Kd.C_below HR0.out (zG GE503.out)); (case side2 => exact HC0.out); rintro e w24 ⟨rfl, hb⟩; have n0_ := Aside0.mk (Kd.R_below (by (with_reducible repeat (first | apply Kd.R_alloc | apply Kd.R_drewN | apply Kd.R_drew)); exact (Kd.R_mono (Kd.R_far (p := ⟨gb503, 2, none⟩) (Kd.R_far (p := ⟨gb503, 1, none⟩) (Kd.R_far (p := ⟨gb503, 0, none⟩) (Kd.R_mono HO_14.out (fun k_ hk => (⟨hk, hk.2⟩ : _ ∧ k_ ≠ gb503))) (fun _ hk => hk.2) (.int .i64 ((rd_T67 t499 x16_1).f0))) (fun _ hk => hk.2) (.int .i64 ((rd_T67 t499 x16_1).f1))) (fun _ hk => hk.2) (.int .i64 ((rd_T67 t499 x16_1).f2))) (fun _ h_ => h_.1))) hb); have n1_ := Aside0.mk (blk_below (g := gb503) (o := .cells #[.int .i64 ((rd_T67 t499 x16_1).f0), .int .i64 ((rd_T67 t499 x16_1).f1), .int .i64 ((rd_T67 t499 x16_1).f2)] 67 (0, 0)) (by (with_reducible repeat (first | refine blk_drewN ?_ _ | refine blk_drew ?_ | refine blk_alloc ?_ _)); refine blk_put (cs := #[.int .i64 ((rd_T67 t499 x16_1).f0), .int .i64 ((rd_T67 t499 x16_1).f1), .int .i64 0]) ?_ 2 _ rfl; (with_reducible repeat (first | refine blk_drewN ?_ _ | refine blk_drew ?_ | refine blk_alloc ?_ _)); refine blk_put (cs := #[.int .i64 ((rd_T67 t499 x16_1).f0), .int .i64 0, .int .i64 0]) ?_ 1 _ rfl; (with_reducible repeat (first | refine blk_drewN ?_ _ | refine blk_drew ?_ | refine blk_alloc ?_ _)); refine blk_put (cs := #[.int .i64 0, .int .i64 0, .int .i64 0]) ?_ 0 _ rfl; (with_reducible repeat (first | refine blk_drewN ?_ _ | refine blk_drew ?_ | refine blk_alloc ?_ _)); exact BK503.out) hb); have n2_ := Aside0.mk (below_step (zG GE503.out) hb); clear HO_14; clear BK503; clear HB; have HO_14 := n0_; have BK503 := n1_; have HB := n2_; clear n0_ n1_ n2_; (try clear hb); (try clear hb2); (try clear hk); (try clear hi))); try go_wp2_with (first | ((with_reducible refine gate_dst (N := 8) rfl ?_); refine box_event ?hg (N := 8) ?hd (cs := #[.int .i64 0, .int .i64 0, .int .i64 0]) (t := 67) ?hr ?_; (case hd => rfl); (case hg => rfl); (case hr => first | (go_simp; done) | (go_simp; rfl)); intro gb503 hg w22 hbox hb; have n0_ := Aside0.mk (Kd.R_below (Kd.R_elderB (zR HO_14.out) gb503 (Nat.le_of_eq hg.symm)) hb); have n1_ := Aside0.mk (below_step zB hb); have n2_ := Aside0.mk (hbox); have n3_ := Aside0.mk ((by rw [hg]; exact (below_size zB) : w.heap.size ≤ gb503)); have n4_ := Aside0.mk ((by rw [hg]; exact (below_size zB) : w.heap.size ≤ gb503)); clear HO_14; clear HB; have HO_14 := n0_; have HB := n1_; have BK503 := n2_; have GW503 := n3_; have GE503 := n4_; clear n0_ n1_ n2_ n3_ n4_; clear hb hbox hg; have hcz23_0 : w22.cell? ⟨gb503, 0, none⟩ = some (.int .i64 0) := (blk_cell BK503.out 0).trans rfl; have hcz23_1 : w22.cell? ⟨gb503, 1, none⟩ = some (.int .i64 0) := (blk_cell BK503.out 1).trans rfl; have hcz23_2 : w22.cell? ⟨gb503, 2, none⟩ = some (.int .i64 0) := (blk_cell BK503.out 2).trans rfl; have hfz23_0 := blk_frozen BK503.out 0; have hfz23_1 := blk_frozen BK503.out 1; have hfz23_2 := blk_frozen BK503.out 2) | (go_at_call 59; (with_reducible refine (impl_chi_isInside.calls k1 _ l0 a2 ((rd_T67 t499 x16_1).f0) ((rd_T67 t499 x16_1).f1) ((rd_T67 t499 x16_1).f2) false _ ?side1 ?side2 A17.out).mono ?_); (case side1 => exact Kd.C_below HR0.out (zG GE503.out)); (case side2 => exact HC0.out); rintro e w24 ⟨rfl, hb⟩; have n0_ := Aside0.mk (Kd.R_below (by (with_reducible repeat (first | apply Kd.R_alloc | apply Kd.R_drewN | apply Kd.R_drew)); exact (Kd.R_mono (Kd.R_far (p := ⟨gb503, 2, none⟩) (Kd.R_far (p := ⟨gb503, 1, none⟩) (Kd.R_far (p := ⟨gb503, 0, none⟩) (Kd.R_mono HO_14.out (fun k_ hk => (⟨hk, hk.2⟩ : _ ∧ k_ ≠ gb503))) (fun _ hk => hk.2) (.int .i64 ((rd_T67 t499 x16_1).f0))) (fun _ hk => hk.2) (.int .i64 ((rd_T67 t499 x16_1).f1))) (fun _ hk => hk.2) (.int .i64 ((rd_T67 t499 x16_1).f2))) (fun _ h_ => h_.1))) hb); have n1_ := Aside0.mk (blk_below (g := gb503) (o := .cells #[.int .i64 ((rd_T67 t499 x16_1).f0), .int .i64 ((rd_T67 t499 x16_1).f1), .int .i64 ((rd_T67 t499 x16_1).f2)] 67 (0, 0)) (by (with_reducible repeat (first | refine blk_drewN ?_ _ | refine blk_drew ?_ | refine blk_alloc ?_ _)); refine blk_put (cs := #[.int .i64 ((rd_T67 t499 x16_1).f0), .int .i64 ((rd_T67 t499 x16_1).f1), .int .i64 0]) ?_ 2 _ rfl; (with_reducible repeat (first | refine blk_drewN ?_ _ | refine blk_drew ?_ | refine blk_alloc ?_ _)); refine blk_put (cs := #[.int .i64 ((rd_T67 t499 x16_1).f0), .int .i64 0, .int .i64 0]) ?_ 1 _ rfl; (with_reducible repeat (first | refine blk_drewN ?_ _ | refine blk_drew ?_ | refine blk_alloc ?_ _)); refine blk_put (cs := #[.int .i64 0, .int .i64 0, .int .i64 0]) ?_ 0 _ rfl; (with_reducible repeat (first | refine blk_drewN ?_ _ | refine blk_drew ?_ | refine blk_alloc ?_ _)); exact BK503.out) hb); have n2_ := Aside0.mk (below_step (zG GE503.out) hb); clear HO_14; clear BK503; clear HB; have HO_14 := n0_; have BK503 := n1_; have HB := n2_; clear n0_ n1_ n2_; (try clear hb); (try clear hb2); (try clear hk); (try clear hi))))
           go_roundg k1
           case measure => have := HK1.out; omega
           case rel => exact ⟨(wrap64 (x16_1 + 1)), zF, H', ⟨by have := HK1.out; omega⟩, ⟨by (with_reducible repeat (first | apply Kd.R_alloc | apply Kd.R_drewN | apply Kd.R_drew)); exact Kd.R_mono HO_14.out (fun _ hk => trivial)⟩, ⟨zG GE503.out⟩⟩
         ·rw [if_neg c16] at H
          have c16b0 : ((Go.bits .and .i64 a1 (Go.bits .or .i64 (Go.bits .or .i64 (ji11) (ji13)) (ji15))) == (Go.bits .or .i64 (Go.bits .or .i64 (ji11) (ji13)) (ji15))) = false := beq_eq_false_iff_ne.mpr c16
          have c16b1 : ((Go.bits .and .i64 a1 (Go.bits .or .i64 (Go.bits .or .i64 (ji11) (ji13)) (ji15))) != (Go.bits .or .i64 (Go.bits .or .i64 (ji11) (ji13)) (ji15))) = true := bne_iff_ne.mpr c16
          have H' := Aside0.mk H
          clear H
          have p502 : 0 ≤ (x16_1 : Int) := zA
          have q502 : x16_1 < (t499.length : Int) := zA
          obtain ⟨ad502, e502, hx502_0, hx502_1, hx502_2⟩ := at_T67 (Kd.R_reads' HO_14.out).2.2 x16_1 p502 q502
          cases e502
          replace p502 := eq_true p502
          replace q502 := eq_true q502
          go_wp2_with (first | ((with_reducible refine gate_dst (N := 8) rfl ?_); refine box_event ?hg (N := 8) ?hd (cs := #[.int .i64 0, .int .i64 0, .int .i64 0]) (t := 67) ?hr ?_; (case hd => rfl); (case hg => rfl); (case hr => first | (go_simp; done) | (go_simp; rfl)); intro gb503 hg w25 hbox hb; have n0_ := Aside0.mk (Kd.R_below (Kd.R_elderB (zR HO_14.out) gb503 (Nat.le_of_eq hg.symm)) hb); have n1_ := Aside0.mk (below_step zB hb); have n2_ := Aside0.mk (hbox); have n3_ := Aside0.mk ((by rw [hg]; exact (below_size zB) : w.heap.size ≤ gb503)); have n4_ := Aside0.mk ((by rw [hg]; exact (below_size zB) : w.heap.size ≤ gb503)); clear HO_14; clear HB; have HO_14 := n0_; have HB := n1_; have BK503 := n2_; have GW503 := n3_; have GE503 := n4_; clear n0_ n1_ n2_ n3_ n4_; clear hb hbox hg; have hcz26_0 : w25.cell? ⟨gb503, 0, none⟩ = some (.int .i64 0) := (blk_cell BK503.out 0).trans rfl; have hcz26_1 : w25.cell? ⟨gb503, 1, none⟩ = some (.int .i64 0) := (blk_cell BK503.out 1).trans rfl; have hcz26_2 : w25.cell? ⟨gb503, 2, none⟩ = some (.int .i64 0) := (blk_cell BK503.out 2).trans rfl; have hfz26_0 := blk_frozen BK503.out 0; have hfz26_1 := blk_frozen BK503.out 1; have hfz26_2 := blk_frozen BK503.out 2))
          repeat (go_quiet (first | ((with_reducible refine gate_dst (N := 8) rfl ?_); refine box_event ?hg (N := 8) ?hd (cs := #[.int .i64 0, .int .i64 0, .int .i64 0]) (t := 67) ?hr ?_; (case hd => rfl); (case hg => rfl); (case hr => first | (go_simp; done) | (go_simp; rfl)); intro gb503 hg w25 hbox hb; have n0_ := Aside0.mk (Kd.R_below (Kd.R_elderB (zR HO_14.out) gb503 (Nat.le_of_eq hg.symm)) hb); have n1_ := Aside0.mk (below_step zB hb); have n2_ := Aside0.mk (hbox); have n3_ := Aside0.mk ((by rw [hg]; exact (below_size zB) : w.heap.size ≤ gb503)); have n4_ := Aside0.mk ((by rw [hg]; exact (below_size zB) : w.heap.size ≤ gb503)); clear HO_14; clear HB; have HO_14 := n0_; have HB := n1_; have BK503 := n2_; have GW503 := n3_; have GE503 := n4_; clear n0_ n1_ n2_ n3_ n4_; clear hb hbox hg; have hcz26_0 : w25.cell? ⟨gb503, 0, none⟩ = some (.int .i64 0) := (blk_cell BK503.out 0).trans rfl; have hcz26_1 : w25.cell? ⟨gb503, 1, none⟩ = some (.int .i64 0) := (blk_cell BK503.out 1).trans rfl; have hcz26_2 : w25.cell? ⟨gb503, 2, none⟩ = some (.int .i64 0) := (blk_cell BK503.out 2).trans rfl; have hfz26_0 := blk_frozen BK503.out 0; have hfz26_1 := blk_frozen BK503.out 1; have hfz26_2 := blk_frozen BK503.out 2)); try go_wp2_with (first | ((with_reducible refine gate_dst (N := 8) rfl ?_); refine box_event ?hg (N := 8) ?hd (cs := #[.int .i64 0, .int .i64 0, .int .i64 0]) (t := 67) ?hr ?_; (case hd => rfl); (case hg => rfl); (case hr => first | (go_simp; done) | (go_simp; rfl)); intro gb503 hg w25 hbox hb; have n0_ := Aside0.mk (Kd.R_below (Kd.R_elderB (zR HO_14.out) gb503 (Nat.le_of_eq hg.symm)) hb); have n1_ := Aside0.mk (below_step zB hb); have n2_ := Aside0.mk (hbox); have n3_ := Aside0.mk ((by rw [hg]; exact (below_size zB) : w.heap.size ≤ gb503)); have n4_ := Aside0.mk ((by rw [hg]; exact (below_size zB) : w.heap.size ≤ gb503)); clear HO_14; clear HB; have HO_14 := n0_; have HB := n1_; have BK503 := n2_; have GW503 := n3_; have GE503 := n4_; clear n0_ n1_ n2_ n3_ n4_; clear hb hbox hg; have hcz26_0 : w25.cell? ⟨gb503, 0, none⟩ = some (.int .i64 0) := (blk_cell BK503.out 0).trans rfl; have hcz26_1 : w25.cell? ⟨gb503, 1, none⟩ = some (.int .i64 0) := (blk_cell BK503.out 1).trans rfl; have hcz26_2 : w25.cell? ⟨gb503, 2, none⟩ = some (.int .i64 0) := (blk_cell BK503.out 2).trans rfl; have hfz26_0 := blk_frozen BK503.out 0; have hfz26_1 := blk_frozen BK503.out 1; have hfz26_2 := blk_frozen BK503.out 2)))
          go_roundg k1
          case measure => have := HK1.out; omega
          case rel => exact ⟨(wrap64 (x16_1 + 1)), zF, H', ⟨by have := HK1.out; omega⟩, ⟨by (with_reducible repeat (first | apply Kd.R_alloc | apply Kd.R_drewN | apply Kd.R_drew)); exact Kd.R_mono (Kd.R_far (p := ⟨gb503, 2, none⟩) (Kd.R_far (p := ⟨gb503, 1, none⟩) (Kd.R_far (p := ⟨gb503, 0, none⟩) (Kd.R_mono HO_14.out (fun k_ hk => (⟨hk, hk.2⟩ : _ ∧ k_ ≠ gb503))) (fun _ hk => hk.2) (.int .i64 ((rd_T67 t499 x16_1).f0))) (fun _ hk => hk.2) (.int .i64 ((rd_T67 t499 x16_1).f1))) (fun _ hk => hk.2) (.int .i64 ((rd_T67 t499 x16_1).f2))) (fun _ hk => trivial)⟩, ⟨zG GE503.out⟩⟩
        ·rw [if_neg c14] at H
         exact absurd H (by simp)
       ·rw [if_neg c12] at H
        exact absurd H (by simp)
      ·rw [if_neg c10] at H
       exact absurd H (by simp)
     ·rw [if_neg c9] at H
      exact absurd H (by simp)
    ·rw [if_neg c8] at H
     exact absurd H (by simp)
   ·rw [if_neg c7] at H
    have c7b0 : decide (x16_1 < (t499.length : Int)) = false := decide_eq_false c7
    clear c7
    obtain rfl := Option.some.inj H
    go_wp2
    repeat (go_quiet (fail); try go_wp2)
    go_ret
    exact ⟨zE, zB⟩
/-! ### impl_InHull: function 35 -/
def impl_InHull.f (k : Nat) (a0_0 : Int) (a0_1 : ByteArray) (a1 : Int) (a2 : Int) : Option (Bool) := (impl_orderOf.f k a0_0 a0_1).bind fun bt506 => (if bt506.2 = true then ((impl_isSet.f a0_0 a1).bind fun t510 => (if t510 = true then ((impl_isElement.f a0_0 a2).bind fun t511 => (if t511 = true then (if 0 ≤ a2 then (if (Go.bits .and .i64 (shr .i64 a1 a2) 1) = 0 then (if bt506.1.length = 344 then ((impl_chi_inHull.f k bt506.1 a1 a2).bind fun t512 => (some t512)) else (none)) else (some false)) else (none)) else (some false))) else (some false))) else (some false))
theorem impl_InHull.mono : ∀ a0 a1 a2 a3 k, LeO (impl_InHull.f k a0 a1 a2 a3) (impl_InHull.f (k + 1) a0 a1 a2 a3) := by
 intro a0 a1 a2 a3 k
 unfold impl_InHull.f
 repeat' first
   | (with_reducible exact impl_chi_inHull.mono _ _ _ _)
   | (with_reducible exact impl_orderOf.mono _ _ _)
   | (with_reducible exact LeO.refl _)
   | (with_reducible exact LeO.none _)
   | (with_reducible refine LeO.ite ?_ ?_)
   | (with_reducible refine LeO.bind ?_ (fun _ => ?_))
   | exact impl_chi_inHull.mono _ _ _ _
   | exact impl_orderOf.mono _ _ _
   | exact LeO.none _
   | refine LeO.ite ?_ ?_
   | refine LeO.bind ?_ (fun _ => ?_)
set_option maxHeartbeats 8000000 in
set_option maxRecDepth 100000 in
theorem impl_InHull.calls (k : Nat) (a0_0 : Int) (a0_1 : ByteArray) (a1 : Int) (a2 : Int) (r : Bool) (w : World) (h : impl_InHull.f k a0_0 a0_1 a1 a2 = some r) :
  Calls Try.prog 35 #[.agg #[.int .i64 a0_0, .string a0_1], .int .i64 a1, .int .i64 a2] w fun e w' => e = .returned (.bool r) ∧ Below w.heap.size w w' := by
 have hu27 := Try.underlying27
 have HB := Aside0.mk (Below.refl w.heap.size w)
 have H : ((impl_orderOf.f k a0_0 a0_1).bind fun bt506 => (if bt506.2 = true then ((impl_isSet.f a0_0 a1).bind fun t510 => (if t510 = true then ((impl_isElement.f a0_0 a2).bind fun t511 => (if t511 = true then (if 0 ≤ a2 then (if (Go.bits .and .i64 (shr .i64 a1 a2) 1) = 0 then (if bt506.1.length = 344 then ((impl_chi_inHull.f k bt506.1 a1 a2).bind fun t512 => (some t512)) else (none)) else (some false)) else (none)) else (some false))) else (some false))) else (some false))) = some r := h
 clear h
 replace H := Option.bind_eq_some_iff.mp H
 obtain ⟨⟨t506, t509⟩, A40, H⟩ := H
 replace H : (if t509 = true then ((impl_isSet.f a0_0 a1).bind fun t510 => (if t510 = true then ((impl_isElement.f a0_0 a2).bind fun t511 => (if t511 = true then (if 0 ≤ a2 then (if (Go.bits .and .i64 (shr .i64 a1 a2) 1) = 0 then (if t506.length = 344 then ((impl_chi_inHull.f k t506 a1 a2).bind fun t512 => (some t512)) else (none)) else (some false)) else (none)) else (some false))) else (some false))) else (some false)) = some r := H
 have A4 := Aside0.mk A40
 clear A40
 by_cases c5 : t509 = true
 ·subst c5
  have H1 : ((impl_isSet.f a0_0 a1).bind fun t510 => (if t510 = true then ((impl_isElement.f a0_0 a2).bind fun t511 => (if t511 = true then (if 0 ≤ a2 then (if (Go.bits .and .i64 (shr .i64 a1 a2) 1) = 0 then (if t506.length = 344 then ((impl_chi_inHull.f k t506 a1 a2).bind fun t512 => (some t512)) else (none)) else (some false)) else (none)) else (some false))) else (some false))) = some r := by rw [if_pos rfl] at H; exact H
  clear H
  have H := H1
  clear H1
  replace H := Option.bind_eq_some_iff.mp H
  obtain ⟨t510, A60, H⟩ := H
  replace H : (if t510 = true then ((impl_isElement.f a0_0 a2).bind fun t511 => (if t511 = true then (if 0 ≤ a2 then (if (Go.bits .and .i64 (shr .i64 a1 a2) 1) = 0 then (if t506.length = 344 then ((impl_chi_inHull.f k t506 a1 a2).bind fun t512 => (some t512)) else (none)) else (some false)) else (none)) else (some false))) else (some false)) = some r := H
  have A6 := Aside0.mk A60
  clear A60
  by_cases c7 : t510 = true
  ·subst c7
   have H1 : ((impl_isElement.f a0_0 a2).bind fun t511 => (if t511 = true then (if 0 ≤ a2 then (if (Go.bits .and .i64 (shr .i64 a1 a2) 1) = 0 then (if t506.length = 344 then ((impl_chi_inHull.f k t506 a1 a2).bind fun t512 => (some t512)) else (none)) else (some false)) else (none)) else (some false))) = some r := by rw [if_pos rfl] at H; exact H
   clear H
   have H := H1
   clear H1
   replace H := Option.bind_eq_some_iff.mp H
   obtain ⟨t511, A80, H⟩ := H
   replace H : (if t511 = true then (if 0 ≤ a2 then (if (Go.bits .and .i64 (shr .i64 a1 a2) 1) = 0 then (if t506.length = 344 then ((impl_chi_inHull.f k t506 a1 a2).bind fun t512 => (some t512)) else (none)) else (some false)) else (none)) else (some false)) = some r := H
   have A8 := Aside0.mk A80
   clear A80
   by_cases c9 : t511 = true
   ·subst c9
    have H1 : (if 0 ≤ a2 then (if (Go.bits .and .i64 (shr .i64 a1 a2) 1) = 0 then (if t506.length = 344 then ((impl_chi_inHull.f k t506 a1 a2).bind fun t512 => (some t512)) else (none)) else (some false)) else (none)) = some r := by rw [if_pos rfl] at H; exact H
    clear H
    have H := H1
    clear H1
    by_cases c10 : 0 ≤ a2
    ·rw [if_pos c10] at H
     have c10b0 := eq_true c10
     have c10b1 : decide (0 ≤ a2) = true := decide_eq_true c10
     clear c10
     obtain ⟨ji11, hji11⟩ : ∃ j_ : Int, (shr .i64 a1 a2) = j_ := ⟨_, rfl⟩
     replace H : (if (Go.bits .and .i64 (ji11) 1) = 0 then (if t506.length = 344 then ((impl_chi_inHull.f k t506 a1 a2).bind fun t512 => (some t512)) else (none)) else (some false)) = some r := by first | (rw [hji11] at H; exact H) | (simp only [hji11] at H ⊢; exact H)
     (try rw [hji11] at A4)
     (try rw [hji11] at A6)
     (try rw [hji11] at A8)
     have hji11_ : (a1 / 2 ^ min a2.toNat 64) = ji11 := hji11
     have hji11z : a2 ≤ 64 → (a1 / 2 ^ a2.toNat) = ji11 := shr_small hji11
     by_cases c12 : (Go.bits .and .i64 (ji11) 1) = 0
     ·rw [if_pos c12] at H
      have c12b0 : ((Go.bits .and .i64 (ji11) 1) == 0) = true := beq_iff_eq.mpr c12
      have c12b1 : ((Go.bits .and .i64 (ji11) 1) != 0) = false := bne_eq_false_iff_eq.mpr c12
      clear c12
      by_cases c13 : t506.length = 344
      ·rw [if_pos c13] at H
       have c13b0 := eq_true c13
       have c13b1 : decide (t506.length = 344) = true := decide_eq_true c13
       clear c13
       replace H := Option.bind_eq_some_iff.mp H
       obtain ⟨t512, A140, H⟩ := H
       replace H : (some t512) = some r := H
       have A14 := Aside0.mk A140
       clear A140
       obtain rfl := Option.some.inj H
       go_enter Try.func35, Try.ntmps35
       go_wp2_with (first | ((with_reducible refine gate_dst (N := 3) rfl ?_); refine box_event ?hg (N := 3) ?hd (cs := #[.int .i64 a0_0, .string a0_1]) (t := 27) ?hr ?_; (case hd => rfl); (case hg => rfl); (case hr => first | (go_simp; done) | (go_simp; rfl)); intro gb505 hg w15 hbox hb; have n0_ := Aside0.mk (below_step zB hb); have n1_ := Aside0.mk (hbox); have n2_ := Aside0.mk ((by rw [hg]; exact (below_size zB) : w.heap.size ≤ gb505)); have n3_ := Aside0.mk ((by rw [hg]; exact (below_size zB) : w.heap.size ≤ gb505)); clear HB; have HB := n0_; have BK505 := n1_; have GW505 := n2_; have GE505 := n3_; clear n0_ n1_ n2_ n3_; clear hb hbox hg; have hcz16_0 : w15.cell? ⟨gb505, 0, none⟩ = some (.int .i64 a0_0) := (blk_cell BK505.out 0).trans rfl; have hcz16_1 : w15.cell? ⟨gb505, 1, none⟩ = some (.string a0_1) := (blk_cell BK505.out 1).trans rfl; have hfz16_0 := blk_frozen BK505.out 0; have hfz16_1 := blk_frozen BK505.out 1) | ((with_reducible refine gate_callee (f := 47) rfl ?_); refine goesL_ (some 11) rfl rfl Try.func47 (by kernel_rfl) rfl #[.agg #[.int .i64 a0_0, .string a0_1]] rfl zM ?_; (with_reducible refine (impl_orderOf.calls k a0_0 a0_1 t506 true _ A4.out).mono ?_); rintro e w17 ⟨v507, rfl, ho0, hb⟩; refine ⟨_, rfl, ?_⟩; have n0_ := Aside0.mk (Kd.R_lower ho0 (below_size (zG GE505.out))); have n1_ := Aside0.mk (blk_below (g := gb505) (o := .cells #[.int .i64 a0_0, .string a0_1] 27 (0, 0)) (zK BK505.out) hb); have n2_ := Aside0.mk (below_step (zG GE505.out) hb); clear BK505; clear HB; have HO508 := n0_; have BK505 := n1_; have HB := n2_; clear n0_ n1_ n2_; (try clear hb); (try clear hb2); (try clear hk); (try clear hi); (try clear ho0); have hcz18_0 : w17.cell? ⟨gb505, 0, none⟩ = some (.int .i64 a0_0) := (blk_cell BK505.out 0).trans rfl; have hcz18_1 : w17.cell? ⟨gb505, 1, none⟩ = some (.string a0_1) := (blk_cell BK505.out 1).trans rfl; have hfz18_0 := blk_frozen BK505.out 0; have hfz18_1 := blk_frozen BK505.out 1) | (go_at_call 67; (with_reducible refine (impl_isSet.calls a0_0 a1 true _ A6.out).mono ?_); rintro e w' ⟨rfl, ⟨nd, rfl⟩⟩) | (go_at_call 68; (with_reducible refine (impl_isElement.calls a0_0 a2 true _ A8.out).mono ?_); rintro e w' ⟨rfl, ⟨nd, rfl⟩⟩; obtain ⟨go19, co19, eo19, gb19, gl19, cl19, HG19⟩ := Kd.R_form HO508.out (by have hl_ := Nat.le_of_eq (Eq.symm (zA : t506.length = 344)); omega); (first | cases eo19 | (injection eo19 with ea_ en_ ec_; (first | subst ea_ | (injection ea_ with ea_; subst ea_)); subst ec_; clear en_)); have GB19 := Aside0.mk gb19; have GG19 := Aside0.mk HG19; clear gb19 gl19 HG19) | (go_at_call 69; (with_reducible refine (impl_chi_inHull.calls k _ t506 a1 a2 t512 _ ?side1 ?side2 A14.out).mono ?_); (case side1 => repeat (first | exact (Kd.R_reads' HO508.out).2.2 | (with_reducible refine Kd.C_alloc ?_ _) | (with_reducible refine Kd.C_drewN ?_ _) | (with_reducible refine Kd.C_drew ?_))); (case side2 => exact (zA : t506.length = 344)); rintro e w20 ⟨rfl, hb⟩; have n0_ := Aside0.mk (Kd.R_below (zR HO508.out) hb); have n1_ := Aside0.mk (blk_below (g := gb505) (o := .cells #[.int .i64 a0_0, .string a0_1] 27 (0, 0)) (zK BK505.out) hb); have n2_ := Aside0.mk (below_step (zG GE505.out) hb); clear HO508; clear BK505; clear HB; have HO508 := n0_; have BK505 := n1_; have HB := n2_; clear n0_ n1_ n2_; (try clear hb); (try clear hb2); (try clear hk); (try clear hi)))
       go_ret
       exact ⟨by first | rfl | (simp [errW_none, errW_some] <;> rfl) | (simp only [← hji11]; first | rfl | (simp [errW_none, errW_some] <;> rfl)) | (simp [*, errW_none, errW_some] <;> rfl), zG GE505.out⟩
      ·rw [if_neg c13] at H
       exact absurd H (by simp)
     ·rw [if_neg c12] at H
      have c12b0 : ((Go.bits .and .i64 (ji11) 1) == 0) = false := beq_eq_false_iff_ne.mpr c12
      have c12b1 : ((Go.bits .and .i64 (ji11) 1) != 0) = true := bne_iff_ne.mpr c12
      obtain rfl := Option.some.inj H
      go_enter Try.func35, Try.ntmps35
      go_wp2_with (first | ((with_reducible refine gate_dst (N := 3) rfl ?_); refine box_event ?hg (N := 3) ?hd (cs := #[.int .i64 a0_0, .string a0_1]) (t := 27) ?hr ?_; (case hd => rfl); (case hg => rfl); (case hr => first | (go_simp; done) | (go_simp; rfl)); intro gb505 hg w21 hbox hb; have n0_ := Aside0.mk (below_step zB hb); have n1_ := Aside0.mk (hbox); have n2_ := Aside0.mk ((by rw [hg]; exact (below_size zB) : w.heap.size ≤ gb505)); have n3_ := Aside0.mk ((by rw [hg]; exact (below_size zB) : w.heap.size ≤ gb505)); clear HB; have HB := n0_; have BK505 := n1_; have GW505 := n2_; have GE505 := n3_; clear n0_ n1_ n2_ n3_; clear hb hbox hg; have hcz22_0 : w21.cell? ⟨gb505, 0, none⟩ = some (.int .i64 a0_0) := (blk_cell BK505.out 0).trans rfl; have hcz22_1 : w21.cell? ⟨gb505, 1, none⟩ = some (.string a0_1) := (blk_cell BK505.out 1).trans rfl; have hfz22_0 := blk_frozen BK505.out 0; have hfz22_1 := blk_frozen BK505.out 1) | ((with_reducible refine gate_callee (f := 47) rfl ?_); refine goesL_ (some 11) rfl rfl Try.func47 (by kernel_rfl) rfl #[.agg #[.int .i64 a0_0, .string a0_1]] rfl zM ?_; (with_reducible refine (impl_orderOf.calls k a0_0 a0_1 t506 true _ A4.out).mono ?_); rintro e w23 ⟨v507, rfl, ho0, hb⟩; refine ⟨_, rfl, ?_⟩; have n0_ := Aside0.mk (Kd.R_lower ho0 (below_size (zG GE505.out))); have n1_ := Aside0.mk (blk_below (g := gb505) (o := .cells #[.int .i64 a0_0, .string a0_1] 27 (0, 0)) (zK BK505.out) hb); have n2_ := Aside0.mk (below_step (zG GE505.out) hb); clear BK505; clear HB; have HO508 := n0_; have BK505 := n1_; have HB := n2_; clear n0_ n1_ n2_; (try clear hb); (try clear hb2); (try clear hk); (try clear hi); (try clear ho0); have hcz24_0 : w23.cell? ⟨gb505, 0, none⟩ = some (.int .i64 a0_0) := (blk_cell BK505.out 0).trans rfl; have hcz24_1 : w23.cell? ⟨gb505, 1, none⟩ = some (.string a0_1) := (blk_cell BK505.out 1).trans rfl; have hfz24_0 := blk_frozen BK505.out 0; have hfz24_1 := blk_frozen BK505.out 1) | (go_at_call 67; (with_reducible refine (impl_isSet.calls a0_0 a1 true _ A6.out).mono ?_); rintro e w' ⟨rfl, ⟨nd, rfl⟩⟩) | (go_at_call 68; (with_reducible refine (impl_isElement.calls a0_0 a2 true _ A8.out).mono ?_); rintro e w' ⟨rfl, ⟨nd, rfl⟩⟩))
      go_ret
      exact ⟨by first | rfl | (simp [errW_none, errW_some] <;> rfl) | (simp only [← hji11]; first | rfl | (simp [errW_none, errW_some] <;> rfl)) | (simp [*, errW_none, errW_some] <;> rfl), zG GE505.out⟩
    ·rw [if_neg c10] at H
     exact absurd H (by simp)
   ·replace c9 := Bool.eq_false_iff.mpr c9
    subst c9
    have H1 : (some false) = some r := by rw [if_neg (show ¬ (false = true) by decide)] at H; exact H
    clear H
    have H := H1
    clear H1
    obtain rfl := Option.some.inj H
    go_enter Try.func35, Try.ntmps35
    go_wp2_with (first | ((with_reducible refine gate_dst (N := 3) rfl ?_); refine box_event ?hg (N := 3) ?hd (cs := #[.int .i64 a0_0, .string a0_1]) (t := 27) ?hr ?_; (case hd => rfl); (case hg => rfl); (case hr => first | (go_simp; done) | (go_simp; rfl)); intro gb505 hg w25 hbox hb; have n0_ := Aside0.mk (below_step zB hb); have n1_ := Aside0.mk (hbox); have n2_ := Aside0.mk ((by rw [hg]; exact (below_size zB) : w.heap.size ≤ gb505)); have n3_ := Aside0.mk ((by rw [hg]; exact (below_size zB) : w.heap.size ≤ gb505)); clear HB; have HB := n0_; have BK505 := n1_; have GW505 := n2_; have GE505 := n3_; clear n0_ n1_ n2_ n3_; clear hb hbox hg; have hcz26_0 : w25.cell? ⟨gb505, 0, none⟩ = some (.int .i64 a0_0) := (blk_cell BK505.out 0).trans rfl; have hcz26_1 : w25.cell? ⟨gb505, 1, none⟩ = some (.string a0_1) := (blk_cell BK505.out 1).trans rfl; have hfz26_0 := blk_frozen BK505.out 0; have hfz26_1 := blk_frozen BK505.out 1) | ((with_reducible refine gate_callee (f := 47) rfl ?_); refine goesL_ (some 11) rfl rfl Try.func47 (by kernel_rfl) rfl #[.agg #[.int .i64 a0_0, .string a0_1]] rfl zM ?_; (with_reducible refine (impl_orderOf.calls k a0_0 a0_1 t506 true _ A4.out).mono ?_); rintro e w27 ⟨v507, rfl, ho0, hb⟩; refine ⟨_, rfl, ?_⟩; have n0_ := Aside0.mk (Kd.R_lower ho0 (below_size (zG GE505.out))); have n1_ := Aside0.mk (blk_below (g := gb505) (o := .cells #[.int .i64 a0_0, .string a0_1] 27 (0, 0)) (zK BK505.out) hb); have n2_ := Aside0.mk (below_step (zG GE505.out) hb); clear BK505; clear HB; have HO508 := n0_; have BK505 := n1_; have HB := n2_; clear n0_ n1_ n2_; (try clear hb); (try clear hb2); (try clear hk); (try clear hi); (try clear ho0); have hcz28_0 : w27.cell? ⟨gb505, 0, none⟩ = some (.int .i64 a0_0) := (blk_cell BK505.out 0).trans rfl; have hcz28_1 : w27.cell? ⟨gb505, 1, none⟩ = some (.string a0_1) := (blk_cell BK505.out 1).trans rfl; have hfz28_0 := blk_frozen BK505.out 0; have hfz28_1 := blk_frozen BK505.out 1) | (go_at_call 67; (with_reducible refine (impl_isSet.calls a0_0 a1 true _ A6.out).mono ?_); rintro e w' ⟨rfl, ⟨nd, rfl⟩⟩) | (go_at_call 68; (with_reducible refine (impl_isElement.calls a0_0 a2 false _ A8.out).mono ?_); rintro e w' ⟨rfl, ⟨nd, rfl⟩⟩))
    go_ret
    exact ⟨zE, zG GE505.out⟩
  ·replace c7 := Bool.eq_false_iff.mpr c7
   subst c7
   have H1 : (some false) = some r := by rw [if_neg (show ¬ (false = true) by decide)] at H; exact H
   clear H
   have H := H1
   clear H1
   obtain rfl := Option.some.inj H
   go_enter Try.func35, Try.ntmps35
   go_wp2_with (first | ((with_reducible refine gate_dst (N := 3) rfl ?_); refine box_event ?hg (N := 3) ?hd (cs := #[.int .i64 a0_0, .string a0_1]) (t := 27) ?hr ?_; (case hd => rfl); (case hg => rfl); (case hr => first | (go_simp; done) | (go_simp; rfl)); intro gb505 hg w29 hbox hb; have n0_ := Aside0.mk (below_step zB hb); have n1_ := Aside0.mk (hbox); have n2_ := Aside0.mk ((by rw [hg]; exact (below_size zB) : w.heap.size ≤ gb505)); have n3_ := Aside0.mk ((by rw [hg]; exact (below_size zB) : w.heap.size ≤ gb505)); clear HB; have HB := n0_; have BK505 := n1_; have GW505 := n2_; have GE505 := n3_; clear n0_ n1_ n2_ n3_; clear hb hbox hg; have hcz30_0 : w29.cell? ⟨gb505, 0, none⟩ = some (.int .i64 a0_0) := (blk_cell BK505.out 0).trans rfl; have hcz30_1 : w29.cell? ⟨gb505, 1, none⟩ = some (.string a0_1) := (blk_cell BK505.out 1).trans rfl; have hfz30_0 := blk_frozen BK505.out 0; have hfz30_1 := blk_frozen BK505.out 1) | ((with_reducible refine gate_callee (f := 47) rfl ?_); refine goesL_ (some 11) rfl rfl Try.func47 (by kernel_rfl) rfl #[.agg #[.int .i64 a0_0, .string a0_1]] rfl zM ?_; (with_reducible refine (impl_orderOf.calls k a0_0 a0_1 t506 true _ A4.out).mono ?_); rintro e w31 ⟨v507, rfl, ho0, hb⟩; refine ⟨_, rfl, ?_⟩; have n0_ := Aside0.mk (Kd.R_lower ho0 (below_size (zG GE505.out))); have n1_ := Aside0.mk (blk_below (g := gb505) (o := .cells #[.int .i64 a0_0, .string a0_1] 27 (0, 0)) (zK BK505.out) hb); have n2_ := Aside0.mk (below_step (zG GE505.out) hb); clear BK505; clear HB; have HO508 := n0_; have BK505 := n1_; have HB := n2_; clear n0_ n1_ n2_; (try clear hb); (try clear hb2); (try clear hk); (try clear hi); (try clear ho0); have hcz32_0 : w31.cell? ⟨gb505, 0, none⟩ = some (.int .i64 a0_0) := (blk_cell BK505.out 0).trans rfl; have hcz32_1 : w31.cell? ⟨gb505, 1, none⟩ = some (.string a0_1) := (blk_cell BK505.out 1).trans rfl; have hfz32_0 := blk_frozen BK505.out 0; have hfz32_1 := blk_frozen BK505.out 1) | (go_at_call 67; (with_reducible refine (impl_isSet.calls a0_0 a1 false _ A6.out).mono ?_); rintro e w' ⟨rfl, ⟨nd, rfl⟩⟩))
   go_ret
   exact ⟨zE, zG GE505.out⟩
 ·replace c5 := Bool.eq_false_iff.mpr c5
  subst c5
  have H1 : (some false) = some r := by rw [if_neg (show ¬ (false = true) by decide)] at H; exact H
  clear H
  have H := H1
  clear H1
  obtain rfl := Option.some.inj H
  go_enter Try.func35, Try.ntmps35
  go_wp2_with (first | ((with_reducible refine gate_dst (N := 3) rfl ?_); refine box_event ?hg (N := 3) ?hd (cs := #[.int .i64 a0_0, .string a0_1]) (t := 27) ?hr ?_; (case hd => rfl); (case hg => rfl); (case hr => first | (go_simp; done) | (go_simp; rfl)); intro gb505 hg w33 hbox hb; have n0_ := Aside0.mk (below_step zB hb); have n1_ := Aside0.mk (hbox); have n2_ := Aside0.mk ((by rw [hg]; exact (below_size zB) : w.heap.size ≤ gb505)); have n3_ := Aside0.mk ((by rw [hg]; exact (below_size zB) : w.heap.size ≤ gb505)); clear HB; have HB := n0_; have BK505 := n1_; have GW505 := n2_; have GE505 := n3_; clear n0_ n1_ n2_ n3_; clear hb hbox hg; have hcz34_0 : w33.cell? ⟨gb505, 0, none⟩ = some (.int .i64 a0_0) := (blk_cell BK505.out 0).trans rfl; have hcz34_1 : w33.cell? ⟨gb505, 1, none⟩ = some (.string a0_1) := (blk_cell BK505.out 1).trans rfl; have hfz34_0 := blk_frozen BK505.out 0; have hfz34_1 := blk_frozen BK505.out 1) | ((with_reducible refine gate_callee (f := 47) rfl ?_); refine goesL_ (some 11) rfl rfl Try.func47 (by kernel_rfl) rfl #[.agg #[.int .i64 a0_0, .string a0_1]] rfl zM ?_; (with_reducible refine (impl_orderOf.calls k a0_0 a0_1 t506 false _ A4.out).mono ?_); rintro e w35 ⟨v507, rfl, ho0, hb⟩; refine ⟨_, rfl, ?_⟩; have n0_ := Aside0.mk (Kd.R_lower ho0 (below_size (zG GE505.out))); have n1_ := Aside0.mk (blk_below (g := gb505) (o := .cells #[.int .i64 a0_0, .string a0_1] 27 (0, 0)) (zK BK505.out) hb); have n2_ := Aside0.mk (below_step (zG GE505.out) hb); clear BK505; clear HB; have HO508 := n0_; have BK505 := n1_; have HB := n2_; clear n0_ n1_ n2_; (try clear hb); (try clear hb2); (try clear hk); (try clear hi); (try clear ho0)))
  go_ret
  exact ⟨zE, zG GE505.out⟩
/-! ### spec_IsExtreme: function 36 -/
def spec_IsExtreme.f (k : Nat) (a0_0 : Int) (a0_1 : ByteArray) (a1 : Int) : Option (Bool) := (spec_IsAcyclic.f k a0_0 a0_1).bind fun t522 => (if t522 = true then ((spec_l1In.f a1 0 (wrap64 (a0_0 - 1))).bind fun t523 => (if t523 = true then (if 0 ≤ (IntKind.u64.wrap (a0_0)) then ((spec_l6In.f k a0_0 a0_1 (wrap64 ((shl .i64 1 (IntKind.u64.wrap (a0_0))) - 1)) a1).bind fun t524 => (some (!t524))) else (none)) else (some false))) else (some false))
theorem spec_IsExtreme.mono : ∀ a0 a1 a2 k, LeO (spec_IsExtreme.f k a0 a1 a2) (spec_IsExtreme.f (k + 1) a0 a1 a2) := by
 intro a0 a1 a2 k
 unfold spec_IsExtreme.f
 repeat' first
   | (with_reducible exact spec_IsAcyclic.mono _ _ _)
   | (with_reducible exact spec_l6In.mono _ _ _ _ _)
   | (with_reducible exact LeO.refl _)
   | (with_reducible exact LeO.none _)
   | (with_reducible refine LeO.ite ?_ ?_)
   | (with_reducible refine LeO.bind ?_ (fun _ => ?_))
   | exact spec_IsAcyclic.mono _ _ _
   | exact spec_l6In.mono _ _ _ _ _
   | exact LeO.none _
   | refine LeO.ite ?_ ?_
   | refine LeO.bind ?_ (fun _ => ?_)
set_option maxHeartbeats 8000000 in
set_option maxRecDepth 100000 in
theorem spec_IsExtreme.calls (k : Nat) (a0_0 : Int) (a0_1 : ByteArray) (a1 : Int) (r : Bool) (w : World) (h : spec_IsExtreme.f k a0_0 a0_1 a1 = some r) :
  Calls Try.prog 36 #[.agg #[.int .i64 a0_0, .string a0_1], .int .i64 a1] w fun e w' => e = .returned (.bool r) ∧ Below w.heap.size w w' := by
 have hu27 := Try.underlying27
 have HB := Aside0.mk (Below.refl w.heap.size w)
 have H : ((spec_IsAcyclic.f k a0_0 a0_1).bind fun t522 => (if t522 = true then ((spec_l1In.f a1 0 (wrap64 (a0_0 - 1))).bind fun t523 => (if t523 = true then (if 0 ≤ (IntKind.u64.wrap (a0_0)) then ((spec_l6In.f k a0_0 a0_1 (wrap64 ((shl .i64 1 (IntKind.u64.wrap (a0_0))) - 1)) a1).bind fun t524 => (some (!t524))) else (none)) else (some false))) else (some false))) = some r := h
 clear h
 replace H := Option.bind_eq_some_iff.mp H
 obtain ⟨t522, A30, H⟩ := H
 replace H : (if t522 = true then ((spec_l1In.f a1 0 (wrap64 (a0_0 - 1))).bind fun t523 => (if t523 = true then (if 0 ≤ (IntKind.u64.wrap (a0_0)) then ((spec_l6In.f k a0_0 a0_1 (wrap64 ((shl .i64 1 (IntKind.u64.wrap (a0_0))) - 1)) a1).bind fun t524 => (some (!t524))) else (none)) else (some false))) else (some false)) = some r := H
 have A3 := Aside0.mk A30
 clear A30
 by_cases c4 : t522 = true
 ·subst c4
  have H1 : ((spec_l1In.f a1 0 (wrap64 (a0_0 - 1))).bind fun t523 => (if t523 = true then (if 0 ≤ (IntKind.u64.wrap (a0_0)) then ((spec_l6In.f k a0_0 a0_1 (wrap64 ((shl .i64 1 (IntKind.u64.wrap (a0_0))) - 1)) a1).bind fun t524 => (some (!t524))) else (none)) else (some false))) = some r := by rw [if_pos rfl] at H; exact H
  clear H
  have H := H1
  clear H1
  replace H := Option.bind_eq_some_iff.mp H
  obtain ⟨t523, A50, H⟩ := H
  replace H : (if t523 = true then (if 0 ≤ (IntKind.u64.wrap (a0_0)) then ((spec_l6In.f k a0_0 a0_1 (wrap64 ((shl .i64 1 (IntKind.u64.wrap (a0_0))) - 1)) a1).bind fun t524 => (some (!t524))) else (none)) else (some false)) = some r := H
  have A5 := Aside0.mk A50
  clear A50
  by_cases c6 : t523 = true
  ·subst c6
   have H1 : (if 0 ≤ (IntKind.u64.wrap (a0_0)) then ((spec_l6In.f k a0_0 a0_1 (wrap64 ((shl .i64 1 (IntKind.u64.wrap (a0_0))) - 1)) a1).bind fun t524 => (some (!t524))) else (none)) = some r := by rw [if_pos rfl] at H; exact H
   clear H
   have H := H1
   clear H1
   obtain ⟨ji7, hji7⟩ : ∃ j_ : Int, (IntKind.u64.wrap (a0_0)) = j_ := ⟨_, rfl⟩
   replace H : (if 0 ≤ (ji7) then ((spec_l6In.f k a0_0 a0_1 (wrap64 ((shl .i64 1 (ji7)) - 1)) a1).bind fun t524 => (some (!t524))) else (none)) = some r := by first | (rw [hji7] at H; exact H) | (simp only [hji7] at H ⊢; exact H)
   (try rw [hji7] at A3)
   (try rw [hji7] at A5)
   by_cases c8 : 0 ≤ (ji7)
   ·rw [if_pos c8] at H
    have c8b0 := eq_true c8
    have c8b1 : decide (0 ≤ (ji7)) = true := decide_eq_true c8
    clear c8
    obtain ⟨ji9, hji9⟩ : ∃ j_ : Int, (shl .i64 1 (ji7)) = j_ := ⟨_, rfl⟩
    replace H : ((spec_l6In.f k a0_0 a0_1 (wrap64 ((ji9) - 1)) a1).bind fun t524 => (some (!t524))) = some r := by first | (rw [hji9] at H; exact H) | (simp only [hji9] at H ⊢; exact H)
    (try rw [hji9] at A3)
    (try rw [hji9] at A5)
    have hji9_ : (IntKind.i64.wrap (1 * 2 ^ min (ji7).toNat 64)) = ji9 := hji9
    have hji9z : (ji7) ≤ 64 → (IntKind.i64.wrap (1 * 2 ^ (ji7).toNat)) = ji9 := shl_small hji9
    have hji9u : (IntKind.i64.wrap (2 ^ min (ji7).toNat 64)) = ji9 := by have h_ := hji9_; rw [Int.one_mul] at h_; exact h_
    have hji9v : (ji7) ≤ 64 → (IntKind.i64.wrap (2 ^ (ji7).toNat)) = ji9 := fun hle_ => by have h_ := hji9z hle_; rw [Int.one_mul] at h_; exact h_
    have hji9y : (wrap64 (1 * 2 ^ min (ji7).toNat 64)) = ji9 := (i64_w _).symm.trans hji9_
    have hji9x : (ji7) ≤ 64 → (wrap64 (1 * 2 ^ (ji7).toNat)) = ji9 := fun h_ => (i64_w _).symm.trans (hji9z h_)
    replace H := Option.bind_eq_some_iff.mp H
    obtain ⟨t524, A100, H⟩ := H
    replace H : (some (!t524)) = some r := H
    have A10 := Aside0.mk A100
    clear A100
    obtain rfl := Option.some.inj H
    go_enter Try.func36, Try.ntmps36
    go_wp2_with (first | ((with_reducible refine gate_dst (N := 2) rfl ?_); refine box_event ?hg (N := 2) ?hd (cs := #[.int .i64 a0_0, .string a0_1]) (t := 27) ?hr ?_; (case hd => rfl); (case hg => rfl); (case hr => first | (go_simp; done) | (go_simp; rfl)); intro gb521 hg w11 hbox hb; have n0_ := Aside0.mk (below_step zB hb); have n1_ := Aside0.mk (hbox); have n2_ := Aside0.mk ((by rw [hg]; exact (below_size zB) : w.heap.size ≤ gb521)); have n3_ := Aside0.mk ((by rw [hg]; exact (below_size zB) : w.heap.size ≤ gb521)); clear HB; have HB := n0_; have BK521 := n1_; have GW521 := n2_; have GE521 := n3_; clear n0_ n1_ n2_ n3_; clear hb hbox hg; have hcz12_0 : w11.cell? ⟨gb521, 0, none⟩ = some (.int .i64 a0_0) := (blk_cell BK521.out 0).trans rfl; have hcz12_1 : w11.cell? ⟨gb521, 1, none⟩ = some (.string a0_1) := (blk_cell BK521.out 1).trans rfl; have hfz12_0 := blk_frozen BK521.out 0; have hfz12_1 := blk_frozen BK521.out 1) | ((with_reducible refine gate_callee (f := 44) rfl ?_); refine goesL_ (some 6) rfl rfl Try.func44 (by kernel_rfl) rfl #[.agg #[.int .i64 a0_0, .string a0_1]] rfl zM ?_; (with_reducible refine (spec_IsAcyclic.calls k a0_0 a0_1 true _ A3.out).mono ?_); rintro e w13 ⟨rfl, hb⟩; refine ⟨_, rfl, ?_⟩; have n0_ := Aside0.mk (blk_below (g := gb521) (o := .cells #[.int .i64 a0_0, .string a0_1] 27 (0, 0)) (zK BK521.out) hb); have n1_ := Aside0.mk (below_step (zG GE521.out) hb); clear BK521; clear HB; have BK521 := n0_; have HB := n1_; clear n0_ n1_; (try clear hb); (try clear hb2); (try clear hk); (try clear hi); have hcz14_0 : w13.cell? ⟨gb521, 0, none⟩ = some (.int .i64 a0_0) := (blk_cell BK521.out 0).trans rfl; have hcz14_1 : w13.cell? ⟨gb521, 1, none⟩ = some (.string a0_1) := (blk_cell BK521.out 1).trans rfl; have hfz14_0 := blk_frozen BK521.out 0; have hfz14_1 := blk_frozen BK521.out 1) | (go_at_call 64; (with_reducible refine (spec_l1In.calls a1 0 (wrap64 (a0_0 - 1)) true _ A5.out).mono ?_); rintro e w' ⟨rfl, ⟨nd, rfl⟩⟩) | (go_at_call 66; (with_reducible refine (spec_l6In.calls k a0_0 a0_1 (wrap64 ((ji9) - 1)) a1 t524 _ A10.out).mono ?_); rintro e w15 ⟨rfl, hb⟩; have n0_ := Aside0.mk (blk_below (g := gb521) (o := .cells #[.int .i64 a0_0, .string a0_1] 27 (0, 0)) (zK BK521.out) hb); have n1_ := Aside0.mk (below_step (zG GE521.out) hb); clear BK521; clear HB; have BK521 := n0_; have HB := n1_; clear n0_ n1_; (try clear hb); (try clear hb2); (try clear hk); (try clear hi)))
    go_ret
    exact ⟨by first | rfl | (simp [errW_none, errW_some] <;> rfl) | (simp only [← hji7, ← hji9]; first | rfl | (simp [errW_none, errW_some] <;> rfl)) | (simp [*, errW_none, errW_some] <;> rfl), zG GE521.out⟩
   ·rw [if_neg c8] at H
    exact absurd H (by simp)
  ·replace c6 := Bool.eq_false_iff.mpr c6
   subst c6
   have H1 : (some false) = some r := by rw [if_neg (show ¬ (false = true) by decide)] at H; exact H
   clear H
   have H := H1
   clear H1
   obtain rfl := Option.some.inj H
   go_enter Try.func36, Try.ntmps36
   go_wp2_with (first | ((with_reducible refine gate_dst (N := 2) rfl ?_); refine box_event ?hg (N := 2) ?hd (cs := #[.int .i64 a0_0, .string a0_1]) (t := 27) ?hr ?_; (case hd => rfl); (case hg => rfl); (case hr => first | (go_simp; done) | (go_simp; rfl)); intro gb521 hg w16 hbox hb; have n0_ := Aside0.mk (below_step zB hb); have n1_ := Aside0.mk (hbox); have n2_ := Aside0.mk ((by rw [hg]; exact (below_size zB) : w.heap.size ≤ gb521)); have n3_ := Aside0.mk ((by rw [hg]; exact (below_size zB) : w.heap.size ≤ gb521)); clear HB; have HB := n0_; have BK521 := n1_; have GW521 := n2_; have GE521 := n3_; clear n0_ n1_ n2_ n3_; clear hb hbox hg; have hcz17_0 : w16.cell? ⟨gb521, 0, none⟩ = some (.int .i64 a0_0) := (blk_cell BK521.out 0).trans rfl; have hcz17_1 : w16.cell? ⟨gb521, 1, none⟩ = some (.string a0_1) := (blk_cell BK521.out 1).trans rfl; have hfz17_0 := blk_frozen BK521.out 0; have hfz17_1 := blk_frozen BK521.out 1) | ((with_reducible refine gate_callee (f := 44) rfl ?_); refine goesL_ (some 6) rfl rfl Try.func44 (by kernel_rfl) rfl #[.agg #[.int .i64 a0_0, .string a0_1]] rfl zM ?_; (with_reducible refine (spec_IsAcyclic.calls k a0_0 a0_1 true _ A3.out).mono ?_); rintro e w18 ⟨rfl, hb⟩; refine ⟨_, rfl, ?_⟩; have n0_ := Aside0.mk (blk_below (g := gb521) (o := .cells #[.int .i64 a0_0, .string a0_1] 27 (0, 0)) (zK BK521.out) hb); have n1_ := Aside0.mk (below_step (zG GE521.out) hb); clear BK521; clear HB; have BK521 := n0_; have HB := n1_; clear n0_ n1_; (try clear hb); (try clear hb2); (try clear hk); (try clear hi); have hcz19_0 : w18.cell? ⟨gb521, 0, none⟩ = some (.int .i64 a0_0) := (blk_cell BK521.out 0).trans rfl; have hcz19_1 : w18.cell? ⟨gb521, 1, none⟩ = some (.string a0_1) := (blk_cell BK521.out 1).trans rfl; have hfz19_0 := blk_frozen BK521.out 0; have hfz19_1 := blk_frozen BK521.out 1) | (go_at_call 64; (with_reducible refine (spec_l1In.calls a1 0 (wrap64 (a0_0 - 1)) false _ A5.out).mono ?_); rintro e w' ⟨rfl, ⟨nd, rfl⟩⟩))
   go_ret
   exact ⟨zE, zG GE521.out⟩
 ·replace c4 := Bool.eq_false_iff.mpr c4
  subst c4
  have H1 : (some false) = some r := by rw [if_neg (show ¬ (false = true) by decide)] at H; exact H
  clear H
  have H := H1
  clear H1
  obtain rfl := Option.some.inj H
  go_enter Try.func36, Try.ntmps36
  go_wp2_with (first | ((with_reducible refine gate_dst (N := 2) rfl ?_); refine box_event ?hg (N := 2) ?hd (cs := #[.int .i64 a0_0, .string a0_1]) (t := 27) ?hr ?_; (case hd => rfl); (case hg => rfl); (case hr => first | (go_simp; done) | (go_simp; rfl)); intro gb521 hg w20 hbox hb; have n0_ := Aside0.mk (below_step zB hb); have n1_ := Aside0.mk (hbox); have n2_ := Aside0.mk ((by rw [hg]; exact (below_size zB) : w.heap.size ≤ gb521)); have n3_ := Aside0.mk ((by rw [hg]; exact (below_size zB) : w.heap.size ≤ gb521)); clear HB; have HB := n0_; have BK521 := n1_; have GW521 := n2_; have GE521 := n3_; clear n0_ n1_ n2_ n3_; clear hb hbox hg; have hcz21_0 : w20.cell? ⟨gb521, 0, none⟩ = some (.int .i64 a0_0) := (blk_cell BK521.out 0).trans rfl; have hcz21_1 : w20.cell? ⟨gb521, 1, none⟩ = some (.string a0_1) := (blk_cell BK521.out 1).trans rfl; have hfz21_0 := blk_frozen BK521.out 0; have hfz21_1 := blk_frozen BK521.out 1) | ((with_reducible refine gate_callee (f := 44) rfl ?_); refine goesL_ (some 6) rfl rfl Try.func44 (by kernel_rfl) rfl #[.agg #[.int .i64 a0_0, .string a0_1]] rfl zM ?_; (with_reducible refine (spec_IsAcyclic.calls k a0_0 a0_1 false _ A3.out).mono ?_); rintro e w22 ⟨rfl, hb⟩; refine ⟨_, rfl, ?_⟩; have n0_ := Aside0.mk (blk_below (g := gb521) (o := .cells #[.int .i64 a0_0, .string a0_1] 27 (0, 0)) (zK BK521.out) hb); have n1_ := Aside0.mk (below_step (zG GE521.out) hb); clear BK521; clear HB; have BK521 := n0_; have HB := n1_; clear n0_ n1_; (try clear hb); (try clear hb2); (try clear hk); (try clear hi)))
  go_ret
  exact ⟨zE, zG GE521.out⟩
/-! ### impl_chi_extremeIn: function 70 -/
def impl_chi_extremeIn.l0 : Nat → List Int → Int → Int → Int → Option (Int)
 | 0, _, _, _, _ => none
 | k + 1, x0, x1, x5, x6 => if x6 < (rd x0 0) then (if 0 ≤ x6 then (if (Go.bits .and .i64 (shr .i64 x1 x6) 1) = 1 then ((impl_chi_inHull.f k x0 (Go.bits .andNot .i64 x1 (shl .i64 1 x6)) x6).bind fun t526 => (if t526 = true then (impl_chi_extremeIn.l0 k x0 x1 x5 (wrap64 (x6 + 1))) else (impl_chi_extremeIn.l0 k x0 x1 (Go.bits .or .i64 x5 (shl .i64 1 x6)) (wrap64 (x6 + 1))))) else (impl_chi_extremeIn.l0 k x0 x1 x5 (wrap64 (x6 + 1)))) else (none)) else (some x5)
def impl_chi_extremeIn.f (k : Nat) (l0 : List Int) (a1 : Int) : Option (Int) := impl_chi_extremeIn.l0 k l0 a1 0 0
theorem impl_chi_extremeIn.mono_l : ∀ k, (∀ y0 y1 y2 y3, LeO (impl_chi_extremeIn.l0 k y0 y1 y2 y3) (impl_chi_extremeIn.l0 (k + 1) y0 y1 y2 y3))
 | 0 => fun _ _ _ _ r h => by simp [impl_chi_extremeIn.l0] at h
 | k + 1 => by
  have ih0 := impl_chi_extremeIn.mono_l k
  ·intro y0 y1 y2 y3
   unfold impl_chi_extremeIn.l0
   repeat' first
   | (with_reducible exact ih0 _ _ _ _)
   | (with_reducible exact impl_chi_inHull.mono _ _ _ _)
   | (with_reducible exact LeO.refl _)
   | (with_reducible exact LeO.none _)
   | (with_reducible refine LeO.ite ?_ ?_)
   | (with_reducible refine LeO.bind ?_ (fun _ => ?_))
   | exact ih0 _ _ _ _
   | exact impl_chi_inHull.mono _ _ _ _
   | exact LeO.none _
   | refine LeO.ite ?_ ?_
   | refine LeO.bind ?_ (fun _ => ?_)
theorem impl_chi_extremeIn.mono : ∀ a0 a1 k, LeO (impl_chi_extremeIn.f k a0 a1) (impl_chi_extremeIn.f (k + 1) a0 a1) := by
 intro a0 a1 k
 have ih0 := impl_chi_extremeIn.mono_l k
 unfold impl_chi_extremeIn.f
 repeat' first
   | (with_reducible exact ih0 _ _ _ _)
   | (with_reducible exact impl_chi_inHull.mono _ _ _ _)
   | (with_reducible exact LeO.refl _)
   | (with_reducible exact LeO.none _)
   | (with_reducible refine LeO.ite ?_ ?_)
   | (with_reducible refine LeO.bind ?_ (fun _ => ?_))
   | exact ih0 _ _ _ _
   | exact impl_chi_inHull.mono _ _ _ _
   | exact LeO.none _
   | refine LeO.ite ?_ ?_
   | refine LeO.bind ?_ (fun _ => ?_)
set_option maxHeartbeats 8000000 in
set_option maxRecDepth 100000 in
theorem impl_chi_extremeIn.calls (k : Nat) (g0 : Nat) (l0 : List Int) (a1 : Int) (r : Int) (w : World) (hr0 : Kd.C (Kd.int .i64) w (some ⟨g0, 0, none⟩) l0.length l0) (hc0 : l0.length = 344) (h : impl_chi_extremeIn.f k l0 a1 = some r) :
  Calls Try.prog 70 #[.pointer (some ⟨g0, 0, none⟩), .int .i64 a1] w fun e w' => e = .returned (.int .i64 r) ∧ Below w.heap.size w w' := by
 have hu84 := Try.underlying84
 have HR0 := Aside0.mk hr0
 have HC0 := Aside0.mk hc0
 clear hr0 hc0
 have HB := Aside0.mk (Below.refl w.heap.size w)
 have H : (impl_chi_extremeIn.l0 k l0 a1 0 0) = some r := h
 clear h
 have H' := Aside0.mk H
 clear H
 go_enter Try.func70, Try.ntmps70
 go_wp2
 go_loopg [5, 6] k (fun kq v5 v6 w' => ∃ (x5_1 : Int) (x6_1 : Int), v5 = .int .i64 x5_1 ∧ v6 = .int .i64 x6_1 ∧ Aside0 (impl_chi_extremeIn.l0 kq l0 a1 x5_1 x6_1 = some r) ∧ Aside0 (kq ≤ k) ∧ Aside0 (Below w.heap.size w w'))
 case atStart => exact ⟨(0), (0), zF, zF, H', ⟨Nat.le_refl _⟩, ⟨zB⟩⟩
 case round =>
  clear H'
  try clear p2
  obtain ⟨x5_1, x6_1, rfl, rfl, HA, HK1, HB⟩ := hrel
  cases gk with
  | zero => exact absurd HA.out (by simp [impl_chi_extremeIn.l0])
  | succ k1 =>
   have H := HA.out
   clear HA
   simp only [impl_chi_extremeIn.l0] at H
   by_cases c3 : x6_1 < (rd l0 0)
   ·rw [if_pos c3] at H
    have c3b0 : decide (x6_1 < (rd l0 0)) = true := decide_eq_true c3
    clear c3
    by_cases c4 : 0 ≤ x6_1
    ·rw [if_pos c4] at H
     have c4b0 := eq_true c4
     have c4b1 : decide (0 ≤ x6_1) = true := decide_eq_true c4
     clear c4
     obtain ⟨ji5, hji5⟩ : ∃ j_ : Int, (shr .i64 a1 x6_1) = j_ := ⟨_, rfl⟩
     replace H : (if (Go.bits .and .i64 (ji5) 1) = 1 then ((impl_chi_inHull.f k1 l0 (Go.bits .andNot .i64 a1 (shl .i64 1 x6_1)) x6_1).bind fun t526 => (if t526 = true then (impl_chi_extremeIn.l0 k1 l0 a1 x5_1 (wrap64 (x6_1 + 1))) else (impl_chi_extremeIn.l0 k1 l0 a1 (Go.bits .or .i64 x5_1 (shl .i64 1 x6_1)) (wrap64 (x6_1 + 1))))) else (impl_chi_extremeIn.l0 k1 l0 a1 x5_1 (wrap64 (x6_1 + 1)))) = some r := by first | (rw [hji5] at H; exact H) | (simp only [hji5] at H ⊢; exact H)
     have hji5_ : (a1 / 2 ^ min x6_1.toNat 64) = ji5 := hji5
     have hji5z : x6_1 ≤ 64 → (a1 / 2 ^ x6_1.toNat) = ji5 := shr_small hji5
     by_cases c6 : (Go.bits .and .i64 (ji5) 1) = 1
     ·rw [if_pos c6] at H
      have c6b0 : ((Go.bits .and .i64 (ji5) 1) == 1) = true := beq_iff_eq.mpr c6
      have c6b1 : ((Go.bits .and .i64 (ji5) 1) != 1) = false := bne_eq_false_iff_eq.mpr c6
      clear c6
      have c7b0 := eq_true (zA : 0 ≤ x6_1)
      obtain ⟨ji8, hji8⟩ : ∃ j_ : Int, (shl .i64 1 x6_1) = j_ := ⟨_, rfl⟩
      replace H : ((impl_chi_inHull.f k1 l0 (Go.bits .andNot .i64 a1 (ji8)) x6_1).bind fun t526 => (if t526 = true then (impl_chi_extremeIn.l0 k1 l0 a1 x5_1 (wrap64 (x6_1 + 1))) else (impl_chi_extremeIn.l0 k1 l0 a1 (Go.bits .or .i64 x5_1 (ji8)) (wrap64 (x6_1 + 1))))) = some r := by first | (rw [hji8] at H; exact H) | (simp only [hji8] at H ⊢; exact H)
      have hji8_ : (IntKind.i64.wrap (1 * 2 ^ min x6_1.toNat 64)) = ji8 := hji8
      have hji8z : x6_1 ≤ 64 → (IntKind.i64.wrap (1 * 2 ^ x6_1.toNat)) = ji8 := shl_small hji8
      have hji8u : (IntKind.i64.wrap (2 ^ min x6_1.toNat 64)) = ji8 := by have h_ := hji8_; rw [Int.one_mul] at h_; exact h_
      have hji8v : x6_1 ≤ 64 → (IntKind.i64.wrap (2 ^ x6_1.toNat)) = ji8 := fun hle_ => by have h_ := hji8z hle_; rw [Int.one_mul] at h_; exact h_
      have hji8y : (wrap64 (1 * 2 ^ min x6_1.toNat 64)) = ji8 := (i64_w _).symm.trans hji8_
      have hji8x : x6_1 ≤ 64 → (wrap64 (1 * 2 ^ x6_1.toNat)) = ji8 := fun h_ => (i64_w _).symm.trans (hji8z h_)
      replace H := Option.bind_eq_some_iff.mp H
      obtain ⟨t526, A90, H⟩ := H
      replace H : (if t526 = true then (impl_chi_extremeIn.l0 k1 l0 a1 x5_1 (wrap64 (x6_1 + 1))) else (impl_chi_extremeIn.l0 k1 l0 a1 (Go.bits .or .i64 x5_1 (ji8)) (wrap64 (x6_1 + 1)))) = some r := H
      have A9 := Aside0.mk A90
      clear A90
      by_cases c10 : t526 = true
      ·subst c10
       have H1 : (impl_chi_extremeIn.l0 k1 l0 a1 x5_1 (wrap64 (x6_1 + 1))) = some r := by rw [if_pos rfl] at H; exact H
       clear H
       have H := H1
       clear H1
       have H' := Aside0.mk H
       clear H
       have hL525 := HC0.out
       have dq525 : decide (0 < (l0.length : Int)) = true := decide_eq_true (by omega)
       clear hL525
       have p525 : 0 ≤ (0 : Int) := (by omega)
       have q525 : 0 < (l0.length : Int) := zA
       obtain ⟨ad525, e525, hx525_0⟩ := Kd.at_int HR0.out 0 p525 q525
       obtain rfl : (⟨g0, 0, none⟩ : Addr) = ad525 := (by injection e525)
       (first | simp only [add_plain] at hx525_0 | simp only [add_at] at hx525_0 | simp only [Addr.add, Nat.zero_add] at hx525_0 | skip)
       have qi525 : (0 < l0.length) = True := eq_true (by omega)
       (try rw [show ((0 : Int)).toNat = 0 from rfl] at hx525_0)
       (try rw [Addr.add_zero'] at hx525_0)
       replace hx525_0 := (HB.out.cell (World.block_lt_of_cell? w _ hx525_0)).trans hx525_0
       replace p525 := eq_true p525
       replace q525 := eq_true q525
       clear dq525
       go_wp2_with (first | (go_at_call 69; (with_reducible refine (impl_chi_inHull.calls k1 _ l0 (Go.bits .andNot .i64 a1 (ji8)) x6_1 true _ ?side1 ?side2 A9.out).mono ?_); (case side1 => repeat (first | exact (Kd.C_below HR0.out HB.out) | (with_reducible refine Kd.C_alloc ?_ _) | (with_reducible refine Kd.C_drewN ?_ _) | (with_reducible refine Kd.C_drew ?_))); (case side2 => exact HC0.out); rintro e w11 ⟨rfl, hb⟩; have n0_ := Aside0.mk (below_step zB hb); clear HB; have HB := n0_; clear n0_; (try clear hb); (try clear hb2); (try clear hk); (try clear hi)))
       go_roundg k1
       case measure => have := HK1.out; omega
       case rel => exact ⟨(x5_1), (wrap64 (x6_1 + 1)), zF, zF, H', ⟨by have := HK1.out; omega⟩, ⟨zB⟩⟩
      ·replace c10 := Bool.eq_false_iff.mpr c10
       subst c10
       have H1 : (impl_chi_extremeIn.l0 k1 l0 a1 (Go.bits .or .i64 x5_1 (ji8)) (wrap64 (x6_1 + 1))) = some r := by rw [if_neg (show ¬ (false = true) by decide)] at H; exact H
       clear H
       have H := H1
       clear H1
       have c12b0 := eq_true (zA : 0 ≤ x6_1)
       have H' := Aside0.mk H
       clear H
       have hL525 := HC0.out
       have dq525 : decide (0 < (l0.length : Int)) = true := decide_eq_true (by omega)
       clear hL525
       have p525 : 0 ≤ (0 : Int) := (by omega)
       have q525 : 0 < (l0.length : Int) := zA
       obtain ⟨ad525, e525, hx525_0⟩ := Kd.at_int HR0.out 0 p525 q525
       obtain rfl : (⟨g0, 0, none⟩ : Addr) = ad525 := (by injection e525)
       (first | simp only [add_plain] at hx525_0 | simp only [add_at] at hx525_0 | simp only [Addr.add, Nat.zero_add] at hx525_0 | skip)
       have qi525 : (0 < l0.length) = True := eq_true (by omega)
       (try rw [show ((0 : Int)).toNat = 0 from rfl] at hx525_0)
       (try rw [Addr.add_zero'] at hx525_0)
       replace hx525_0 := (HB.out.cell (World.block_lt_of_cell? w _ hx525_0)).trans hx525_0
       replace p525 := eq_true p525
       replace q525 := eq_true q525
       clear dq525
       go_wp2_with (first | (go_at_call 69; (with_reducible refine (impl_chi_inHull.calls k1 _ l0 (Go.bits .andNot .i64 a1 (ji8)) x6_1 false _ ?side1 ?side2 A9.out).mono ?_); (case side1 => repeat (first | exact (Kd.C_below HR0.out HB.out) | (with_reducible refine Kd.C_alloc ?_ _) | (with_reducible refine Kd.C_drewN ?_ _) | (with_reducible refine Kd.C_drew ?_))); (case side2 => exact HC0.out); rintro e w14 ⟨rfl, hb⟩; have n0_ := Aside0.mk (below_step zB hb); clear HB; have HB := n0_; clear n0_; (try clear hb); (try clear hb2); (try clear hk); (try clear hi)))
       go_roundg k1
       case measure => have := HK1.out; omega
       case rel => exact ⟨(Go.bits .or .i64 x5_1 (ji8)), (wrap64 (x6_1 + 1)), (by first | rfl | (simp; done) | (simp only [← hji8] <;> (first | rfl | simp)) | (simp [*]; done)), zF, H', ⟨by have := HK1.out; omega⟩, ⟨zB⟩⟩
     ·rw [if_neg c6] at H
      have c6b0 : ((Go.bits .and .i64 (ji5) 1) == 1) = false := beq_eq_false_iff_ne.mpr c6
      have c6b1 : ((Go.bits .and .i64 (ji5) 1) != 1) = true := bne_iff_ne.mpr c6
      have H' := Aside0.mk H
      clear H
      have hL525 := HC0.out
      have dq525 : decide (0 < (l0.length : Int)) = true := decide_eq_true (by omega)
      clear hL525
      have p525 : 0 ≤ (0 : Int) := (by omega)
      have q525 : 0 < (l0.length : Int) := zA
      obtain ⟨ad525, e525, hx525_0⟩ := Kd.at_int HR0.out 0 p525 q525
      obtain rfl : (⟨g0, 0, none⟩ : Addr) = ad525 := (by injection e525)
      (first | simp only [add_plain] at hx525_0 | simp only [add_at] at hx525_0 | simp only [Addr.add, Nat.zero_add] at hx525_0 | skip)
      have qi525 : (0 < l0.length) = True := eq_true (by omega)
      (try rw [show ((0 : Int)).toNat = 0 from rfl] at hx525_0)
      (try rw [Addr.add_zero'] at hx525_0)
      replace hx525_0 := (HB.out.cell (World.block_lt_of_cell? w _ hx525_0)).trans hx525_0
      replace p525 := eq_true p525
      replace q525 := eq_true q525
      clear dq525
      go_wp2
      go_roundg k1
      case measure => have := HK1.out; omega
      case rel => exact ⟨(x5_1), (wrap64 (x6_1 + 1)), zF, zF, H', ⟨by have := HK1.out; omega⟩, ⟨zB⟩⟩
    ·rw [if_neg c4] at H
     exact absurd H (by simp)
   ·rw [if_neg c3] at H
    have c3b0 : decide (x6_1 < (rd l0 0)) = false := decide_eq_false c3
    clear c3
    obtain rfl := Option.some.inj H
    have hL525 := HC0.out
    have dq525 : decide (0 < (l0.length : Int)) = true := decide_eq_true (by omega)
    clear hL525
    have p525 : 0 ≤ (0 : Int) := (by omega)
    have q525 : 0 < (l0.length : Int) := zA
    obtain ⟨ad525, e525, hx525_0⟩ := Kd.at_int HR0.out 0 p525 q525
    obtain rfl : (⟨g0, 0, none⟩ : Addr) = ad525 := (by injection e525)
    (first | simp only [add_plain] at hx525_0 | simp only [add_at] at hx525_0 | simp only [Addr.add, Nat.zero_add] at hx525_0 | skip)
    have qi525 : (0 < l0.length) = True := eq_true (by omega)
    (try rw [show ((0 : Int)).toNat = 0 from rfl] at hx525_0)
    (try rw [Addr.add_zero'] at hx525_0)
    replace hx525_0 := (HB.out.cell (World.block_lt_of_cell? w _ hx525_0)).trans hx525_0
    replace p525 := eq_true p525
    replace q525 := eq_true q525
    clear dq525
    go_wp2
    go_ret
    exact ⟨zE, zB⟩
/-! ### impl_IsExtreme: function 37 -/
def impl_IsExtreme.f (k : Nat) (a0_0 : Int) (a0_1 : ByteArray) (a1 : Int) : Option (Bool) := (impl_orderOf.f k a0_0 a0_1).bind fun bt528 => (if bt528.2 = true then ((impl_isElement.f a0_0 a1).bind fun t532 => (if t532 = true then ((impl_fullSet.f a0_0).bind fun t533 => (if bt528.1.length = 344 then ((impl_chi_extremeIn.f k bt528.1 t533).bind fun t534 => (if 0 ≤ a1 then (some ((Go.bits .and .i64 (shr .i64 t534 a1) 1) == 1)) else (none))) else (none))) else (some false))) else (some false))
theorem impl_IsExtreme.mono : ∀ a0 a1 a2 k, LeO (impl_IsExtreme.f k a0 a1 a2) (impl_IsExtreme.f (k + 1) a0 a1 a2) := by
 intro a0 a1 a2 k
 unfold impl_IsExtreme.f
 repeat' first
   | (with_reducible exact impl_chi_extremeIn.mono _ _ _)
   | (with_reducible exact impl_orderOf.mono _ _ _)
   | (with_reducible exact LeO.refl _)
   | (with_reducible exact LeO.none _)
   | (with_reducible refine LeO.ite ?_ ?_)
   | (with_reducible refine LeO.bind ?_ (fun _ => ?_))
   | exact impl_chi_extremeIn.mono _ _ _
   | exact impl_orderOf.mono _ _ _
   | exact LeO.none _
   | refine LeO.ite ?_ ?_
   | refine LeO.bind ?_ (fun _ => ?_)
set_option maxHeartbeats 8000000 in
set_option maxRecDepth 100000 in
theorem impl_IsExtreme.calls (k : Nat) (a0_0 : Int) (a0_1 : ByteArray) (a1 : Int) (r : Bool) (w : World) (h : impl_IsExtreme.f k a0_0 a0_1 a1 = some r) :
  Calls Try.prog 37 #[.agg #[.int .i64 a0_0, .string a0_1], .int .i64 a1] w fun e w' => e = .returned (.bool r) ∧ Below w.heap.size w w' := by
 have hu27 := Try.underlying27
 have HB := Aside0.mk (Below.refl w.heap.size w)
 have H : ((impl_orderOf.f k a0_0 a0_1).bind fun bt528 => (if bt528.2 = true then ((impl_isElement.f a0_0 a1).bind fun t532 => (if t532 = true then ((impl_fullSet.f a0_0).bind fun t533 => (if bt528.1.length = 344 then ((impl_chi_extremeIn.f k bt528.1 t533).bind fun t534 => (if 0 ≤ a1 then (some ((Go.bits .and .i64 (shr .i64 t534 a1) 1) == 1)) else (none))) else (none))) else (some false))) else (some false))) = some r := h
 clear h
 replace H := Option.bind_eq_some_iff.mp H
 obtain ⟨⟨t528, t531⟩, A30, H⟩ := H
 replace H : (if t531 = true then ((impl_isElement.f a0_0 a1).bind fun t532 => (if t532 = true then ((impl_fullSet.f a0_0).bind fun t533 => (if t528.length = 344 then ((impl_chi_extremeIn.f k t528 t533).bind fun t534 => (if 0 ≤ a1 then (some ((Go.bits .and .i64 (shr .i64 t534 a1) 1) == 1)) else (none))) else (none))) else (some false))) else (some false)) = some r := H
 have A3 := Aside0.mk A30
 clear A30
 by_cases c4 : t531 = true
 ·subst c4
  have H1 : ((impl_isElement.f a0_0 a1).bind fun t532 => (if t532 = true then ((impl_fullSet.f a0_0).bind fun t533 => (if t528.length = 344 then ((impl_chi_extremeIn.f k t528 t533).bind fun t534 => (if 0 ≤ a1 then (some ((Go.bits .and .i64 (shr .i64 t534 a1) 1) == 1)) else (none))) else (none))) else (some false))) = some r := by rw [if_pos rfl] at H; exact H
  clear H
  have H := H1
  clear H1
  replace H := Option.bind_eq_some_iff.mp H
  obtain ⟨t532, A50, H⟩ := H
  replace H : (if t532 = true then ((impl_fullSet.f a0_0).bind fun t533 => (if t528.length = 344 then ((impl_chi_extremeIn.f k t528 t533).bind fun t534 => (if 0 ≤ a1 then (some ((Go.bits .and .i64 (shr .i64 t534 a1) 1) == 1)) else (none))) else (none))) else (some false)) = some r := H
  have A5 := Aside0.mk A50
  clear A50
  by_cases c6 : t532 = true
  ·subst c6
   have H1 : ((impl_fullSet.f a0_0).bind fun t533 => (if t528.length = 344 then ((impl_chi_extremeIn.f k t528 t533).bind fun t534 => (if 0 ≤ a1 then (some ((Go.bits .and .i64 (shr .i64 t534 a1) 1) == 1)) else (none))) else (none))) = some r := by rw [if_pos rfl] at H; exact H
   clear H
   have H := H1
   clear H1
   replace H := Option.bind_eq_some_iff.mp H
   obtain ⟨t533, A70, H⟩ := H
   replace H : (if t528.length = 344 then ((impl_chi_extremeIn.f k t528 t533).bind fun t534 => (if 0 ≤ a1 then (some ((Go.bits .and .i64 (shr .i64 t534 a1) 1) == 1)) else (none))) else (none)) = some r := H
   have A7 := Aside0.mk A70
   clear A70
   by_cases c8 : t528.length = 344
   ·rw [if_pos c8] at H
    have c8b0 := eq_true c8
    have c8b1 : decide (t528.length = 344) = true := decide_eq_true c8
    clear c8
    replace H := Option.bind_eq_some_iff.mp H
    obtain ⟨t534, A90, H⟩ := H
    replace H : (if 0 ≤ a1 then (some ((Go.bits .and .i64 (shr .i64 t534 a1) 1) == 1)) else (none)) = some r := H
    have A9 := Aside0.mk A90
    clear A90
    by_cases c10 : 0 ≤ a1
    ·rw [if_pos c10] at H
     have c10b0 := eq_true c10
     have c10b1 : decide (0 ≤ a1) = true := decide_eq_true c10
     clear c10
     obtain ⟨ji11, hji11⟩ : ∃ j_ : Int, (shr .i64 t534 a1) = j_ := ⟨_, rfl⟩
     replace H : (some ((Go.bits .and .i64 (ji11) 1) == 1)) = some r := by first | (rw [hji11] at H; exact H) | (simp only [hji11] at H ⊢; exact H)
     (try rw [hji11] at A3)
     (try rw [hji11] at A5)
     (try rw [hji11] at A7)
     (try rw [hji11] at A9)
     have hji11_ : (t534 / 2 ^ min a1.toNat 64) = ji11 := hji11
     have hji11z : a1 ≤ 64 → (t534 / 2 ^ a1.toNat) = ji11 := shr_small hji11
     obtain rfl := Option.some.inj H
     go_enter Try.func37, Try.ntmps37
     go_wp2_with (first | ((with_reducible refine gate_dst (N := 2) rfl ?_); refine box_event ?hg (N := 2) ?hd (cs := #[.int .i64 a0_0, .string a0_1]) (t := 27) ?hr ?_; (case hd => rfl); (case hg => rfl); (case hr => first | (go_simp; done) | (go_simp; rfl)); intro gb527 hg w12 hbox hb; have n0_ := Aside0.mk (below_step zB hb); have n1_ := Aside0.mk (hbox); have n2_ := Aside0.mk ((by rw [hg]; exact (below_size zB) : w.heap.size ≤ gb527)); have n3_ := Aside0.mk ((by rw [hg]; exact (below_size zB) : w.heap.size ≤ gb527)); clear HB; have HB := n0_; have BK527 := n1_; have GW527 := n2_; have GE527 := n3_; clear n0_ n1_ n2_ n3_; clear hb hbox hg; have hcz13_0 : w12.cell? ⟨gb527, 0, none⟩ = some (.int .i64 a0_0) := (blk_cell BK527.out 0).trans rfl; have hcz13_1 : w12.cell? ⟨gb527, 1, none⟩ = some (.string a0_1) := (blk_cell BK527.out 1).trans rfl; have hfz13_0 := blk_frozen BK527.out 0; have hfz13_1 := blk_frozen BK527.out 1) | ((with_reducible refine gate_callee (f := 47) rfl ?_); refine goesL_ (some 9) rfl rfl Try.func47 (by kernel_rfl) rfl #[.agg #[.int .i64 a0_0, .string a0_1]] rfl zM ?_; (with_reducible refine (impl_orderOf.calls k a0_0 a0_1 t528 true _ A3.out).mono ?_); rintro e w14 ⟨v529, rfl, ho0, hb⟩; refine ⟨_, rfl, ?_⟩; have n0_ := Aside0.mk (Kd.R_lower ho0 (below_size (zG GE527.out))); have n1_ := Aside0.mk (blk_below (g := gb527) (o := .cells #[.int .i64 a0_0, .string a0_1] 27 (0, 0)) (zK BK527.out) hb); have n2_ := Aside0.mk (below_step (zG GE527.out) hb); clear BK527; clear HB; have HO530 := n0_; have BK527 := n1_; have HB := n2_; clear n0_ n1_ n2_; (try clear hb); (try clear hb2); (try clear hk); (try clear hi); (try clear ho0); have hcz15_0 : w14.cell? ⟨gb527, 0, none⟩ = some (.int .i64 a0_0) := (blk_cell BK527.out 0).trans rfl; have hcz15_1 : w14.cell? ⟨gb527, 1, none⟩ = some (.string a0_1) := (blk_cell BK527.out 1).trans rfl; have hfz15_0 := blk_frozen BK527.out 0; have hfz15_1 := blk_frozen BK527.out 1) | (go_at_call 68; (with_reducible refine (impl_isElement.calls a0_0 a1 true _ A5.out).mono ?_); rintro e w' ⟨rfl, ⟨nd, rfl⟩⟩) | (go_at_call 71; (with_reducible refine (impl_fullSet.calls a0_0 t533 _ A7.out).mono ?_); rintro e w' ⟨rfl, ⟨nd, rfl⟩⟩; obtain ⟨go16, co16, eo16, gb16, gl16, cl16, HG16⟩ := Kd.R_form HO530.out (by have hl_ := Nat.le_of_eq (Eq.symm (zA : t528.length = 344)); omega); (first | cases eo16 | (injection eo16 with ea_ en_ ec_; (first | subst ea_ | (injection ea_ with ea_; subst ea_)); subst ec_; clear en_)); have GB16 := Aside0.mk gb16; have GG16 := Aside0.mk HG16; clear gb16 gl16 HG16) | (go_at_call 70; (with_reducible refine (impl_chi_extremeIn.calls k _ t528 t533 t534 _ ?side1 ?side2 A9.out).mono ?_); (case side1 => repeat (first | exact (Kd.R_reads' HO530.out).2.2 | (with_reducible refine Kd.C_alloc ?_ _) | (with_reducible refine Kd.C_drewN ?_ _) | (with_reducible refine Kd.C_drew ?_))); (case side2 => exact (zA : t528.length = 344)); rintro e w17 ⟨rfl, hb⟩; have n0_ := Aside0.mk (Kd.R_below (zR HO530.out) hb); have n1_ := Aside0.mk (blk_below (g := gb527) (o := .cells #[.int .i64 a0_0, .string a0_1] 27 (0, 0)) (zK BK527.out) hb); have n2_ := Aside0.mk (below_step (zG GE527.out) hb); clear HO530; clear BK527; clear HB; have HO530 := n0_; have BK527 := n1_; have HB := n2_; clear n0_ n1_ n2_; (try clear hb); (try clear hb2); (try clear hk); (try clear hi)))
     go_ret
     exact ⟨by first | rfl | (simp [errW_none, errW_some] <;> rfl) | (simp only [← hji11]; first | rfl | (simp [errW_none, errW_some] <;> rfl)) | (simp [*, errW_none, errW_some] <;> rfl), zG GE527.out⟩
    ·rw [if_neg c10] at H
     exact absurd H (by simp)
   ·rw [if_neg c8] at H
    exact absurd H (by simp)
  ·replace c6 := Bool.eq_false_iff.mpr c6
   subst c6
   have H1 : (some false) = some r := by rw [if_neg (show ¬ (false = true) by decide)] at H; exact H
   clear H
   have H := H1
   clear H1
   obtain rfl := Option.some.inj H
   go_enter Try.func37, Try.ntmps37
   go_wp2_with (first | ((with_reducible refine gate_dst (N := 2) rfl ?_); refine box_event ?hg (N := 2) ?hd (cs := #[.int .i64 a0_0, .string a0_1]) (t := 27) ?hr ?_; (case hd => rfl); (case hg => rfl); (case hr => first | (go_simp; done) | (go_simp; rfl)); intro gb527 hg w18 hbox hb; have n0_ := Aside0.mk (below_step zB hb); have n1_ := Aside0.mk (hbox); have n2_ := Aside0.mk ((by rw [hg]; exact (below_size zB) : w.heap.size ≤ gb527)); have n3_ := Aside0.mk ((by rw [hg]; exact (below_size zB) : w.heap.size ≤ gb527)); clear HB; have HB := n0_; have BK527 := n1_; have GW527 := n2_; have GE527 := n3_; clear n0_ n1_ n2_ n3_; clear hb hbox hg; have hcz19_0 : w18.cell? ⟨gb527, 0, none⟩ = some (.int .i64 a0_0) := (blk_cell BK527.out 0).trans rfl; have hcz19_1 : w18.cell? ⟨gb527, 1, none⟩ = some (.string a0_1) := (blk_cell BK527.out 1).trans rfl; have hfz19_0 := blk_frozen BK527.out 0; have hfz19_1 := blk_frozen BK527.out 1) | ((with_reducible refine gate_callee (f := 47) rfl ?_); refine goesL_ (some 9) rfl rfl Try.func47 (by kernel_rfl) rfl #[.agg #[.int .i64 a0_0, .string a0_1]] rfl zM ?_; (with_reducible refine (impl_orderOf.calls k a0_0 a0_1 t528 true _ A3.out).mono ?_); rintro e w20 ⟨v529, rfl, ho0, hb⟩; refine ⟨_, rfl, ?_⟩; have n0_ := Aside0.mk (Kd.R_lower ho0 (below_size (zG GE527.out))); have n1_ := Aside0.mk (blk_below (g := gb527) (o := .cells #[.int .i64 a0_0, .string a0_1] 27 (0, 0)) (zK BK527.out) hb); have n2_ := Aside0.mk (below_step (zG GE527.out) hb); clear BK527; clear HB; have HO530 := n0_; have BK527 := n1_; have HB := n2_; clear n0_ n1_ n2_; (try clear hb); (try clear hb2); (try clear hk); (try clear hi); (try clear ho0); have hcz21_0 : w20.cell? ⟨gb527, 0, none⟩ = some (.int .i64 a0_0) := (blk_cell BK527.out 0).trans rfl; have hcz21_1 : w20.cell? ⟨gb527, 1, none⟩ = some (.string a0_1) := (blk_cell BK527.out 1).trans rfl; have hfz21_0 := blk_frozen BK527.out 0; have hfz21_1 := blk_frozen BK527.out 1) | (go_at_call 68; (with_reducible refine (impl_isElement.calls a0_0 a1 false _ A5.out).mono ?_); rintro e w' ⟨rfl, ⟨nd, rfl⟩⟩))
   go_ret
   exact ⟨zE, zG GE527.out⟩
 ·replace c4 := Bool.eq_false_iff.mpr c4
  subst c4
  have H1 : (some false) = some r := by rw [if_neg (show ¬ (false = true) by decide)] at H; exact H
  clear H
  have H := H1
  clear H1
  obtain rfl := Option.some.inj H
  go_enter Try.func37, Try.ntmps37
  go_wp2_with (first | ((with_reducible refine gate_dst (N := 2) rfl ?_); refine box_event ?hg (N := 2) ?hd (cs := #[.int .i64 a0_0, .string a0_1]) (t := 27) ?hr ?_; (case hd => rfl); (case hg => rfl); (case hr => first | (go_simp; done) | (go_simp; rfl)); intro gb527 hg w22 hbox hb; have n0_ := Aside0.mk (below_step zB hb); have n1_ := Aside0.mk (hbox); have n2_ := Aside0.mk ((by rw [hg]; exact (below_size zB) : w.heap.size ≤ gb527)); have n3_ := Aside0.mk ((by rw [hg]; exact (below_size zB) : w.heap.size ≤ gb527)); clear HB; have HB := n0_; have BK527 := n1_; have GW527 := n2_; have GE527 := n3_; clear n0_ n1_ n2_ n3_; clear hb hbox hg; have hcz23_0 : w22.cell? ⟨gb527, 0, none⟩ = some (.int .i64 a0_0) := (blk_cell BK527.out 0).trans rfl; have hcz23_1 : w22.cell? ⟨gb527, 1, none⟩ = some (.string a0_1) := (blk_cell BK527.out 1).trans rfl; have hfz23_0 := blk_frozen BK527.out 0; have hfz23_1 := blk_frozen BK527.out 1) | ((with_reducible refine gate_callee (f := 47) rfl ?_); refine goesL_ (some 9) rfl rfl Try.func47 (by kernel_rfl) rfl #[.agg #[.int .i64 a0_0, .string a0_1]] rfl zM ?_; (with_reducible refine (impl_orderOf.calls k a0_0 a0_1 t528 false _ A3.out).mono ?_); rintro e w24 ⟨v529, rfl, ho0, hb⟩; refine ⟨_, rfl, ?_⟩; have n0_ := Aside0.mk (Kd.R_lower ho0 (below_size (zG GE527.out))); have n1_ := Aside0.mk (blk_below (g := gb527) (o := .cells #[.int .i64 a0_0, .string a0_1] 27 (0, 0)) (zK BK527.out) hb); have n2_ := Aside0.mk (below_step (zG GE527.out) hb); clear BK527; clear HB; have HO530 := n0_; have BK527 := n1_; have HB := n2_; clear n0_ n1_ n2_; (try clear hb); (try clear hb2); (try clear hk); (try clear hi); (try clear ho0)))
  go_ret
  exact ⟨zE, zG GE527.out⟩
/-! ### spec_l6Extreme: function 73 -/
def spec_l6Extreme.l0 : Nat → Int → Int → Int → Int → ByteArray → Option (Int)
 | 0, _, _, _, _, _ => none
 | k + 1, x1, x5, x6, x551000, x551001 => if x6 < x551000 then ((spec_l6Has.f x1 x6).bind fun t551 => (if t551 = true then ((spec_l6In.f k x551000 x551001 x1 x6).bind fun t552 => (if t552 = true then (spec_l6Extreme.l0 k x1 x5 (wrap64 (x6 + 1)) x551000 x551001) else (if 0 ≤ (IntKind.u64.wrap (x6)) then (spec_l6Extreme.l0 k x1 (wrap64 (x5 + (shl .i64 1 (IntKind.u64.wrap (x6))))) (wrap64 (x6 + 1)) x551000 x551001) else (none)))) else (spec_l6Extreme.l0 k x1 x5 (wrap64 (x6 + 1)) x551000 x551001))) else (some x5)
def spec_l6Extreme.f (k : Nat) (a0_0 : Int) (a0_1 : ByteArray) (a1 : Int) : Option (Int) := spec_l6Extreme.l0 k a1 0 0 a0_0 a0_1
theorem spec_l6Extreme.mono_l : ∀ k, (∀ y0 y1 y2 y3 y4, LeO (spec_l6Extreme.l0 k y0 y1 y2 y3 y4) (spec_l6Extreme.l0 (k + 1) y0 y1 y2 y3 y4))
 | 0 => fun _ _ _ _ _ r h => by simp [spec_l6Extreme.l0] at h
 | k + 1 => by
  have ih0 := spec_l6Extreme.mono_l k
  ·intro y0 y1 y2 y3 y4
   unfold spec_l6Extreme.l0
   repeat' first
   | (with_reducible exact ih0 _ _ _ _ _)
   | (with_reducible exact spec_l6In.mono _ _ _ _ _)
   | (with_reducible exact LeO.refl _)
   | (with_reducible exact LeO.none _)
   | (with_reducible refine LeO.ite ?_ ?_)
   | (with_reducible refine LeO.bind ?_ (fun _ => ?_))
   | exact ih0 _ _ _ _ _
   | exact spec_l6In.mono _ _ _ _ _
   | exact LeO.none _
   | refine LeO.ite ?_ ?_
   | refine LeO.bind ?_ (fun _ => ?_)
theorem spec_l6Extreme.mono : ∀ a0 a1 a2 k, LeO (spec_l6Extreme.f k a0 a1 a2) (spec_l6Extreme.f (k + 1) a0 a1 a2) := by
 intro a0 a1 a2 k
 have ih0 := spec_l6Extreme.mono_l k
 unfold spec_l6Extreme.f
 repeat' first
   | (with_reducible exact ih0 _ _ _ _ _)
   | (with_reducible exact spec_l6In.mono _ _ _ _ _)
   | (with_reducible exact LeO.refl _)
   | (with_reducible exact LeO.none _)
   | (with_reducible refine LeO.ite ?_ ?_)
   | (with_reducible refine LeO.bind ?_ (fun _ => ?_))
   | exact ih0 _ _ _ _ _
   | exact spec_l6In.mono _ _ _ _ _
   | exact LeO.none _
   | refine LeO.ite ?_ ?_
   | refine LeO.bind ?_ (fun _ => ?_)
set_option maxHeartbeats 8000000 in
set_option maxRecDepth 100000 in
theorem spec_l6Extreme.calls (k : Nat) (a0_0 : Int) (a0_1 : ByteArray) (a1 : Int) (r : Int) (w : World) (h : spec_l6Extreme.f k a0_0 a0_1 a1 = some r) :
  Calls Try.prog 73 #[.agg #[.int .i64 a0_0, .string a0_1], .int .i64 a1] w fun e w' => e = .returned (.int .i64 r) ∧ Below w.heap.size w w' := by
 have hu27 := Try.underlying27
 have HB := Aside0.mk (Below.refl w.heap.size w)
 have H : (spec_l6Extreme.l0 k a1 0 0 a0_0 a0_1) = some r := h
 clear h
 have H' := Aside0.mk H
 clear H
 go_enter Try.func73, Try.ntmps73
 go_wp2_with (first | ((with_reducible refine gate_dst (N := 2) rfl ?_); refine box_event ?hg (N := 2) ?hd (cs := #[.int .i64 a0_0, .string a0_1]) (t := 27) ?hr ?_; (case hd => rfl); (case hg => rfl); (case hr => first | (go_simp; done) | (go_simp; rfl)); intro gb550 hg w3 hbox hb; have n0_ := Aside0.mk (below_step zB hb); have n1_ := Aside0.mk (hbox); have n2_ := Aside0.mk ((by rw [hg]; exact (below_size zB) : w.heap.size ≤ gb550)); have n3_ := Aside0.mk ((by rw [hg]; exact (below_size zB) : w.heap.size ≤ gb550)); clear HB; have HB := n0_; have BK550 := n1_; have GW550 := n2_; have GE550 := n3_; clear n0_ n1_ n2_ n3_; clear hb hbox hg))
 go_loopg [5, 6] k (fun kq v5 v6 w' => ∃ (x5_1 : Int) (x6_1 : Int), v5 = .int .i64 x5_1 ∧ v6 = .int .i64 x6_1 ∧ Aside0 (spec_l6Extreme.l0 kq a1 x5_1 x6_1 a0_0 a0_1 = some r) ∧ Aside0 (kq ≤ k) ∧ Aside0 (w'.heap[gb550]? = some (.cells #[.int .i64 a0_0, .string a0_1] 27 (0, 0))) ∧ Aside0 (Below w.heap.size w w'))
 case atStart => exact ⟨(0), (0), zF, zF, H', ⟨Nat.le_refl _⟩, ⟨zK BK550.out⟩, ⟨zG GE550.out⟩⟩
 case round =>
  clear H'
  try clear p2
  obtain ⟨x5_1, x6_1, rfl, rfl, HA, HK1, BK550, HB⟩ := hrel
  cases gk with
  | zero => exact absurd HA.out (by simp [spec_l6Extreme.l0])
  | succ k1 =>
   have H := HA.out
   clear HA
   simp only [spec_l6Extreme.l0] at H
   by_cases c4 : x6_1 < a0_0
   ·rw [if_pos c4] at H
    have c4b0 : decide (x6_1 < a0_0) = true := decide_eq_true c4
    clear c4
    replace H := Option.bind_eq_some_iff.mp H
    obtain ⟨t551, A50, H⟩ := H
    replace H : (if t551 = true then ((spec_l6In.f k1 a0_0 a0_1 a1 x6_1).bind fun t552 => (if t552 = true then (spec_l6Extreme.l0 k1 a1 x5_1 (wrap64 (x6_1 + 1)) a0_0 a0_1) else (if 0 ≤ (IntKind.u64.wrap (x6_1)) then (spec_l6Extreme.l0 k1 a1 (wrap64 (x5_1 + (shl .i64 1 (IntKind.u64.wrap (x6_1))))) (wrap64 (x6_1 + 1)) a0_0 a0_1) else (none)))) else (spec_l6Extreme.l0 k1 a1 x5_1 (wrap64 (x6_1 + 1)) a0_0 a0_1)) = some r := H
    have A5 := Aside0.mk A50
    clear A50
    by_cases c6 : t551 = true
    ·subst c6
     have H1 : ((spec_l6In.f k1 a0_0 a0_1 a1 x6_1).bind fun t552 => (if t552 = true then (spec_l6Extreme.l0 k1 a1 x5_1 (wrap64 (x6_1 + 1)) a0_0 a0_1) else (if 0 ≤ (IntKind.u64.wrap (x6_1)) then (spec_l6Extreme.l0 k1 a1 (wrap64 (x5_1 + (shl .i64 1 (IntKind.u64.wrap (x6_1))))) (wrap64 (x6_1 + 1)) a0_0 a0_1) else (none)))) = some r := by rw [if_pos rfl] at H; exact H
     clear H
     have H := H1
     clear H1
     replace H := Option.bind_eq_some_iff.mp H
     obtain ⟨t552, A70, H⟩ := H
     replace H : (if t552 = true then (spec_l6Extreme.l0 k1 a1 x5_1 (wrap64 (x6_1 + 1)) a0_0 a0_1) else (if 0 ≤ (IntKind.u64.wrap (x6_1)) then (spec_l6Extreme.l0 k1 a1 (wrap64 (x5_1 + (shl .i64 1 (IntKind.u64.wrap (x6_1))))) (wrap64 (x6_1 + 1)) a0_0 a0_1) else (none))) = some r := H
     have A7 := Aside0.mk A70
     clear A70
     by_cases c8 : t552 = true
     ·subst c8
      have H1 : (spec_l6Extreme.l0 k1 a1 x5_1 (wrap64 (x6_1 + 1)) a0_0 a0_1) = some r := by rw [if_pos rfl] at H; exact H
      clear H
      have H := H1
      clear H1
      have H' := Aside0.mk H
      clear H
      have hcz9_0 : wr.cell? ⟨gb550, 0, none⟩ = some (.int .i64 a0_0) := (blk_cell BK550.out 0).trans rfl
      have hcz9_1 : wr.cell? ⟨gb550, 1, none⟩ = some (.string a0_1) := (blk_cell BK550.out 1).trans rfl
      have hfz9_0 := blk_frozen BK550.out 0
      have hfz9_1 := blk_frozen BK550.out 1
      go_wp2_with (first | ((with_reducible refine gate_callee (f := 65) rfl ?_); refine goesL_ (some 15) rfl rfl Try.func65 (by kernel_rfl) rfl #[.int .i64 a1, .int .i64 x6_1] rfl zM ?_; (with_reducible refine (spec_l6Has.calls a1 x6_1 true _ A5.out).mono ?_); rintro e w' ⟨rfl, ⟨nd, rfl⟩⟩; refine ⟨_, rfl, ?_⟩) | (go_at_call 66; (with_reducible refine (spec_l6In.calls k1 a0_0 a0_1 a1 x6_1 true _ A7.out).mono ?_); rintro e w10 ⟨rfl, hb⟩; have n0_ := Aside0.mk (blk_below (g := gb550) (o := .cells #[.int .i64 a0_0, .string a0_1] 27 (0, 0)) (zK BK550.out) hb); have n1_ := Aside0.mk (below_step (zG GE550.out) hb); clear BK550; clear HB; have BK550 := n0_; have HB := n1_; clear n0_ n1_; (try clear hb); (try clear hb2); (try clear hk); (try clear hi)))
      go_roundg k1
      case measure => have := HK1.out; omega
      case rel => exact ⟨(x5_1), (wrap64 (x6_1 + 1)), zF, zF, H', ⟨by have := HK1.out; omega⟩, ⟨zK BK550.out⟩, ⟨zG GE550.out⟩⟩
     ·replace c8 := Bool.eq_false_iff.mpr c8
      subst c8
      have H1 : (if 0 ≤ (IntKind.u64.wrap (x6_1)) then (spec_l6Extreme.l0 k1 a1 (wrap64 (x5_1 + (shl .i64 1 (IntKind.u64.wrap (x6_1))))) (wrap64 (x6_1 + 1)) a0_0 a0_1) else (none)) = some r := by rw [if_neg (show ¬ (false = true) by decide)] at H; exact H
      clear H
      have H := H1
      clear H1
      obtain ⟨ji11, hji11⟩ : ∃ j_ : Int, (IntKind.u64.wrap (x6_1)) = j_ := ⟨_, rfl⟩
      replace H : (if 0 ≤ (ji11) then (spec_l6Extreme.l0 k1 a1 (wrap64 (x5_1 + (shl .i64 1 (ji11)))) (wrap64 (x6_1 + 1)) a0_0 a0_1) else (none)) = some r := by first | (rw [hji11] at H; exact H) | (simp only [hji11] at H ⊢; exact H)
      (try rw [hji11] at A5)
      (try rw [hji11] at A7)
      by_cases c12 : 0 ≤ (ji11)
      ·rw [if_pos c12] at H
       have c12b0 := eq_true c12
       have c12b1 : decide (0 ≤ (ji11)) = true := decide_eq_true c12
       clear c12
       obtain ⟨ji13, hji13⟩ : ∃ j_ : Int, (shl .i64 1 (ji11)) = j_ := ⟨_, rfl⟩
       replace H : (spec_l6Extreme.l0 k1 a1 (wrap64 (x5_1 + (ji13))) (wrap64 (x6_1 + 1)) a0_0 a0_1) = some r := by first | (rw [hji13] at H; exact H) | (simp only [hji13] at H ⊢; exact H)
       (try rw [hji13] at A5)
       (try rw [hji13] at A7)
       have hji13_ : (IntKind.i64.wrap (1 * 2 ^ min (ji11).toNat 64)) = ji13 := hji13
       have hji13z : (ji11) ≤ 64 → (IntKind.i64.wrap (1 * 2 ^ (ji11).toNat)) = ji13 := shl_small hji13
       have hji13u : (IntKind.i64.wrap (2 ^ min (ji11).toNat 64)) = ji13 := by have h_ := hji13_; rw [Int.one_mul] at h_; exact h_
       have hji13v : (ji11) ≤ 64 → (IntKind.i64.wrap (2 ^ (ji11).toNat)) = ji13 := fun hle_ => by have h_ := hji13z hle_; rw [Int.one_mul] at h_; exact h_
       have hji13y : (wrap64 (1 * 2 ^ min (ji11).toNat 64)) = ji13 := (i64_w _).symm.trans hji13_
       have hji13x : (ji11) ≤ 64 → (wrap64 (1 * 2 ^ (ji11).toNat)) = ji13 := fun h_ => (i64_w _).symm.trans (hji13z h_)
       have H' := Aside0.mk H
       clear H
       have hcz14_0 : wr.cell? ⟨gb550, 0, none⟩ = some (.int .i64 a0_0) := (blk_cell BK550.out 0).trans rfl
       have hcz14_1 : wr.cell? ⟨gb550, 1, none⟩ = some (.string a0_1) := (blk_cell BK550.out 1).trans rfl
       have hfz14_0 := blk_frozen BK550.out 0
       have hfz14_1 := blk_frozen BK550.out 1
       go_wp2_with (first | ((with_reducible refine gate_callee (f := 65) rfl ?_); refine goesL_ (some 15) rfl rfl Try.func65 (by kernel_rfl) rfl #[.int .i64 a1, .int .i64 x6_1] rfl zM ?_; (with_reducible refine (spec_l6Has.calls a1 x6_1 true _ A5.out).mono ?_); rintro e w' ⟨rfl, ⟨nd, rfl⟩⟩; refine ⟨_, rfl, ?_⟩) | (go_at_call 66; (with_reducible refine (spec_l6In.calls k1 a0_0 a0_1 a1 x6_1 false _ A7.out).mono ?_); rintro e w15 ⟨rfl, hb⟩; have n0_ := Aside0.mk (blk_below (g := gb550) (o := .cells #[.int .i64 a0_0, .string a0_1] 27 (0, 0)) (zK BK550.out) hb); have n1_ := Aside0.mk (below_step (zG GE550.out) hb); clear BK550; clear HB; have BK550 := n0_; have HB := n1_; clear n0_ n1_; (try clear hb); (try clear hb2); (try clear hk); (try clear hi)))
       go_roundg k1
       case measure => have := HK1.out; omega
       case rel => exact ⟨(wrap64 (x5_1 + (ji13))), (wrap64 (x6_1 + 1)), (by first | rfl | (simp; done) | (simp only [← hji13] <;> (first | rfl | simp)) | (simp [*]; done)), zF, H', ⟨by have := HK1.out; omega⟩, ⟨zK BK550.out⟩, ⟨zG GE550.out⟩⟩
      ·rw [if_neg c12] at H
       exact absurd H (by simp)
    ·replace c6 := Bool.eq_false_iff.mpr c6
     subst c6
     have H1 : (spec_l6Extreme.l0 k1 a1 x5_1 (wrap64 (x6_1 + 1)) a0_0 a0_1) = some r := by rw [if_neg (show ¬ (false = true) by decide)] at H; exact H
     clear H
     have H := H1
     clear H1
     have H' := Aside0.mk H
     clear H
     have hcz16_0 : wr.cell? ⟨gb550, 0, none⟩ = some (.int .i64 a0_0) := (blk_cell BK550.out 0).trans rfl
     have hcz16_1 : wr.cell? ⟨gb550, 1, none⟩ = some (.string a0_1) := (blk_cell BK550.out 1).trans rfl
     have hfz16_0 := blk_frozen BK550.out 0
     have hfz16_1 := blk_frozen BK550.out 1
     go_wp2_with (first | ((with_reducible refine gate_callee (f := 65) rfl ?_); refine goesL_ (some 15) rfl rfl Try.func65 (by kernel_rfl) rfl #[.int .i64 a1, .int .i64 x6_1] rfl zM ?_; (with_reducible refine (spec_l6Has.calls a1 x6_1 false _ A5.out).mono ?_); rintro e w' ⟨rfl, ⟨nd, rfl⟩⟩; refine ⟨_, rfl, ?_⟩))
     go_roundg k1
     case measure => have := HK1.out; omega
     case rel => exact ⟨(x5_1), (wrap64 (x6_1 + 1)), zF, zF, H', ⟨by have := HK1.out; omega⟩, ⟨zK BK550.out⟩, ⟨zG GE550.out⟩⟩
   ·rw [if_neg c4] at H
    have c4b0 : decide (x6_1 < a0_0) = false := decide_eq_false c4
    clear c4
    obtain rfl := Option.some.inj H
    have hcz17_0 : wr.cell? ⟨gb550, 0, none⟩ = some (.int .i64 a0_0) := (blk_cell BK550.out 0).trans rfl
    have hcz17_1 : wr.cell? ⟨gb550, 1, none⟩ = some (.string a0_1) := (blk_cell BK550.out 1).trans rfl
    have hfz17_0 := blk_frozen BK550.out 0
    have hfz17_1 := blk_frozen BK550.out 1
    go_wp2
    go_ret
    exact ⟨zE, zG GE550.out⟩
end Go.Proofs.Ytgnghhelalablaa.PX
namespace Go.Proofs.Ytgnghhelalablaa.M
open Go.RowKit Go.Proofs.YtgnghhelalablaaW.PrintWords Go.Proofs.Ytgnghhelalablaa.PX Go.Proofs.Ytgnghhelalablaa.G Go.Proofs.YtgnghhelalablaaW.PrintMore
/-- Is p inside a triangle of a set's elements? -/
def inB (n : Nat) (t : ByteArray) (s p : Nat) : Bool := (tripsL n).any fun q => insB n t p q.1 q.2.1 q.2.2 && s.testBit q.1 && s.testBit q.2.1 && s.testBit q.2.2
theorem has_ev {s k : Nat} (hs : s < 128) (hk : k ≤ 7) : spec_l6Has.f (s : Int) (k : Int) = some (s.testBit k) := by
  unfold spec_l6Has.f
  rw [u64_id hk, if_pos (by omega)]
  have e := bitQ_eq hs hk
  unfold bitQ at e
  rw [e]
  cases s.testBit k <;> rfl
section
variable {n : Nat} {t : ByteArray} (h : areOk n t = true)
include h
theorem spec_in6 {s p : Nat} (hs : s < 128) (hp : p < n) : Ev (fun k => spec_l6In.f k (n : Int) t (s : Int) (p : Int)) (inB n t s p) := by
  obtain ⟨⟨h0, h1⟩, _, _⟩ := (areOk_iff _ _).1 h
  have h0 : 3 ≤ n := by omega
  have h1 : n ≤ 7 := by omega
  unfold spec_l6In.f
  have key := loops3 (σ := Unit) (ρ := Bool) (n := n) (K := fun _ _ => some false) (L0 := fun a _ k => spec_l6In.l0 k (s : Int) (p : Int) a (n : Int) t) (L1 := fun a b _ k => spec_l6In.l1 k (s : Int) (p : Int) a b (n : Int) t) (L2 := fun a b c _ k => spec_l6In.l2 k (s : Int) (p : Int) a b c (n : Int) t)
    (fun _ q => if insB n t p q.1 q.2.1 q.2.2 && s.testBit q.1 && s.testBit q.2.1 && s.testBit q.2.2 then .error true else .ok ()) (fun u => ?_) (fun a ha u => ?_) (fun a ha u => ?_) (fun a b hab hb u => ?_) (fun a b hab hb u => ?_) (fun a b c hab hbc hc u => ?_) ()
  · rw [foldlM_any (fun q : Nat × Nat × Nat => insB n t p q.1 q.2.1 q.2.2 && s.testBit q.1 && s.testBit q.2.1 && s.testBit q.2.2)] at key
    unfold inB
    cases hq : (tripsL n).any fun q => insB n t p q.1 q.2.1 q.2.2 && s.testBit q.1 && s.testBit q.2.1 && s.testBit q.2.2 with
    | true => rw [hq] at key; exact key
    | false => rw [hq] at key; exact key _ (Ev.now _)
  · refine Goes.step ?_
    simp only [spec_l6In.l0]
    exact Goes.neg (by omega) (Goes.ok (K := fun _ _ => some false) u)
  · refine Goes.step ?_
    simp only [spec_l6In.l0]
    refine Goes.pos (by omega) ?_
    rw [wrap_id (by omega) (by omega)]
    exact Goes.ok (K := fun _ k => spec_l6In.l1 k (s : Int) (p : Int) (a : Int) ((a + 1 : Nat) : Int) (n : Int) t) u
  · refine Goes.step ?_
    simp only [spec_l6In.l1]
    refine Goes.neg (by omega) ?_
    rw [wrap_id (by omega) (by omega)]
    exact Goes.ok (K := fun _ k => spec_l6In.l0 k (s : Int) (p : Int) ((a + 1 : Nat) : Int) (n : Int) t) u
  · refine Goes.step ?_
    simp only [spec_l6In.l1]
    refine Goes.pos (by omega) ?_
    rw [wrap_id (by omega) (by omega)]
    exact Goes.ok (K := fun _ k => spec_l6In.l2 k (s : Int) (p : Int) (a : Int) (b : Int) ((b + 1 : Nat) : Int) (n : Int) t) u
  · refine Goes.step ?_
    simp only [spec_l6In.l2]
    refine Goes.neg (by omega) ?_
    rw [wrap_id (by omega) (by omega)]
    exact Goes.ok (K := fun _ k => spec_l6In.l1 k (s : Int) (p : Int) (a : Int) ((b + 1 : Nat) : Int) (n : Int) t) u
  · refine Goes.step ?_
    simp only [spec_l6In.l2]
    refine Goes.pos (by omega) ?_
    rw [wrap_id (by omega) (by omega)]
    have on : Goes (ρ := Bool) (.ok ()) (fun (_ : Unit) k => spec_l6In.l2 k (s : Int) (p : Int) (a : Int) (b : Int) ((c + 1 : Nat) : Int) (n : Int) t) (fun k => spec_l6In.l2 k (s : Int) (p : Int) (a : Int) (b : Int) ((c : Int) + 1) (n : Int) t) := Goes.ok (K := fun (_ : Unit) k => spec_l6In.l2 k (s : Int) (p : Int) (a : Int) (b : Int) ((c + 1 : Nat) : Int) (n : Int) t) ()
    by_cases e1 : p = a
    · rw [show insB n t p a b c = false by simp [insB, e1]]
      exact Goes.pos (by omega) on
    refine Goes.neg (by omega) ?_
    by_cases e2 : p = b
    · rw [show insB n t p a b c = false by simp [insB, e2]]
      exact Goes.pos (by omega) on
    refine Goes.neg (by omega) ?_
    by_cases e3 : p = c
    · rw [show insB n t p a b c = false by simp [insB, e3]]
      exact Goes.pos (by omega) on
    refine Goes.neg (by omega) (Goes.call (has_ev hs (by omega)) ?_)
    rw [insB_dist e1 e2 e3]
    cases s.testBit a with
    | false => rw [Bool.and_false, Bool.false_and, Bool.false_and]; exact Goes.neg (by decide) on
    | true =>
      refine Goes.pos (by trivial) (Goes.call (has_ev hs (by omega)) ?_)
      cases s.testBit b with
      | false => rw [Bool.and_false, Bool.false_and]; exact Goes.neg (by decide) on
      | true =>
        refine Goes.pos (by trivial) (Goes.call (has_ev hs (by omega)) ?_)
        cases s.testBit c with
        | false => rw [Bool.and_false]; exact Goes.neg (by decide) on
        | true =>
          refine Goes.pos (by trivial) (Goes.ev (spec_inner h hp (by omega) (by omega) hc (dist4_iff.2 (by omega))) ?_)
          by_cases g : innerV n t p a b c = (p : Int)
          · rw [beq_iff_eq.2 g]
            exact Goes.pos g (Goes.ret _)
          · rw [beq_eq_false_iff_ne.2 g]
            exact Goes.neg g on
theorem impl_inHull {s p : Nat} (hs : s < 128) (hp : p < n) (hsp : s.testBit p = false) : Ev (fun k => impl_chi_inHull.f k (tblL n t) (s : Int) (p : Int)) (inB n t s p) := by
  obtain ⟨⟨h0, h1⟩, _, _⟩ := (areOk_iff _ _).1 h
  have h0 : 3 ≤ n := by omega
  have h1 : n ≤ 7 := by omega
  unfold impl_chi_inHull.f
  rw [tbl_n]
  refine Ev.bind (triples_ev h0 h1) ?_
  rw [tripN_S h0 h1]
  have hl : ((tripsL n).map toS3).length = (tripsL n).length := List.length_map ..
  have h35 := quads_len h0 h1
  have key := loop_up (σ := Unit) (ρ := Bool) (lo := 0) (n := (tripsL n).length) (K := fun _ _ => some false) (L := fun i _ k => impl_chi_inHull.l0 k (tblL n t) (s : Int) (p : Int) ((tripsL n).map toS3) (((tripsL n).map toS3).length : Int) i)
    (fun _ i => if insB n t p ((tripsL n).getD i (0, 0, 0)).1 ((tripsL n).getD i (0, 0, 0)).2.1 ((tripsL n).getD i (0, 0, 0)).2.2 && s.testBit ((tripsL n).getD i (0, 0, 0)).1 && s.testBit ((tripsL n).getD i (0, 0, 0)).2.1 && s.testBit ((tripsL n).getD i (0, 0, 0)).2.2 then .error true else .ok ())
    (fun u => ?_) (fun i _ hi u => ?_) (by omega) ()
  · rw [foldlM_index (0, 0, 0) (fun (_ : Unit) (q : Nat × Nat × Nat) => if insB n t p q.1 q.2.1 q.2.2 && s.testBit q.1 && s.testBit q.2.1 && s.testBit q.2.2 then (.error true : Except Bool Unit) else .ok ()),
      foldlM_any (fun q : Nat × Nat × Nat => insB n t p q.1 q.2.1 q.2.2 && s.testBit q.1 && s.testBit q.2.1 && s.testBit q.2.2)] at key
    unfold inB
    cases hq : (tripsL n).any fun q => insB n t p q.1 q.2.1 q.2.2 && s.testBit q.1 && s.testBit q.2.1 && s.testBit q.2.2 with
    | true => rw [hq] at key; exact key
    | false => rw [hq] at key; exact key _ (Ev.now _)
  · refine Goes.step ?_
    simp only [impl_chi_inHull.l0]
    exact Goes.neg (by omega) (Goes.ok (K := fun _ _ => some false) u)
  · have hg : (tripsL n).getD i (0, 0, 0) = (tripsL n)[i] := by rw [List.getD_eq_getElem?_getD, List.getElem?_eq_getElem hi]; rfl
    have hm := List.getElem_mem hi
    rw [hg]
    refine Goes.step ?_
    simp only [impl_chi_inHull.l0, rd_toS3 hi]
    generalize (tripsL n)[i] = q at *
    obtain ⟨a, b, c⟩ := q
    obtain ⟨hab, hbc, hc⟩ := mem_trips hm
    simp only [toS3]
    refine Goes.pos (by omega) (Goes.pos (by omega) (Goes.pos (by omega) (Goes.pos (by omega) (Goes.pos (by omega) (Goes.pos (by omega) ?_)))))
    rw [wrap_id (x := (i : Int) + 1) (by omega) (by omega)]
    have on : Goes (ρ := Bool) (.ok ()) (fun (_ : Unit) k => impl_chi_inHull.l0 k (tblL n t) (s : Int) (p : Int) ((tripsL n).map toS3) (((tripsL n).map toS3).length : Int) ((i + 1 : Nat) : Int)) (fun k => impl_chi_inHull.l0 k (tblL n t) (s : Int) (p : Int) ((tripsL n).map toS3) (((tripsL n).map toS3).length : Int) ((i : Int) + 1)) :=
      Goes.ok (K := fun (_ : Unit) k => impl_chi_inHull.l0 k (tblL n t) (s : Int) (p : Int) ((tripsL n).map toS3) (((tripsL n).map toS3).length : Int) ((i + 1 : Nat) : Int)) ()
    have hmask := (set_facts hs).2.1 a b c hab hbc (by omega)
    by_cases g : Go.bits .and .i64 (s : Int) (mask3 a b c) = mask3 a b c
    · obtain ⟨g1, g2, g3⟩ := hmask.1 g
      have e1 : p ≠ a := fun e => by rw [e, g1] at hsp; cases hsp
      have e2 : p ≠ b := fun e => by rw [e, g2] at hsp; cases hsp
      have e3 : p ≠ c := fun e => by rw [e, g3] at hsp; cases hsp
      rw [g1, g2, g3, insB_dist e1 e2 e3, Bool.and_true, Bool.and_true, Bool.and_true]
      refine Goes.pos g (Goes.ev (impl_inside h hp (by omega) (by omega) hc (dist4_iff.2 (by omega))) ?_)
      cases innerV n t p a b c == (p : Int) with
      | true => exact Goes.pos (by trivial) (Goes.ret _)
      | false => exact Goes.neg (by decide) on
    · have e : (insB n t p a b c && s.testBit a && s.testBit b && s.testBit c) = false := by
        rw [Bool.eq_false_iff]
        simp only [ne_eq, Bool.and_eq_true]
        exact fun e => g (hmask.2 ⟨e.1.1.2, e.1.2, e.2⟩)
      rw [e]
      exact Goes.neg g on
end
/-- Is p an extreme element of a set? -/
def extB (n : Nat) (t : ByteArray) (s p : Nat) : Bool := s.testBit p && !inB n t s p
/-- The extreme elements of a set. -/
def extN (n : Nat) (t : ByteArray) (s : Nat) : Nat := sumN (extB n t s) n
theorem sum_fold {ρ : Type} (c : Nat → Bool) (n : Nat) : (List.range' 0 (n - 0)).foldlM (fun (s : Nat) p => (.ok (if c p then s + 2 ^ p else s) : Except ρ Nat)) 0 = .ok (sumN c n) := by
  rw [foldlM_ok, Nat.sub_zero, ← List.range_eq_range']
  congr 1
  induction n with
  | zero => rfl
  | succ n ih => rw [List.range_succ, List.foldl_append, ih]; rfl
theorem inB_rem {n : Nat} {t : ByteArray} {s p : Nat} (hn : n ≤ 7) (hs : s < 128) (hp : p < 7) : inB n t (remN s p) p = inB n t s p := by
  have hm : ∀ q ∈ tripsL n, (insB n t p q.1 q.2.1 q.2.2 && (remN s p).testBit q.1 && (remN s p).testBit q.2.1 && (remN s p).testBit q.2.2) = (insB n t p q.1 q.2.1 q.2.2 && s.testBit q.1 && s.testBit q.2.1 && s.testBit q.2.2) := fun q hq => by
    obtain ⟨a, b, c⟩ := q
    obtain ⟨hab, hbc, hc⟩ := mem_trips hq
    have hr := ((set_facts hs).1 p hp).2.2
    simp only
    rw [hr a (by omega), hr b (by omega), hr c (by omega)]
    by_cases e1 : p = a
    · rw [show insB n t p a b c = false by simp [insB, e1]]; simp
    by_cases e2 : p = b
    · rw [show insB n t p a b c = false by simp [insB, e2]]; simp
    by_cases e3 : p = c
    · rw [show insB n t p a b c = false by simp [insB, e3]]; simp
    have d1 : decide (a ≠ p) = true := decide_eq_true (fun e => e1 e.symm)
    have d2 : decide (b ≠ p) = true := decide_eq_true (fun e => e2 e.symm)
    have d3 : decide (c ≠ p) = true := decide_eq_true (fun e => e3 e.symm)
    rw [d1, d2, d3, Bool.and_true, Bool.and_true, Bool.and_true]
  unfold inB
  rw [Bool.eq_iff_iff, List.any_eq_true, List.any_eq_true]
  constructor
  · rintro ⟨q, hq, e⟩
    exact ⟨q, hq, (hm q hq) ▸ e⟩
  · rintro ⟨q, hq, e⟩
    exact ⟨q, hq, (hm q hq).symm ▸ e⟩
section
variable {n : Nat} {t : ByteArray} (h : areOk n t = true)
include h
theorem impl_ext {s : Nat} (hs : s < 128) : Ev (fun k => impl_chi_extremeIn.f k (tblL n t) (s : Int)) (extN n t s : Int) := by
  obtain ⟨⟨h0, h1⟩, _, _⟩ := (areOk_iff _ _).1 h
  unfold impl_chi_extremeIn.f
  have key := loop_up' (σ := Nat) (ρ := Int) (lo := 0) (n := n) (K := fun u _ => some (u : Int)) (L := fun i u k => impl_chi_extremeIn.l0 k (tblL n t) (s : Int) (u : Int) i)
    (fun i u => u < 2 ^ i) (fun u p => .ok (if extB n t s p then u + 2 ^ p else u)) (fun u _ => ?_) (fun p _ hp u hu => ?_) (fun p _ hp u hu u' e => ?_) (by omega) 0 (by decide)
  · rw [sum_fold] at key
    exact key _ (Ev.now _)
  · refine Goes.step ?_
    simp only [impl_chi_extremeIn.l0, tbl_n]
    exact Goes.neg (by omega) (Goes.ok (K := fun u _ => some (u : Int)) u)
  · refine Goes.step ?_
    simp only [impl_chi_extremeIn.l0, tbl_n]
    refine Goes.pos (by omega) (Goes.pos (by omega) ?_)
    have hp7 : p < 7 := by omega
    have hbq := bitQ_eq hs (k := p) (by omega)
    unfold bitQ at hbq
    rw [hbq, wrap_id (x := (p : Int) + 1) (by omega) (by omega)]
    unfold extB
    have pw := pow_128 (k := p) (by omega)
    cases hb : s.testBit p with
    | false => exact Goes.neg (by simp) (Goes.ok (K := fun (u : Nat) k => impl_chi_extremeIn.l0 k (tblL n t) (s : Int) (u : Int) ((p + 1 : Nat) : Int)) u)
    | true =>
      obtain ⟨r1, r2, r3⟩ := (set_facts hs).1 p hp7
      have hrp : (remN s p).testBit p = false := by rw [r3 p hp7]; simp
      rw [r1, ((set_facts (s := u) (by omega)).2.2 p hp7 hu).1]
      refine Goes.pos (by simp) (Goes.ev (impl_inHull h r2 hp hrp) ?_)
      rw [inB_rem (by omega) hs hp7]
      cases inB n t s p with
      | true => exact Goes.pos (by trivial) (Goes.ok (K := fun (u : Nat) k => impl_chi_extremeIn.l0 k (tblL n t) (s : Int) (u : Int) ((p + 1 : Nat) : Int)) u)
      | false => exact Goes.neg (by decide) (Goes.ok (K := fun (u : Nat) k => impl_chi_extremeIn.l0 k (tblL n t) (s : Int) (u : Int) ((p + 1 : Nat) : Int)) (u + 2 ^ p))
  · cases e
    rw [Nat.pow_succ]
    split <;> omega
theorem spec_ext {s : Nat} (hs : s < 128) : Ev (fun k => spec_l6Extreme.f k (n : Int) t (s : Int)) (extN n t s : Int) := by
  obtain ⟨⟨h0, h1⟩, _, _⟩ := (areOk_iff _ _).1 h
  unfold spec_l6Extreme.f
  have key := loop_up' (σ := Nat) (ρ := Int) (lo := 0) (n := n) (K := fun u _ => some (u : Int)) (L := fun i u k => spec_l6Extreme.l0 k (s : Int) (u : Int) i (n : Int) t)
    (fun i u => u < 2 ^ i) (fun u p => .ok (if extB n t s p then u + 2 ^ p else u)) (fun u _ => ?_) (fun p _ hp u hu => ?_) (fun p _ hp u hu u' e => ?_) (by omega) 0 (by decide)
  · rw [sum_fold] at key
    exact key _ (Ev.now _)
  · refine Goes.step ?_
    simp only [spec_l6Extreme.l0]
    exact Goes.neg (by omega) (Goes.ok (K := fun u _ => some (u : Int)) u)
  · refine Goes.step ?_
    simp only [spec_l6Extreme.l0]
    refine Goes.pos (by omega) (Goes.call (has_ev hs (by omega)) ?_)
    have pw := pow_128 (k := p) (by omega)
    rw [u64_id (k := p) (by omega), shl_id (k := p) (by omega), wrap_id (x := (p : Int) + 1) (by omega) (by omega), wrap_id (x := (u : Int) + ((2 ^ p : Nat) : Int)) (by omega) (by omega)]
    unfold extB
    cases hb : s.testBit p with
    | false => exact Goes.neg (by simp) (Goes.ok (K := fun (u : Nat) k => spec_l6Extreme.l0 k (s : Int) (u : Int) ((p + 1 : Nat) : Int) (n : Int) t) u)
    | true =>
      refine Goes.pos (by trivial) (Goes.ev (spec_in6 h hs hp) ?_)
      cases inB n t s p with
      | true => exact Goes.pos (by trivial) (Goes.ok (K := fun (u : Nat) k => spec_l6Extreme.l0 k (s : Int) (u : Int) ((p + 1 : Nat) : Int) (n : Int) t) u)
      | false => exact Goes.neg (by decide) (Goes.pos (by omega) (Goes.ok (K := fun (u : Nat) k => spec_l6Extreme.l0 k (s : Int) (u : Int) ((p + 1 : Nat) : Int) (n : Int) t) (u + 2 ^ p)))
  · cases e
    rw [Nat.pow_succ]
    split <;> omega
end
theorem extN_lt {n : Nat} (t : ByteArray) (s : Nat) (hn : n ≤ 7) : extN n t s < 128 := sumN_lt7 _ hn
theorem extN_bit {n : Nat} (t : ByteArray) (s : Nat) {p : Nat} (hn : n ≤ 7) (hp : p < n) : (extN n t s).testBit p = extB n t s p := sumN_bit _ hn hp
theorem full_ev {n : Nat} (hn : n ≤ 7) : wrap64 (shl .i64 1 (n : Int) - 1) = ((2 ^ n - 1 : Nat) : Int) := by
  have := pow_128 hn
  have : 0 < 2 ^ n := Nat.pow_pos (by omega)
  rw [shl_id hn, wrap_id (by omega) (by omega)]
  omega
theorem fullSet_f {n : Nat} (hn : n ≤ 7) : impl_fullSet.f (n : Int) = some ((2 ^ n - 1 : Nat) : Int) := by
  unfold impl_fullSet.f
  rw [if_pos (by omega), full_ev hn]
/-- Is a number a set of n elements? -/
def setB (n : Nat) (s : Int) : Bool := decide (0 ≤ s) && decide (s < ((2 ^ n : Nat) : Int))
theorem isSet_f {n : Nat} (hn : n ≤ 7) (s : Int) : impl_isSet.f (n : Int) s = some (setB n s) := by
  unfold impl_isSet.f setB
  have : 0 < 2 ^ n := Nat.pow_pos (by omega)
  by_cases hs : s ≥ 0
  · rw [if_pos hs, fullSet_f hn, Option.bind_some, decide_eq_true (show (0 : Int) ≤ s from hs), Bool.true_and]
    congr 1
    exact decide_eq_decide.2 (by omega)
  · rw [if_neg hs, decide_eq_false (show ¬ (0 : Int) ≤ s from hs), Bool.false_and]
theorem spec_set {n : Nat} (hn : n ≤ 7) (s : Int) : spec_l1In.f s 0 (wrap64 (shl .i64 1 (IntKind.u64.wrap (n : Int)) - 1)) = some (setB n s) := by
  rw [u64_id hn, full_ev hn, spec_in]
  unfold setB
  have : 0 < 2 ^ n := Nat.pow_pos (by omega)
  congr 2
  exact decide_eq_decide.2 (by omega)
theorem set_nat {n : Nat} (hn : n ≤ 7) {s : Int} (h : setB n s = true) : ∃ S : Nat, s = (S : Int) ∧ S < 2 ^ n ∧ S < 128 := by
  simp only [setB, Bool.and_eq_true, decide_eq_true_eq] at h
  have := pow_128 hn
  exact ⟨s.toNat, by omega, by omega, by omega⟩
/-- What InHull answers. -/
def inHullA (n : Int) (t : ByteArray) (s p : Int) : Bool := if acyOk n t = true ∧ setB n.toNat s = true ∧ inR n p = true ∧ s.toNat.testBit p.toNat = false then inB n.toNat t s.toNat p.toNat else false
theorem impl_inHullOf (n : Int) (t : ByteArray) (s p : Int) (hs : t.size ≤ 9223372036854775807) : Ev (fun k => impl_InHull.f k n t s p) (inHullA n t s p) := by
  unfold impl_InHull.f inHullA
  refine Ev.bind (order_ev n t hs) ?_
  by_cases h : acyOk n t = true
  · rw [if_pos h]
    obtain ⟨N, rfl, ho, h0, h1⟩ := acy_are h
    simp only [Int.toNat_natCast]
    refine ev_pos (by trivial) (ev_call (isSet_f h1 s) ?_)
    by_cases g1 : setB N s = true
    · obtain ⟨S, rfl, hS, hS8⟩ := set_nat h1 g1
      refine ev_pos g1 (ev_call (isElement_f _ _) ?_)
      by_cases g2 : inR N p = true
      · simp only [inR, Bool.and_eq_true, decide_eq_true_eq] at g2
        obtain ⟨P, rfl⟩ : ∃ P : Nat, p = (P : Int) := Int.eq_ofNat_of_zero_le g2.1
        have g2' : inR (N : Int) (P : Int) = true := by simp only [inR, Bool.and_eq_true, decide_eq_true_eq]; exact g2
        simp only [Int.toNat_natCast]
        have hbq := bitQ_eq hS8 (k := P) (by omega)
        unfold bitQ at hbq
        refine ev_pos g2' (ev_pos (by omega) ?_)
        rw [hbq]
        cases hb : S.testBit P with
        | true =>
          have hne : ¬ (acyOk (N : Int) t = true ∧ setB N (S : Int) = true ∧ inR (N : Int) (P : Int) = true ∧ true = false) := fun e => by cases e.2.2.2
          rw [if_neg hne]
          exact ev_neg (by simp) (Ev.now _)
        | false =>
          have hpo : acyOk (N : Int) t = true ∧ setB N (S : Int) = true ∧ inR (N : Int) (P : Int) = true ∧ false = false := ⟨h, g1, g2', rfl⟩
          rw [if_pos hpo]
          exact ev_pos (by simp) (ev_pos (tblL_length _ _) (Ev.bind (impl_inHull ho hS8 (by omega) hb) (Ev.now _)))
      · rw [if_neg (fun e => g2 e.2.2.1)]
        exact ev_neg g2 (Ev.now _)
    · rw [if_neg (fun e => g1 e.2.1)]
      exact ev_neg g1 (Ev.now _)
  · rw [if_neg h, if_neg (fun e => h e.1)]
    exact ev_neg (by simp) (Ev.now _)
theorem spec_inHullOf (n : Int) (t : ByteArray) (s p : Int) (hs : t.size ≤ 9223372036854775807) : Ev (fun k => spec_InHull.f k n t s p) (inHullA n t s p) := by
  unfold spec_InHull.f inHullA
  refine Ev.bind (spec_isA n t hs) ?_
  by_cases h : acyOk n t = true
  · obtain ⟨N, rfl, ho, h0, h1⟩ := acy_are h
    simp only [Int.toNat_natCast]
    refine ev_pos h (ev_call (spec_in _ _ _) ?_)
    rw [wrap_id (by omega) (by omega)]
    by_cases g2 : inR N p = true
    · have g2' := g2
      simp only [inR, Bool.and_eq_true, decide_eq_true_eq] at g2'
      refine ev_pos (by simp only [Bool.and_eq_true, decide_eq_true_eq]; omega) (ev_pos (by rw [u64_id h1]; omega) (ev_call (spec_set h1 s) ?_))
      obtain ⟨P, rfl⟩ : ∃ P : Nat, p = (P : Int) := Int.eq_ofNat_of_zero_le g2'.1
      by_cases g1 : setB N s = true
      · obtain ⟨S, rfl, hS, hS8⟩ := set_nat h1 g1
        simp only [Int.toNat_natCast]
        refine ev_pos g1 (ev_call (has_ev hS8 (by omega)) ?_)
        cases hb : S.testBit P with
        | true =>
          have hne : ¬ (acyOk (N : Int) t = true ∧ setB N (S : Int) = true ∧ inR (N : Int) (P : Int) = true ∧ true = false) := fun e => by cases e.2.2.2
          rw [if_neg hne]
          exact ev_pos (by trivial) (Ev.now _)
        | false =>
          have hpo : acyOk (N : Int) t = true ∧ setB N (S : Int) = true ∧ inR (N : Int) (P : Int) = true ∧ false = false := ⟨h, g1, g2, rfl⟩
          rw [if_pos hpo]
          exact ev_neg (by decide) (Ev.bind (spec_in6 ho hS8 (by omega)) (Ev.now _))
      · rw [if_neg (fun e => g1 e.2.1)]
        exact ev_neg g1 (Ev.now _)
    · rw [if_neg (fun e => g2 e.2.2.1)]
      refine ev_neg (fun e => g2 ?_) (Ev.now _)
      simp only [inR, Bool.and_eq_true, decide_eq_true_eq] at e ⊢
      omega
  · rw [if_neg (fun e => h e.1)]
    exact ev_neg h (Ev.now _)
/-- What IsExtreme answers. -/
def isExtA (n : Int) (t : ByteArray) (p : Int) : Bool := if acyOk n t = true ∧ inR n p = true then !inB n.toNat t (2 ^ n.toNat - 1) p.toNat else false
theorem impl_isExt (n : Int) (t : ByteArray) (p : Int) (hs : t.size ≤ 9223372036854775807) : Ev (fun k => impl_IsExtreme.f k n t p) (isExtA n t p) := by
  unfold impl_IsExtreme.f isExtA
  refine Ev.bind (order_ev n t hs) ?_
  by_cases h : acyOk n t = true
  · rw [if_pos h]
    obtain ⟨N, rfl, ho, h0, h1⟩ := acy_are h
    simp only [Int.toNat_natCast]
    refine ev_pos (by trivial) (ev_call (isElement_f _ _) ?_)
    by_cases g2 : inR N p = true
    · rw [if_pos ⟨h, g2⟩]
      have g2' := g2
      simp only [inR, Bool.and_eq_true, decide_eq_true_eq] at g2'
      obtain ⟨P, rfl⟩ : ∃ P : Nat, p = (P : Int) := Int.eq_ofNat_of_zero_le g2'.1
      simp only [Int.toNat_natCast]
      have hbq := bitQ_eq (extN_lt (n := N) t (2 ^ N - 1) h1) (k := P) (by omega)
      unfold bitQ at hbq
      refine ev_pos g2 (ev_call (fullSet_f h1) (ev_pos (tblL_length _ _) (Ev.bind (impl_ext ho (full_lt h1)) (ev_pos (by omega) ?_))))
      rw [hbq, extN_bit t _ h1 (by omega), extB, full_bit h1 (by omega), Bool.true_and]
      refine ev_cast (Ev.now _) ?_
      cases inB N t (2 ^ N - 1) P <;> rfl
    · rw [if_neg (fun e => g2 e.2)]
      exact ev_neg g2 (Ev.now _)
  · rw [if_neg h, if_neg (fun e => h e.1)]
    exact ev_neg (by simp) (Ev.now _)
theorem spec_isExt (n : Int) (t : ByteArray) (p : Int) (hs : t.size ≤ 9223372036854775807) : Ev (fun k => spec_IsExtreme.f k n t p) (isExtA n t p) := by
  unfold spec_IsExtreme.f isExtA
  refine Ev.bind (spec_isA n t hs) ?_
  by_cases h : acyOk n t = true
  · obtain ⟨N, rfl, ho, h0, h1⟩ := acy_are h
    simp only [Int.toNat_natCast]
    refine ev_pos h (ev_call (spec_in _ _ _) ?_)
    rw [wrap_id (x := (N : Int) - 1) (by omega) (by omega)]
    by_cases g2 : inR N p = true
    · rw [if_pos ⟨h, g2⟩]
      simp only [inR, Bool.and_eq_true, decide_eq_true_eq] at g2
      obtain ⟨P, rfl⟩ : ∃ P : Nat, p = (P : Int) := Int.eq_ofNat_of_zero_le g2.1
      simp only [Int.toNat_natCast]
      refine ev_pos (by simp only [Bool.and_eq_true, decide_eq_true_eq]; omega) ?_
      rw [u64_id h1, full_ev h1]
      exact ev_pos (by omega) (Ev.bind (spec_in6 ho (full_lt h1) (by omega)) (Ev.now _))
    · rw [if_neg (fun e => g2 e.2)]
      refine ev_neg (fun e => g2 ?_) (Ev.now _)
      simp only [inR, Bool.and_eq_true, decide_eq_true_eq] at e ⊢
      omega
  · rw [if_neg (fun e => h e.1)]
    exact ev_neg h (Ev.now _)
end Go.Proofs.Ytgnghhelalablaa.M
