/- FnExactCrossingSum returns true for all arguments and leaves them as they were. No condition. -/
import Derived.Test.YtbjncemaeagjjaaProg
import Derived.Test.YtbjncemaeagjjaaRows
import Derived.WalkKit
import Derived.ProofKit
import Derived.OpenShut
import Derived.ShutString
import Derived.ChangeOld
import Derived.Below
import Derived.SizedLaws
import Derived.Lib.SmallJoins
import Derived.ChangeSame
import Derived.Test.YtbjncemaeagjjaaV1
import Derived.Test.YtbjncemaeagjjaaBuzpdmf1
import Derived.Test.YtbjncemaeagjjaaBuzpdmf2
import Derived.Test.YtbjncemaeagjjaaBuzpdmf3
set_option linter.unusedVariables false
set_option linter.unusedSimpArgs false
namespace Go.Proofs.Ytbjncemaeagjjaa.PX
open Go.RowKit Go.Proofs.Ytbjncemaeagjjaa.G Go.Proofs.YtbjncemaeagjjaaW.PrintWords Go.Proofs.YtbjncemaeagjjaaW.PrintLast Go.Proofs.YtbjncemaeagjjaaW.PrintMore
attribute [local go_sem] max2_int min2_int max_two min_two max_three min_three max_four min_four   -- for this text's walks alone
set_option linter.unusedVariables false
set_option linter.unusedSimpArgs false
/-! ### spec_CrossingSum: function 26 -/
mutual
def spec_CrossingSum.l0 : Nat → Int → Int → Int → ByteArray → Option (Int)
 | 0, _, _, _, _ => none
 | k + 1, x3, x4, x386000, x386001 => if x4 < x386000 then (spec_CrossingSum.l1 k x3 x4 (wrap64 (x4 + 1)) x386000 x386001) else (some x3)
def spec_CrossingSum.l1 : Nat → Int → Int → Int → Int → ByteArray → Option (Int)
 | 0, _, _, _, _, _ => none
 | k + 1, x3, x4, x5, x386000, x386001 => if x5 < x386000 then ((spec_l7Left.f k x386000 x386001 x4 x5).bind fun t387 => ((spec_l7Left.f k x386000 x386001 x5 x4).bind fun t388 => (spec_CrossingSum.l1 k (wrap64 (x3 + (wrap64 (t387 * t388)))) x4 (wrap64 (x5 + 1)) x386000 x386001))) else (spec_CrossingSum.l0 k x3 (wrap64 (x4 + 1)) x386000 x386001)
end
def spec_CrossingSum.f (k : Nat) (a0_0 : Int) (a0_1 : ByteArray) : Option (Int) := (spec_IsAcyclic.f k a0_0 a0_1).bind fun t386 => (if t386 = true then (spec_CrossingSum.l0 k 0 0 a0_0 a0_1) else (some 0))
theorem spec_CrossingSum.mono_l : ∀ k, (∀ y0 y1 y2 y3, LeO (spec_CrossingSum.l0 k y0 y1 y2 y3) (spec_CrossingSum.l0 (k + 1) y0 y1 y2 y3)) ∧ (∀ y0 y1 y2 y3 y4, LeO (spec_CrossingSum.l1 k y0 y1 y2 y3 y4) (spec_CrossingSum.l1 (k + 1) y0 y1 y2 y3 y4))
 | 0 => ⟨fun _ _ _ _ r h => by simp [spec_CrossingSum.l0] at h, fun _ _ _ _ _ r h => by simp [spec_CrossingSum.l1] at h⟩
 | k + 1 => by
  obtain ⟨ih0, ih1⟩ := spec_CrossingSum.mono_l k
  refine ⟨?_, ?_⟩ <;> intros <;> (first | unfold spec_CrossingSum.l0 | unfold spec_CrossingSum.l1) <;> repeat' first
  | (with_reducible exact ih0 _ _ _ _)
  | (with_reducible exact ih1 _ _ _ _ _)
  | (with_reducible exact spec_IsAcyclic.mono _ _ _)
  | (with_reducible exact spec_l7Left.mono _ _ _ _ _)
  | (with_reducible exact LeO.refl _)
  | (with_reducible exact LeO.none _)
  | (with_reducible refine LeO.ite ?_ ?_)
  | (with_reducible refine LeO.bind ?_ (fun _ => ?_))
  | exact ih0 _ _ _ _
  | exact ih1 _ _ _ _ _
  | exact spec_IsAcyclic.mono _ _ _
  | exact spec_l7Left.mono _ _ _ _ _
  | exact LeO.none _
  | refine LeO.ite ?_ ?_
  | refine LeO.bind ?_ (fun _ => ?_)
theorem spec_CrossingSum.mono : ∀ a0 a1 k, LeO (spec_CrossingSum.f k a0 a1) (spec_CrossingSum.f (k + 1) a0 a1) := by
 intro a0 a1 k
 obtain ⟨ih0, ih1⟩ := spec_CrossingSum.mono_l k
 unfold spec_CrossingSum.f
 repeat' first
   | (with_reducible exact ih0 _ _ _ _)
   | (with_reducible exact ih1 _ _ _ _ _)
   | (with_reducible exact spec_IsAcyclic.mono _ _ _)
   | (with_reducible exact spec_l7Left.mono _ _ _ _ _)
   | (with_reducible exact LeO.refl _)
   | (with_reducible exact LeO.none _)
   | (with_reducible refine LeO.ite ?_ ?_)
   | (with_reducible refine LeO.bind ?_ (fun _ => ?_))
   | exact ih0 _ _ _ _
   | exact ih1 _ _ _ _ _
   | exact spec_IsAcyclic.mono _ _ _
   | exact spec_l7Left.mono _ _ _ _ _
   | exact LeO.none _
   | refine LeO.ite ?_ ?_
   | refine LeO.bind ?_ (fun _ => ?_)
def spec_CrossingSum.T10 : Bool × List (List Nat × List Nat) := (true, [([], []), ([], []), ([], []), ([], []), ([1, 2, 3], [1, 2, 3]), ([], []), ([], []), ([], []), ([5, 6, 7, 4], [5, 6, 7]), ([4, 8], [4, 8]), ([0, 9], [0, 9]), ([10, 8, 0, 1, 2, 3, 4, 5, 6, 7, 8, 9, 10], [0, 10])])
def spec_CrossingSum.B10 : List Nat := [0, 0, 0, 0, 14, 0, 0, 0, 254, 510, 1023, 2047]
theorem spec_CrossingSum.tab10 : rtab .any (opsOf Try.f26 10) = spec_CrossingSum.T10 := by kernel_rfl
theorem spec_CrossingSum.bits10 : waitsOk spec_CrossingSum.T10.2 spec_CrossingSum.B10 = true := by kernel_rfl
set_option maxHeartbeats 8000000 in
set_option maxRecDepth 100000 in
theorem spec_CrossingSum.calls (k : Nat) (a0_0 : Int) (a0_1 : ByteArray) (r : Int) (w : World) (h : spec_CrossingSum.f k a0_0 a0_1 = some r) :
  Calls Try.prog 26 #[.agg #[.int .i64 a0_0, .string a0_1]] w fun e w' => e = .returned (.int .i64 r) ∧ Below w.heap.size w w' := by
 have hu26 := Try.underlying26
 have HB := Aside0.mk (Below.refl w.heap.size w)
 have H : ((spec_IsAcyclic.f k a0_0 a0_1).bind fun t386 => (if t386 = true then (spec_CrossingSum.l0 k 0 0 a0_0 a0_1) else (some 0))) = some r := h
 clear h
 replace H := Option.bind_eq_some_iff.mp H
 obtain ⟨t386, A20, H⟩ := H
 replace H : (if t386 = true then (spec_CrossingSum.l0 k 0 0 a0_0 a0_1) else (some 0)) = some r := H
 have A2 := Aside0.mk A20
 clear A20
 by_cases c3 : t386 = true
 ·subst c3
  have H1 : (spec_CrossingSum.l0 k 0 0 a0_0 a0_1) = some r := by rw [if_pos rfl] at H; exact H
  clear H
  have H := H1
  clear H1
  have H' := Aside0.mk H
  clear H
  go_enter Try.func26, Try.ntmps26
  go_wp2_with (first | ((with_reducible refine gate_dst (N := 1) rfl ?_); refine box_event ?hg (N := 1) ?hd (cs := #[.int .i64 a0_0, .string a0_1]) (t := 26) ?hr ?_; (case hd => rfl); (case hg => rfl); (case hr => first | (go_simp; done) | (go_simp; rfl)); intro gb385 hg w4 hbox hb; have BK385 := Aside0.mk (hbox); have GW385 := Aside0.mk ((by rw [hg]; exact (below_size zB) : w.heap.size ≤ gb385)); have GE385 := Aside0.mk ((by rw [hg]; exact (below_size zB) : w.heap.size ≤ gb385)); replace HB := Aside0.mk (below_step zB hb); clear hb hbox hg; have hcz5_0 : w4.cell? ⟨gb385, 0, none⟩ = some (.int .i64 a0_0) := (blk_cell BK385.out 0).trans rfl; have hcz5_1 : w4.cell? ⟨gb385, 1, none⟩ = some (.string a0_1) := (blk_cell BK385.out 1).trans rfl; have hfz5_0 := blk_frozen BK385.out 0; have hfz5_1 := blk_frozen BK385.out 1) | ((with_reducible refine gate_callee (f := 38) rfl ?_); refine goesL_ (some 7) rfl rfl Try.func38 (by kernel_rfl) rfl #[.agg #[.int .i64 a0_0, .string a0_1]] rfl zM ?_; (with_reducible refine (spec_IsAcyclic.calls k a0_0 a0_1 true _ A2.out).mono ?_); rintro e w6 ⟨rfl, hb⟩; refine ⟨_, rfl, ?_⟩; replace BK385 := Aside0.mk (blk_below (g := gb385) (o := .cells #[.int .i64 a0_0, .string a0_1] 26 (0, 0)) (zK BK385.out) hb); replace HB := Aside0.mk (below_step (zG GE385.out) hb); (try clear hb)))
  go_loopg [3, 4] k (fun kq v3 v4 w' => ∃ (x3_1 : Int) (x4_1 : Int), v3 = .int .i64 x3_1 ∧ v4 = .int .i64 x4_1 ∧ Aside0 (spec_CrossingSum.l0 kq x3_1 x4_1 a0_0 a0_1 = some r) ∧ Aside0 (kq ≤ k) ∧ Aside0 (w'.heap[gb385]? = some (.cells #[.int .i64 a0_0, .string a0_1] 26 (0, 0))) ∧ Aside0 (Below w.heap.size w w'))
  case atStart => exact ⟨(0), (0), zF, zF, H', ⟨Nat.le_refl _⟩, ⟨zK BK385.out⟩, ⟨zG GE385.out⟩⟩
  case round =>
   clear H'
   try clear c2
   try clear p2
   try clear c3
   try clear hcz5_0
   try clear hcz5_1
   try clear hfz5_0
   try clear hfz5_1
   obtain ⟨x3_1, x4_1, rfl, rfl, HA, HK1, BK385, HB⟩ := hrel
   cases gk with
   | zero => exact absurd HA.out (by simp [spec_CrossingSum.l0])
   | succ k1 =>
    have H := HA.out
    clear HA
    simp only [spec_CrossingSum.l0] at H
    by_cases c7 : x4_1 < a0_0
    ·rw [if_pos c7] at H
     have c7b0 : decide (x4_1 < a0_0) = true := decide_eq_true c7
     clear c7
     have H' := Aside0.mk H
     clear H
     have hcz8_0 : wr.cell? ⟨gb385, 0, none⟩ = some (.int .i64 a0_0) := (blk_cell BK385.out 0).trans rfl
     have hcz8_1 : wr.cell? ⟨gb385, 1, none⟩ = some (.string a0_1) := (blk_cell BK385.out 1).trans rfl
     have hfz8_0 := blk_frozen BK385.out 0
     have hfz8_1 := blk_frozen BK385.out 1
     go_wp2
     go_loopg [3, 5] k1 (fun kq v3 v5 w' => ∃ (x3_2 : Int) (x5_2 : Int), v3 = .int .i64 x3_2 ∧ v5 = .int .i64 x5_2 ∧ Aside0 (spec_CrossingSum.l1 kq x3_2 x4_1 x5_2 a0_0 a0_1 = some r) ∧ Aside0 (kq ≤ k1) ∧ Aside0 (w'.heap[gb385]? = some (.cells #[.int .i64 a0_0, .string a0_1] 26 (0, 0))) ∧ Aside0 (Below w.heap.size w w'))
     case atStart => exact ⟨(x3_1), (wrap64 (x4_1 + 1)), zF, zF, H', ⟨Nat.le_refl _⟩, ⟨zK BK385.out⟩, ⟨zG GE385.out⟩⟩
     case round =>
      clear H'
      try clear c2
      try clear p2
      try clear c3
      try clear p6
      try clear c7
      try clear c7b0
      try clear hcz5_0
      try clear hcz5_1
      try clear hcz8_0
      try clear hcz8_1
      try clear hfz5_0
      try clear hfz5_1
      try clear hfz8_0
      try clear hfz8_1
      try clear p2
      obtain ⟨x3_2, x5_2, rfl, rfl, HA, HK2, BK385, HB⟩ := hrel
      cases gk with
      | zero => exact absurd HA.out (by simp [spec_CrossingSum.l1])
      | succ k2 =>
       have H := HA.out
       clear HA
       simp only [spec_CrossingSum.l1] at H
       by_cases c9 : x5_2 < a0_0
       ·rw [if_pos c9] at H
        have c9b0 : decide (x5_2 < a0_0) = true := decide_eq_true c9
        clear c9
        replace H := Option.bind_eq_some_iff.mp H
        obtain ⟨t387, A100, H⟩ := H
        replace H : ((spec_l7Left.f k2 a0_0 a0_1 x5_2 x4_1).bind fun t388 => (spec_CrossingSum.l1 k2 (wrap64 (x3_2 + (wrap64 (t387 * t388)))) x4_1 (wrap64 (x5_2 + 1)) a0_0 a0_1)) = some r := H
        have A10 := Aside0.mk A100
        clear A100
        replace H := Option.bind_eq_some_iff.mp H
        obtain ⟨t388, A110, H⟩ := H
        replace H : (spec_CrossingSum.l1 k2 (wrap64 (x3_2 + (wrap64 (t387 * t388)))) x4_1 (wrap64 (x5_2 + 1)) a0_0 a0_1) = some r := H
        have A11 := Aside0.mk A110
        clear A110
        have H' := Aside0.mk H
        clear H
        have hcz12_0 : wr.cell? ⟨gb385, 0, none⟩ = some (.int .i64 a0_0) := (blk_cell BK385.out 0).trans rfl
        have hcz12_1 : wr.cell? ⟨gb385, 1, none⟩ = some (.string a0_1) := (blk_cell BK385.out 1).trans rfl
        have hfz12_0 := blk_frozen BK385.out 0
        have hfz12_1 := blk_frozen BK385.out 1
        try go_wp2
        have n0_ := Aside0.mk (blk_drew BK385.out)
        have n1_ := Aside0.mk (below_drew1 HB.out)
        clear BK385
        clear HB
        have BK385 := n0_
        have HB := n1_
        clear n0_ n1_
        refine start_ (n := 12) (S := fun w' => w'.cell? ⟨gb385, 0, none⟩ = some (.int .i64 a0_0) ∧ w'.cell? ⟨gb385, 1, none⟩ = some (.string a0_1)) (ds := []) #[false, false, false, false, false, false, false, false, false, false, false, false] (by kernel_rfl) rfl rfl ⟨(blk_cell BK385.out 0).trans rfl, (blk_cell BK385.out 1).trans rfl⟩ (fun hHeld => ?_); refine with_tabW spec_CrossingSum.tab10 spec_CrossingSum.bits10 (fun HT_ HW_ => ?_)
        generalize wr.drew = w13 at BK385 HB hHeld ⊢
        refine zP 0 (some 23) rfl rfl ?_
        refine zP 2 (some 25) rfl rfl ?_
        refine zP 3 (some 26) rfl rfl ?_
        refine zP 6 (some 29) rfl rfl ?_
        refine zP 7 (some 30) rfl rfl ?_
        refine take_ (i := 1) (N := some 24) (v := ?_) (a' := ?_) #[true, true, true, true, false, false, true, true, false, false, false, false] rfl rfl (take_ofW HT_.out HW_.out (by kernel_rfl)) (fun _ _ _ h => h) (Or.inl ⟨by rfl, ?_⟩) hHeld ?_ ?_
        rotate_left
        ·rintro w' ⟨s0, s1⟩
         go_simp
         with_reducible rfl
        rotate_left
        ·simp only [Act.put, List.setIfInBounds_toArray, List.set_cons_zero, List.set_cons_succ, i64_w, i32_w]
         rfl
        refine take_ (i := 5) (N := some 28) (v := ?_) (a' := ?_) #[true, true, true, true, false, true, true, true, false, false, false, false] rfl rfl (take_ofW HT_.out HW_.out (by kernel_rfl)) (fun _ _ _ h => h) (Or.inl ⟨by rfl, ?_⟩) hHeld ?_ ?_
        rotate_left
        ·rintro w' ⟨s0, s1⟩
         go_simp
         with_reducible rfl
        rotate_left
        ·simp only [Act.put, List.setIfInBounds_toArray, List.set_cons_zero, List.set_cons_succ, i64_w, i32_w]
         rfl
        refine one_ (i := 4) (N := some 27) #[true, true, true, true, true, true, true, true, false, false, false, false] rfl rfl (one_of HT_.out (by kernel_rfl)) (by decide) (fun K hK => ?_)
        refine goes_ Try.func40 (by kernel_rfl) rfl #[.agg #[.int .i64 a0_0, .string a0_1], .int .i64 x4_1, .int .i64 x5_2] (by rfl) rfl rfl zM ?_
        with_reducible refine (spec_l7Left.calls k2 a0_0 a0_1 x4_1 x5_2 t387 _ A10.out).mono ?_
        rintro e w14 ⟨rfl, hb⟩
        refine ⟨_, rfl, ?_⟩
        have n0_ := Aside0.mk (blk_below (g := gb385) (o := .cells #[.int .i64 a0_0, .string a0_1] 26 (0, 0)) (zK BK385.out) hb)
        have n1_ := Aside0.mk (below_step (zG GE385.out) hb)
        clear BK385
        clear HB
        have BK385 := n0_
        have HB := n1_
        clear n0_ n1_
        (try clear hb)
        (try clear hb2)
        (try clear hk)
        (try clear hi)
        refine hK.out _ _ ⟨(blk_cell BK385.out 0).trans rfl, (blk_cell BK385.out 1).trans rfl⟩ (fun hHeld => ?_)
        clear hK K
        refine norm_ (a' := ?_) ?_ ?_
        rotate_left
        ·show Act.put _ (some 27) _ = _
         simp only [Act.put, List.setIfInBounds_toArray, List.set_cons_zero, List.set_cons_succ, i64_w, i32_w]
         rfl
        refine one_ (i := 8) (N := some 31) #[true, true, true, true, true, true, true, true, true, false, false, false] rfl rfl (one_of HT_.out (by kernel_rfl)) (by decide) (fun K hK => ?_)
        refine goes_ Try.func40 (by kernel_rfl) rfl #[.agg #[.int .i64 a0_0, .string a0_1], .int .i64 x5_2, .int .i64 x4_1] (by rfl) rfl rfl zM ?_
        with_reducible refine (spec_l7Left.calls k2 a0_0 a0_1 x5_2 x4_1 t388 _ A11.out).mono ?_
        rintro e w15 ⟨rfl, hb⟩
        refine ⟨_, rfl, ?_⟩
        have n0_ := Aside0.mk (blk_below (g := gb385) (o := .cells #[.int .i64 a0_0, .string a0_1] 26 (0, 0)) (zK BK385.out) hb)
        have n1_ := Aside0.mk (below_step (zG GE385.out) hb)
        clear BK385
        clear HB
        have BK385 := n0_
        have HB := n1_
        clear n0_ n1_
        (try clear hb)
        (try clear hb2)
        (try clear hk)
        (try clear hi)
        refine hK.out _ _ ⟨(blk_cell BK385.out 0).trans rfl, (blk_cell BK385.out 1).trans rfl⟩ (fun hHeld => ?_)
        clear hK K
        refine norm_ (a' := ?_) ?_ ?_
        rotate_left
        ·show Act.put _ (some 31) _ = _
         simp only [Act.put, List.setIfInBounds_toArray, List.set_cons_zero, List.set_cons_succ, i64_w, i32_w]
         rfl
        refine zP 9 (some 32) rfl rfl ?_
        refine zP 10 (some 33) rfl rfl ?_
        refine zP 11 (some 3) rfl rfl ?_
        refine done_ (done_of HT_.out (by kernel_rfl)) ?_
        try go_wp2
        go_roundg k2
        case measure => have := HK1.out; have := HK2.out; omega
        case rel => exact ⟨(wrap64 (x3_2 + (wrap64 (t387 * t388)))), (wrap64 (x5_2 + 1)), zF, zF, H', ⟨by have := HK1.out; have := HK2.out; omega⟩, ⟨zK BK385.out⟩, ⟨zG GE385.out⟩⟩
       ·rw [if_neg c9] at H
        have c9b0 : decide (x5_2 < a0_0) = false := decide_eq_false c9
        clear c9
        have H' := Aside0.mk H
        clear H
        have hcz16_0 : wr.cell? ⟨gb385, 0, none⟩ = some (.int .i64 a0_0) := (blk_cell BK385.out 0).trans rfl
        have hcz16_1 : wr.cell? ⟨gb385, 1, none⟩ = some (.string a0_1) := (blk_cell BK385.out 1).trans rfl
        have hfz16_0 := blk_frozen BK385.out 0
        have hfz16_1 := blk_frozen BK385.out 1
        go_wp2
        go_roundg k2
        case measure => have := HK1.out; have := HK2.out; omega
        case rel => exact ⟨(x3_2), (wrap64 (x4_1 + 1)), zF, zF, H', ⟨by have := HK1.out; have := HK2.out; omega⟩, ⟨zK BK385.out⟩, ⟨zG GE385.out⟩⟩
    ·rw [if_neg c7] at H
     have c7b0 : decide (x4_1 < a0_0) = false := decide_eq_false c7
     clear c7
     obtain rfl := Option.some.inj H
     have hcz17_0 : wr.cell? ⟨gb385, 0, none⟩ = some (.int .i64 a0_0) := (blk_cell BK385.out 0).trans rfl
     have hcz17_1 : wr.cell? ⟨gb385, 1, none⟩ = some (.string a0_1) := (blk_cell BK385.out 1).trans rfl
     have hfz17_0 := blk_frozen BK385.out 0
     have hfz17_1 := blk_frozen BK385.out 1
     go_wp2
     go_ret
     exact ⟨zE, zG GE385.out⟩
 ·replace c3 := Bool.eq_false_iff.mpr c3
  subst c3
  have H1 : (some 0) = some r := by rw [if_neg (show ¬ (false = true) by decide)] at H; exact H
  clear H
  have H := H1
  clear H1
  obtain rfl := Option.some.inj H
  go_enter Try.func26, Try.ntmps26
  go_wp2_with (first | ((with_reducible refine gate_dst (N := 1) rfl ?_); refine box_event ?hg (N := 1) ?hd (cs := #[.int .i64 a0_0, .string a0_1]) (t := 26) ?hr ?_; (case hd => rfl); (case hg => rfl); (case hr => first | (go_simp; done) | (go_simp; rfl)); intro gb385 hg w18 hbox hb; have BK385 := Aside0.mk (hbox); have GW385 := Aside0.mk ((by rw [hg]; exact (below_size zB) : w.heap.size ≤ gb385)); have GE385 := Aside0.mk ((by rw [hg]; exact (below_size zB) : w.heap.size ≤ gb385)); replace HB := Aside0.mk (below_step zB hb); clear hb hbox hg; have hcz19_0 : w18.cell? ⟨gb385, 0, none⟩ = some (.int .i64 a0_0) := (blk_cell BK385.out 0).trans rfl; have hcz19_1 : w18.cell? ⟨gb385, 1, none⟩ = some (.string a0_1) := (blk_cell BK385.out 1).trans rfl; have hfz19_0 := blk_frozen BK385.out 0; have hfz19_1 := blk_frozen BK385.out 1) | ((with_reducible refine gate_callee (f := 38) rfl ?_); refine goesL_ (some 7) rfl rfl Try.func38 (by kernel_rfl) rfl #[.agg #[.int .i64 a0_0, .string a0_1]] rfl zM ?_; (with_reducible refine (spec_IsAcyclic.calls k a0_0 a0_1 false _ A2.out).mono ?_); rintro e w20 ⟨rfl, hb⟩; refine ⟨_, rfl, ?_⟩; replace BK385 := Aside0.mk (blk_below (g := gb385) (o := .cells #[.int .i64 a0_0, .string a0_1] 26 (0, 0)) (zK BK385.out) hb); replace HB := Aside0.mk (below_step (zG GE385.out) hb); (try clear hb)))
  go_ret
  exact ⟨zE, zG GE385.out⟩
/-! ### impl_CrossingSum: function 27 -/
mutual
def impl_CrossingSum.l0 : Nat → List Int → Int → Int → Int → ByteArray → Option (Int)
 | 0, _, _, _, _, _ => none
 | k + 1, x3, x5, x6, x390000, x390001 => if x6 < x390000 then (impl_CrossingSum.l1 k x3 x5 x6 (wrap64 (x6 + 1)) x390000 x390001) else (some x5)
def impl_CrossingSum.l1 : Nat → List Int → Int → Int → Int → Int → ByteArray → Option (Int)
 | 0, _, _, _, _, _, _ => none
 | k + 1, x3, x5, x6, x7, x390000, x390001 => if x7 < x390000 then (if x3.length = 344 then ((impl_chi_left.f k x3 x6 x7).bind fun t394 => ((impl_chi_left.f k x3 x7 x6).bind fun t395 => (impl_CrossingSum.l1 k x3 (wrap64 (x5 + (wrap64 (t394 * t395)))) x6 (wrap64 (x7 + 1)) x390000 x390001))) else (none)) else (impl_CrossingSum.l0 k x3 x5 (wrap64 (x6 + 1)) x390000 x390001)
end
def impl_CrossingSum.f (k : Nat) (a0_0 : Int) (a0_1 : ByteArray) : Option (Int) := (impl_orderOf.f k a0_0 a0_1).bind fun bt390 => (if bt390.2 = true then (impl_CrossingSum.l0 k bt390.1 0 0 a0_0 a0_1) else (some 0))
theorem impl_CrossingSum.mono_l : ∀ k, (∀ y0 y1 y2 y3 y4, LeO (impl_CrossingSum.l0 k y0 y1 y2 y3 y4) (impl_CrossingSum.l0 (k + 1) y0 y1 y2 y3 y4)) ∧ (∀ y0 y1 y2 y3 y4 y5, LeO (impl_CrossingSum.l1 k y0 y1 y2 y3 y4 y5) (impl_CrossingSum.l1 (k + 1) y0 y1 y2 y3 y4 y5))
 | 0 => ⟨fun _ _ _ _ _ r h => by simp [impl_CrossingSum.l0] at h, fun _ _ _ _ _ _ r h => by simp [impl_CrossingSum.l1] at h⟩
 | k + 1 => by
  obtain ⟨ih0, ih1⟩ := impl_CrossingSum.mono_l k
  refine ⟨?_, ?_⟩ <;> intros <;> (first | unfold impl_CrossingSum.l0 | unfold impl_CrossingSum.l1) <;> repeat' first
  | (with_reducible exact ih0 _ _ _ _ _)
  | (with_reducible exact ih1 _ _ _ _ _ _)
  | (with_reducible exact impl_chi_left.mono _ _ _ _)
  | (with_reducible exact impl_orderOf.mono _ _ _)
  | (with_reducible exact LeO.refl _)
  | (with_reducible exact LeO.none _)
  | (with_reducible refine LeO.ite ?_ ?_)
  | (with_reducible refine LeO.bind ?_ (fun _ => ?_))
  | exact ih0 _ _ _ _ _
  | exact ih1 _ _ _ _ _ _
  | exact impl_chi_left.mono _ _ _ _
  | exact impl_orderOf.mono _ _ _
  | exact LeO.none _
  | refine LeO.ite ?_ ?_
  | refine LeO.bind ?_ (fun _ => ?_)
theorem impl_CrossingSum.mono : ∀ a0 a1 k, LeO (impl_CrossingSum.f k a0 a1) (impl_CrossingSum.f (k + 1) a0 a1) := by
 intro a0 a1 k
 obtain ⟨ih0, ih1⟩ := impl_CrossingSum.mono_l k
 unfold impl_CrossingSum.f
 repeat' first
   | (with_reducible exact ih0 _ _ _ _ _)
   | (with_reducible exact ih1 _ _ _ _ _ _)
   | (with_reducible exact impl_chi_left.mono _ _ _ _)
   | (with_reducible exact impl_orderOf.mono _ _ _)
   | (with_reducible exact LeO.refl _)
   | (with_reducible exact LeO.none _)
   | (with_reducible refine LeO.ite ?_ ?_)
   | (with_reducible refine LeO.bind ?_ (fun _ => ?_))
   | exact ih0 _ _ _ _ _
   | exact ih1 _ _ _ _ _ _
   | exact impl_chi_left.mono _ _ _ _
   | exact impl_orderOf.mono _ _ _
   | exact LeO.none _
   | refine LeO.ite ?_ ?_
   | refine LeO.bind ?_ (fun _ => ?_)
set_option maxHeartbeats 8000000 in
set_option maxRecDepth 100000 in
theorem impl_CrossingSum.calls (k : Nat) (a0_0 : Int) (a0_1 : ByteArray) (r : Int) (w : World) (h : impl_CrossingSum.f k a0_0 a0_1 = some r) :
  Calls Try.prog 27 #[.agg #[.int .i64 a0_0, .string a0_1]] w fun e w' => e = .returned (.int .i64 r) ∧ Below w.heap.size w w' := by
 have hu26 := Try.underlying26
 have HB := Aside0.mk (Below.refl w.heap.size w)
 have H : ((impl_orderOf.f k a0_0 a0_1).bind fun bt390 => (if bt390.2 = true then (impl_CrossingSum.l0 k bt390.1 0 0 a0_0 a0_1) else (some 0))) = some r := h
 clear h
 replace H := Option.bind_eq_some_iff.mp H
 obtain ⟨⟨t390, t393⟩, A20, H⟩ := H
 replace H : (if t393 = true then (impl_CrossingSum.l0 k t390 0 0 a0_0 a0_1) else (some 0)) = some r := H
 have A2 := Aside0.mk A20
 clear A20
 by_cases c3 : t393 = true
 ·subst c3
  have H1 : (impl_CrossingSum.l0 k t390 0 0 a0_0 a0_1) = some r := by rw [if_pos rfl] at H; exact H
  clear H
  have H := H1
  clear H1
  have H' := Aside0.mk H
  clear H
  go_enter Try.func27, Try.ntmps27
  go_wp2_with (first | ((with_reducible refine gate_dst (N := 1) rfl ?_); refine box_event ?hg (N := 1) ?hd (cs := #[.int .i64 a0_0, .string a0_1]) (t := 26) ?hr ?_; (case hd => rfl); (case hg => rfl); (case hr => first | (go_simp; done) | (go_simp; rfl)); intro gb389 hg w4 hbox hb; have BK389 := Aside0.mk (hbox); have GW389 := Aside0.mk ((by rw [hg]; exact (below_size zB) : w.heap.size ≤ gb389)); have GE389 := Aside0.mk ((by rw [hg]; exact (below_size zB) : w.heap.size ≤ gb389)); replace HB := Aside0.mk (below_step zB hb); clear hb hbox hg; have hcz5_0 : w4.cell? ⟨gb389, 0, none⟩ = some (.int .i64 a0_0) := (blk_cell BK389.out 0).trans rfl; have hcz5_1 : w4.cell? ⟨gb389, 1, none⟩ = some (.string a0_1) := (blk_cell BK389.out 1).trans rfl; have hfz5_0 := blk_frozen BK389.out 0; have hfz5_1 := blk_frozen BK389.out 1) | ((with_reducible refine gate_callee (f := 41) rfl ?_); refine goesL_ (some 10) rfl rfl Try.func41 (by kernel_rfl) rfl #[.agg #[.int .i64 a0_0, .string a0_1]] rfl zM ?_; (with_reducible refine (impl_orderOf.calls k a0_0 a0_1 t390 true _ A2.out).mono ?_); rintro e w6 ⟨v391, rfl, ho0, hb⟩; refine ⟨_, rfl, ?_⟩; have HO392 := Aside0.mk (Kd.R_lower ho0 (below_size (zG GE389.out))); replace BK389 := Aside0.mk (blk_below (g := gb389) (o := .cells #[.int .i64 a0_0, .string a0_1] 26 (0, 0)) (zK BK389.out) hb); replace HB := Aside0.mk (below_step (zG GE389.out) hb); (try clear hb); (try clear ho0)))
  go_loopg [5, 6] k (fun kq v5 v6 w' => ∃ (x5_1 : Int) (x6_1 : Int), v5 = .int .i64 x5_1 ∧ v6 = .int .i64 x6_1 ∧ Aside0 (impl_CrossingSum.l0 kq t390 x5_1 x6_1 a0_0 a0_1 = some r) ∧ Aside0 (kq ≤ k) ∧ Aside0 (Kd.R (Kd.int .i64) 68 w' w.heap.size (fun _ => True) v391 t390) ∧ Aside0 (w'.heap[gb389]? = some (.cells #[.int .i64 a0_0, .string a0_1] 26 (0, 0))) ∧ Aside0 (Below w.heap.size w w'))
  case atStart => exact ⟨(0), (0), zF, zF, H', ⟨Nat.le_refl _⟩, ⟨zR HO392.out⟩, ⟨zK BK389.out⟩, ⟨zG GE389.out⟩⟩
  case round =>
   clear H'
   try clear c2
   try clear p2
   try clear c3
   try clear c4
   try clear hcz5_0
   try clear hcz5_1
   try clear hfz5_0
   try clear hfz5_1
   obtain ⟨x5_1, x6_1, rfl, rfl, HA, HK1, HO_3, BK389, HB⟩ := hrel
   cases gk with
   | zero => exact absurd HA.out (by simp [impl_CrossingSum.l0])
   | succ k1 =>
    have H := HA.out
    clear HA
    simp only [impl_CrossingSum.l0] at H
    by_cases c7 : x6_1 < a0_0
    ·rw [if_pos c7] at H
     have c7b0 : decide (x6_1 < a0_0) = true := decide_eq_true c7
     clear c7
     have H' := Aside0.mk H
     clear H
     have hcz8_0 : wr.cell? ⟨gb389, 0, none⟩ = some (.int .i64 a0_0) := (blk_cell BK389.out 0).trans rfl
     have hcz8_1 : wr.cell? ⟨gb389, 1, none⟩ = some (.string a0_1) := (blk_cell BK389.out 1).trans rfl
     have hfz8_0 := blk_frozen BK389.out 0
     have hfz8_1 := blk_frozen BK389.out 1
     go_wp2
     go_loopg [5, 7] k1 (fun kq v5 v7 w' => ∃ (x5_2 : Int) (x7_2 : Int), v5 = .int .i64 x5_2 ∧ v7 = .int .i64 x7_2 ∧ Aside0 (impl_CrossingSum.l1 kq t390 x5_2 x6_1 x7_2 a0_0 a0_1 = some r) ∧ Aside0 (kq ≤ k1) ∧ Aside0 (Kd.R (Kd.int .i64) 68 w' w.heap.size (fun _ => True) v391 t390) ∧ Aside0 (w'.heap[gb389]? = some (.cells #[.int .i64 a0_0, .string a0_1] 26 (0, 0))) ∧ Aside0 (Below w.heap.size w w'))
     case atStart => exact ⟨(x5_1), (wrap64 (x6_1 + 1)), zF, zF, H', ⟨Nat.le_refl _⟩, ⟨zR HO_3.out⟩, ⟨zK BK389.out⟩, ⟨zG GE389.out⟩⟩
     case round =>
      clear H'
      try clear c2
      try clear p2
      try clear c3
      try clear c4
      try clear p6
      try clear c7
      try clear c7b0
      try clear hcz5_0
      try clear hcz5_1
      try clear hcz8_0
      try clear hcz8_1
      try clear hfz5_0
      try clear hfz5_1
      try clear hfz8_0
      try clear hfz8_1
      try clear p2
      obtain ⟨x5_2, x7_2, rfl, rfl, HA, HK2, HO_3, BK389, HB⟩ := hrel
      cases gk with
      | zero => exact absurd HA.out (by simp [impl_CrossingSum.l1])
      | succ k2 =>
       have H := HA.out
       clear HA
       simp only [impl_CrossingSum.l1] at H
       by_cases c9 : x7_2 < a0_0
       ·rw [if_pos c9] at H
        have c9b0 : decide (x7_2 < a0_0) = true := decide_eq_true c9
        clear c9
        by_cases c10 : t390.length = 344
        ·rw [if_pos c10] at H
         have c10b0 := eq_true c10
         have c10b1 : decide (t390.length = 344) = true := decide_eq_true c10
         clear c10
         replace H := Option.bind_eq_some_iff.mp H
         obtain ⟨t394, A110, H⟩ := H
         replace H : ((impl_chi_left.f k2 t390 x7_2 x6_1).bind fun t395 => (impl_CrossingSum.l1 k2 t390 (wrap64 (x5_2 + (wrap64 (t394 * t395)))) x6_1 (wrap64 (x7_2 + 1)) a0_0 a0_1)) = some r := H
         have A11 := Aside0.mk A110
         clear A110
         replace H := Option.bind_eq_some_iff.mp H
         obtain ⟨t395, A120, H⟩ := H
         replace H : (impl_CrossingSum.l1 k2 t390 (wrap64 (x5_2 + (wrap64 (t394 * t395)))) x6_1 (wrap64 (x7_2 + 1)) a0_0 a0_1) = some r := H
         have A12 := Aside0.mk A120
         clear A120
         have H' := Aside0.mk H
         clear H
         have hcz13_0 : wr.cell? ⟨gb389, 0, none⟩ = some (.int .i64 a0_0) := (blk_cell BK389.out 0).trans rfl
         have hcz13_1 : wr.cell? ⟨gb389, 1, none⟩ = some (.string a0_1) := (blk_cell BK389.out 1).trans rfl
         have hfz13_0 := blk_frozen BK389.out 0
         have hfz13_1 := blk_frozen BK389.out 1
         obtain ⟨go14, co14, eo14, gb14, gl14, cl14, HG14⟩ := Kd.R_form HO_3.out (by have hl_ := Nat.le_of_eq (Eq.symm (zA : t390.length = 344)); omega)
         (first | cases eo14 | (injection eo14 with ea_ en_ ec_; (first | subst ea_ | (injection ea_ with ea_; subst ea_)); subst ec_; clear en_))
         have GB14 := Aside0.mk gb14
         have GG14 := Aside0.mk HG14
         clear gb14 gl14 HG14
         go_wp2_with (first | ((with_reducible refine gate_callee (f := 43) rfl ?_); refine goesL_ (some 33) rfl rfl Try.func43 (by kernel_rfl) rfl #[.pointer (some ⟨go14, 0, none⟩), .int .i64 x6_1, .int .i64 x7_2] rfl zM ?_; (with_reducible refine (impl_chi_left.calls k2 _ t390 x6_1 x7_2 t394 _ ?side1 ?side2 A11.out).mono ?_); (case side1 => repeat (first | exact (Kd.R_reads' HO_3.out).2.2 | (with_reducible refine Kd.C_alloc ?_ _) | (with_reducible refine Kd.C_drewN ?_ _) | (with_reducible refine Kd.C_drew ?_))); (case side2 => exact (zA : t390.length = 344)); rintro e w' ⟨rfl, ⟨nd, rfl⟩⟩; refine ⟨_, rfl, ?_⟩) | ((with_reducible refine gate_callee (f := 43) rfl ?_); refine goesL_ (some 37) rfl rfl Try.func43 (by kernel_rfl) rfl #[.pointer (some ⟨go14, 0, none⟩), .int .i64 x7_2, .int .i64 x6_1] rfl zM ?_; (with_reducible refine (impl_chi_left.calls k2 _ t390 x7_2 x6_1 t395 _ ?side1 ?side2 A12.out).mono ?_); (case side1 => repeat (first | exact (Kd.R_reads' HO_3.out).2.2 | (with_reducible refine Kd.C_alloc ?_ _) | (with_reducible refine Kd.C_drewN ?_ _) | (with_reducible refine Kd.C_drew ?_))); (case side2 => exact (zA : t390.length = 344)); rintro e w' ⟨rfl, ⟨nd, rfl⟩⟩; refine ⟨_, rfl, ?_⟩))
         go_roundg k2
         case measure => have := HK1.out; have := HK2.out; omega
         case rel => exact ⟨(wrap64 (x5_2 + (wrap64 (t394 * t395)))), (wrap64 (x7_2 + 1)), zF, zF, H', ⟨by have := HK1.out; have := HK2.out; omega⟩, ⟨zR HO_3.out⟩, ⟨zK BK389.out⟩, ⟨zG GE389.out⟩⟩
        ·rw [if_neg c10] at H
         exact absurd H (by simp)
       ·rw [if_neg c9] at H
        have c9b0 : decide (x7_2 < a0_0) = false := decide_eq_false c9
        clear c9
        have H' := Aside0.mk H
        clear H
        have hcz16_0 : wr.cell? ⟨gb389, 0, none⟩ = some (.int .i64 a0_0) := (blk_cell BK389.out 0).trans rfl
        have hcz16_1 : wr.cell? ⟨gb389, 1, none⟩ = some (.string a0_1) := (blk_cell BK389.out 1).trans rfl
        have hfz16_0 := blk_frozen BK389.out 0
        have hfz16_1 := blk_frozen BK389.out 1
        go_wp2
        go_roundg k2
        case measure => have := HK1.out; have := HK2.out; omega
        case rel => exact ⟨(x5_2), (wrap64 (x6_1 + 1)), zF, zF, H', ⟨by have := HK1.out; have := HK2.out; omega⟩, ⟨zR HO_3.out⟩, ⟨zK BK389.out⟩, ⟨zG GE389.out⟩⟩
    ·rw [if_neg c7] at H
     have c7b0 : decide (x6_1 < a0_0) = false := decide_eq_false c7
     clear c7
     obtain rfl := Option.some.inj H
     have hcz17_0 : wr.cell? ⟨gb389, 0, none⟩ = some (.int .i64 a0_0) := (blk_cell BK389.out 0).trans rfl
     have hcz17_1 : wr.cell? ⟨gb389, 1, none⟩ = some (.string a0_1) := (blk_cell BK389.out 1).trans rfl
     have hfz17_0 := blk_frozen BK389.out 0
     have hfz17_1 := blk_frozen BK389.out 1
     go_wp2
     go_ret
     exact ⟨zE, zG GE389.out⟩
 ·replace c3 := Bool.eq_false_iff.mpr c3
  subst c3
  have H1 : (some 0) = some r := by rw [if_neg (show ¬ (false = true) by decide)] at H; exact H
  clear H
  have H := H1
  clear H1
  obtain rfl := Option.some.inj H
  go_enter Try.func27, Try.ntmps27
  go_wp2_with (first | ((with_reducible refine gate_dst (N := 1) rfl ?_); refine box_event ?hg (N := 1) ?hd (cs := #[.int .i64 a0_0, .string a0_1]) (t := 26) ?hr ?_; (case hd => rfl); (case hg => rfl); (case hr => first | (go_simp; done) | (go_simp; rfl)); intro gb389 hg w18 hbox hb; have BK389 := Aside0.mk (hbox); have GW389 := Aside0.mk ((by rw [hg]; exact (below_size zB) : w.heap.size ≤ gb389)); have GE389 := Aside0.mk ((by rw [hg]; exact (below_size zB) : w.heap.size ≤ gb389)); replace HB := Aside0.mk (below_step zB hb); clear hb hbox hg; have hcz19_0 : w18.cell? ⟨gb389, 0, none⟩ = some (.int .i64 a0_0) := (blk_cell BK389.out 0).trans rfl; have hcz19_1 : w18.cell? ⟨gb389, 1, none⟩ = some (.string a0_1) := (blk_cell BK389.out 1).trans rfl; have hfz19_0 := blk_frozen BK389.out 0; have hfz19_1 := blk_frozen BK389.out 1) | ((with_reducible refine gate_callee (f := 41) rfl ?_); refine goesL_ (some 10) rfl rfl Try.func41 (by kernel_rfl) rfl #[.agg #[.int .i64 a0_0, .string a0_1]] rfl zM ?_; (with_reducible refine (impl_orderOf.calls k a0_0 a0_1 t390 false _ A2.out).mono ?_); rintro e w20 ⟨v391, rfl, ho0, hb⟩; refine ⟨_, rfl, ?_⟩; have HO392 := Aside0.mk (Kd.R_lower ho0 (below_size (zG GE389.out))); replace BK389 := Aside0.mk (blk_below (g := gb389) (o := .cells #[.int .i64 a0_0, .string a0_1] 26 (0, 0)) (zK BK389.out) hb); replace HB := Aside0.mk (below_step (zG GE389.out) hb); (try clear hb); (try clear ho0)))
  go_ret
  exact ⟨zE, zG GE389.out⟩
/-! ### laws_FnExactCrossingSum: function 6 -/
def laws_FnExactCrossingSum.f (k : Nat) (a0_0 : Int) (a0_1 : ByteArray) : Option (Bool) := (laws_szSigns.f a0_0 a0_1 1048576).bind fun t397 => (if t397 < 0 then (some true) else ((laws_toSigns.f a0_0 a0_1).bind fun bt398 => ((spec_CrossingSum.f k bt398.1 bt398.2).bind fun t400 => ((laws_toSigns.f a0_0 a0_1).bind fun bt401 => ((impl_CrossingSum.f k bt401.1 bt401.2).bind fun t403 => (if t403 = t400 then (some true) else (some false)))))))
theorem laws_FnExactCrossingSum.mono : ∀ a0 a1 k, LeO (laws_FnExactCrossingSum.f k a0 a1) (laws_FnExactCrossingSum.f (k + 1) a0 a1) := by
 intro a0 a1 k
 unfold laws_FnExactCrossingSum.f
 repeat' first
   | (with_reducible exact impl_CrossingSum.mono _ _ _)
   | (with_reducible exact spec_CrossingSum.mono _ _ _)
   | (with_reducible exact LeO.refl _)
   | (with_reducible exact LeO.none _)
   | (with_reducible refine LeO.ite ?_ ?_)
   | (with_reducible refine LeO.bind ?_ (fun _ => ?_))
   | exact impl_CrossingSum.mono _ _ _
   | exact spec_CrossingSum.mono _ _ _
   | exact LeO.none _
   | refine LeO.ite ?_ ?_
   | refine LeO.bind ?_ (fun _ => ?_)
set_option maxHeartbeats 8000000 in
set_option maxRecDepth 100000 in
theorem laws_FnExactCrossingSum.calls (k : Nat) (a0_0 : Int) (a0_1 : ByteArray) (r : Bool) (w : World) (h : laws_FnExactCrossingSum.f k a0_0 a0_1 = some r) (hr_ : r = true) :
  Calls Try.prog 6 #[.agg #[.int .i64 a0_0, .string a0_1]] w fun e w' => e = .returned (.bool r) ∧ Below w.heap.size w w' := by
 have hu23 := Try.underlying23
 have HB := Aside0.mk (Below.refl w.heap.size w)
 have H : ((laws_szSigns.f a0_0 a0_1 1048576).bind fun t397 => (if t397 < 0 then (some true) else ((laws_toSigns.f a0_0 a0_1).bind fun bt398 => ((spec_CrossingSum.f k bt398.1 bt398.2).bind fun t400 => ((laws_toSigns.f a0_0 a0_1).bind fun bt401 => ((impl_CrossingSum.f k bt401.1 bt401.2).bind fun t403 => (if t403 = t400 then (some true) else (some false)))))))) = some r := h
 clear h
 replace H := Option.bind_eq_some_iff.mp H
 obtain ⟨t397, A20, H⟩ := H
 replace H : (if t397 < 0 then (some true) else ((laws_toSigns.f a0_0 a0_1).bind fun bt398 => ((spec_CrossingSum.f k bt398.1 bt398.2).bind fun t400 => ((laws_toSigns.f a0_0 a0_1).bind fun bt401 => ((impl_CrossingSum.f k bt401.1 bt401.2).bind fun t403 => (if t403 = t400 then (some true) else (some false))))))) = some r := H
 have A2 := Aside0.mk A20
 clear A20
 by_cases c3 : t397 < 0
 ·rw [if_pos c3] at H
  have c3b0 : decide (t397 < 0) = true := decide_eq_true c3
  clear c3
  obtain rfl := Option.some.inj H
  go_enter Try.func6, Try.ntmps6
  go_wp2_with (first | ((with_reducible refine gate_dst (N := 1) rfl ?_); refine box_event ?hg (N := 1) ?hd (cs := #[.int .i64 a0_0, .string a0_1]) (t := 23) ?hr ?_; (case hd => rfl); (case hg => rfl); (case hr => first | (go_simp; done) | (go_simp; rfl)); intro gb396 hg w4 hbox hb; have BK396 := Aside0.mk (hbox); have GW396 := Aside0.mk ((by rw [hg]; exact (below_size zB) : w.heap.size ≤ gb396)); have GE396 := Aside0.mk ((by rw [hg]; exact (below_size zB) : w.heap.size ≤ gb396)); replace HB := Aside0.mk (below_step zB hb); clear hb hbox hg; have hcz5_0 : w4.cell? ⟨gb396, 0, none⟩ = some (.int .i64 a0_0) := (blk_cell BK396.out 0).trans rfl; have hcz5_1 : w4.cell? ⟨gb396, 1, none⟩ = some (.string a0_1) := (blk_cell BK396.out 1).trans rfl; have hfz5_0 := blk_frozen BK396.out 0; have hfz5_1 := blk_frozen BK396.out 1) | ((with_reducible refine gate_callee (f := 12) rfl ?_); refine goesL_ (some 8) rfl rfl Try.func12 (by kernel_rfl) rfl #[.agg #[.int .i64 a0_0, .string a0_1], .int .i64 1048576] rfl zM ?_; (with_reducible refine (laws_szSigns.calls a0_0 a0_1 1048576 t397 _ A2.out).mono ?_); rintro e w6 ⟨rfl, hb⟩; refine ⟨_, rfl, ?_⟩; replace BK396 := Aside0.mk (blk_below (g := gb396) (o := .cells #[.int .i64 a0_0, .string a0_1] 23 (0, 0)) (zK BK396.out) hb); replace HB := Aside0.mk (below_step (zG GE396.out) hb); (try clear hb)))
  go_ret
  exact ⟨zE, zG GE396.out⟩
 ·rw [if_neg c3] at H
  have c3b0 : decide (t397 < 0) = false := decide_eq_false c3
  clear c3
  replace H := Option.bind_eq_some_iff.mp H
  obtain ⟨⟨t398, t399⟩, A70, H⟩ := H
  replace H : ((spec_CrossingSum.f k t398 t399).bind fun t400 => ((laws_toSigns.f a0_0 a0_1).bind fun bt401 => ((impl_CrossingSum.f k bt401.1 bt401.2).bind fun t403 => (if t403 = t400 then (some true) else (some false))))) = some r := H
  have A7 := Aside0.mk A70
  clear A70
  replace H := Option.bind_eq_some_iff.mp H
  obtain ⟨t400, A80, H⟩ := H
  replace H : ((laws_toSigns.f a0_0 a0_1).bind fun bt401 => ((impl_CrossingSum.f k bt401.1 bt401.2).bind fun t403 => (if t403 = t400 then (some true) else (some false)))) = some r := H
  have A8 := Aside0.mk A80
  clear A80
  replace H := Option.bind_eq_some_iff.mp H
  obtain ⟨⟨t401, t402⟩, A90, H⟩ := H
  replace H : ((impl_CrossingSum.f k t401 t402).bind fun t403 => (if t403 = t400 then (some true) else (some false))) = some r := H
  have A9 := Aside0.mk A90
  clear A90
  replace H := Option.bind_eq_some_iff.mp H
  obtain ⟨t403, A100, H⟩ := H
  replace H : (if t403 = t400 then (some true) else (some false)) = some r := H
  have A10 := Aside0.mk A100
  clear A100
  by_cases c11 : t403 = t400
  ·rw [if_pos c11] at H
   have c11b0 : (t403 == t400) = true := beq_iff_eq.mpr c11
   have c11b1 : (t403 != t400) = false := bne_eq_false_iff_eq.mpr c11
   clear c11
   obtain rfl := Option.some.inj H
   go_enter Try.func6, Try.ntmps6
   go_wp2_with (first | ((with_reducible refine gate_dst (N := 1) rfl ?_); refine box_event ?hg (N := 1) ?hd (cs := #[.int .i64 a0_0, .string a0_1]) (t := 23) ?hr ?_; (case hd => rfl); (case hg => rfl); (case hr => first | (go_simp; done) | (go_simp; rfl)); intro gb396 hg w12 hbox hb; have BK396 := Aside0.mk (hbox); have GW396 := Aside0.mk ((by rw [hg]; exact (below_size zB) : w.heap.size ≤ gb396)); have GE396 := Aside0.mk ((by rw [hg]; exact (below_size zB) : w.heap.size ≤ gb396)); replace HB := Aside0.mk (below_step zB hb); clear hb hbox hg; have hcz13_0 : w12.cell? ⟨gb396, 0, none⟩ = some (.int .i64 a0_0) := (blk_cell BK396.out 0).trans rfl; have hcz13_1 : w12.cell? ⟨gb396, 1, none⟩ = some (.string a0_1) := (blk_cell BK396.out 1).trans rfl; have hfz13_0 := blk_frozen BK396.out 0; have hfz13_1 := blk_frozen BK396.out 1) | ((with_reducible refine gate_callee (f := 12) rfl ?_); refine goesL_ (some 8) rfl rfl Try.func12 (by kernel_rfl) rfl #[.agg #[.int .i64 a0_0, .string a0_1], .int .i64 1048576] rfl zM ?_; (with_reducible refine (laws_szSigns.calls a0_0 a0_1 1048576 t397 _ A2.out).mono ?_); rintro e w14 ⟨rfl, hb⟩; refine ⟨_, rfl, ?_⟩; replace BK396 := Aside0.mk (blk_below (g := gb396) (o := .cells #[.int .i64 a0_0, .string a0_1] 23 (0, 0)) (zK BK396.out) hb); replace HB := Aside0.mk (below_step (zG GE396.out) hb); (try clear hb); have hcz15_0 : w14.cell? ⟨gb396, 0, none⟩ = some (.int .i64 a0_0) := (blk_cell BK396.out 0).trans rfl; have hcz15_1 : w14.cell? ⟨gb396, 1, none⟩ = some (.string a0_1) := (blk_cell BK396.out 1).trans rfl; have hfz15_0 := blk_frozen BK396.out 0; have hfz15_1 := blk_frozen BK396.out 1) | ((with_reducible refine gate_callee (f := 14) rfl ?_); refine goesL_ (some 12) rfl rfl Try.func14 (by kernel_rfl) rfl #[.agg #[.int .i64 a0_0, .string a0_1]] rfl zM ?_; (with_reducible refine (laws_toSigns.calls a0_0 a0_1 t398 t399 _ A7.out).mono ?_); rintro e w16 ⟨rfl, hb⟩; refine ⟨_, rfl, ?_⟩; replace BK396 := Aside0.mk (blk_below (g := gb396) (o := .cells #[.int .i64 a0_0, .string a0_1] 23 (0, 0)) (zK BK396.out) hb); replace HB := Aside0.mk (below_step (zG GE396.out) hb); (try clear hb)) | ((with_reducible refine gate_callee (f := 26) rfl ?_); refine goesL_ (some 13) rfl rfl Try.func26 (by kernel_rfl) rfl #[.agg #[.int .i64 t398, .string t399]] rfl zM ?_; (with_reducible refine (spec_CrossingSum.calls k t398 t399 t400 _ A8.out).mono ?_); rintro e w17 ⟨rfl, hb⟩; refine ⟨_, rfl, ?_⟩; replace BK396 := Aside0.mk (blk_below (g := gb396) (o := .cells #[.int .i64 a0_0, .string a0_1] 23 (0, 0)) (zK BK396.out) hb); replace HB := Aside0.mk (below_step (zG GE396.out) hb); (try clear hb); have hcz18_0 : w17.cell? ⟨gb396, 0, none⟩ = some (.int .i64 a0_0) := (blk_cell BK396.out 0).trans rfl; have hcz18_1 : w17.cell? ⟨gb396, 1, none⟩ = some (.string a0_1) := (blk_cell BK396.out 1).trans rfl; have hfz18_0 := blk_frozen BK396.out 0; have hfz18_1 := blk_frozen BK396.out 1) | ((with_reducible refine gate_callee (f := 14) rfl ?_); refine goesL_ (some 15) rfl rfl Try.func14 (by kernel_rfl) rfl #[.agg #[.int .i64 a0_0, .string a0_1]] rfl zM ?_; (with_reducible refine (laws_toSigns.calls a0_0 a0_1 t401 t402 _ A9.out).mono ?_); rintro e w19 ⟨rfl, hb⟩; refine ⟨_, rfl, ?_⟩; replace BK396 := Aside0.mk (blk_below (g := gb396) (o := .cells #[.int .i64 a0_0, .string a0_1] 23 (0, 0)) (zK BK396.out) hb); replace HB := Aside0.mk (below_step (zG GE396.out) hb); (try clear hb)) | ((with_reducible refine gate_callee (f := 27) rfl ?_); refine goesL_ (some 16) rfl rfl Try.func27 (by kernel_rfl) rfl #[.agg #[.int .i64 t401, .string t402]] rfl zM ?_; (with_reducible refine (impl_CrossingSum.calls k t401 t402 t403 _ A10.out).mono ?_); rintro e w20 ⟨rfl, hb⟩; refine ⟨_, rfl, ?_⟩; replace BK396 := Aside0.mk (blk_below (g := gb396) (o := .cells #[.int .i64 a0_0, .string a0_1] 23 (0, 0)) (zK BK396.out) hb); replace HB := Aside0.mk (below_step (zG GE396.out) hb); (try clear hb)))
   go_ret
   exact ⟨zE, zG GE396.out⟩
  ·rw [if_neg c11] at H
   have c11b0 : (t403 == t400) = false := beq_eq_false_iff_ne.mpr c11
   have c11b1 : (t403 != t400) = true := bne_iff_ne.mpr c11
   obtain rfl := Option.some.inj H
   cases hr_
end Go.Proofs.Ytbjncemaeagjjaa.PX
namespace Go.Proofs.Ytbjncemaeagjjaa.M
open Go.RowKit Go.Proofs.YtbjncemaeagjjaaW.PrintWords Go.Proofs.Ytbjncemaeagjjaa.PX Go.Proofs.Ytbjncemaeagjjaa.G Go.Proofs.YtbjncemaeagjjaaW.PrintMore
def crossF (n : Nat) (t : ByteArray) (s : Int) (q : Nat × Nat) : Int := wrap64 (s + wrap64 ((leftV n t q.1 q.2 : Int) * (leftV n t q.2 q.1 : Int)))
/-- What CrossingSum answers. -/
def crossA (n : Int) (t : ByteArray) : Int := if acyOk n t = true then (pairsL n.toNat).foldl (crossF n.toNat t) 0 else 0
theorem impl_cross (n : Int) (t : ByteArray) (hs : t.size ≤ 9223372036854775807) : Ev (fun k => impl_CrossingSum.f k n t) (crossA n t) := by
  unfold impl_CrossingSum.f crossA
  refine Ev.bind (order_ev n t hs) ?_
  by_cases h : acyOk n t = true
  · rw [if_pos h, if_pos h]
    obtain ⟨N, rfl, ha, h3, h7⟩ := acy_are h
    refine ev_pos (by first | rfl | trivial) ?_
    have key := loops2 (n := N) (ρ := Int) (K := fun s _ => some s) (L0 := fun a s k => impl_CrossingSum.l0 k (tblL N t) s a (N : Int) t) (L1 := fun a b s k => impl_CrossingSum.l1 k (tblL N t) s a b (N : Int) t)
      (fun s q => .ok (crossF N t s q)) (fun s => ?_) (fun a hn s => ?_) (fun a hn s => ?_) (fun a b hab hb s => ?_) (0 : Int)
    · rw [foldlM_ok] at key
      exact key _ (Ev.now _)
    · refine Goes.step ?_
      simp only [impl_CrossingSum.l0]
      exact Goes.neg (by omega) (Goes.ok (K := fun s _ => some s) s)
    · refine Goes.step ?_
      simp only [impl_CrossingSum.l0]
      rw [wrap_id (x := (a : Int) + 1) (by omega) (by omega)]
      exact Goes.pos (by omega) (Goes.ok (K := fun s k => impl_CrossingSum.l1 k (tblL N t) s (a : Int) ((a + 1 : Nat) : Int) (N : Int) t) s)
    · refine Goes.step ?_
      simp only [impl_CrossingSum.l1]
      rw [wrap_id (x := (a : Int) + 1) (by omega) (by omega)]
      exact Goes.neg (by omega) (Goes.ok (K := fun s k => impl_CrossingSum.l0 k (tblL N t) s ((a + 1 : Nat) : Int) (N : Int) t) s)
    · refine Goes.step ?_
      simp only [impl_CrossingSum.l1]
      rw [wrap_id (x := (b : Int) + 1) (by omega) (by omega)]
      refine Goes.pos (by omega) (Goes.pos (tblL_length _ _) (Goes.ev (impl_left ha (by omega) (by omega)) (Goes.ev (impl_left ha (by omega) (by omega)) ?_)))
      exact Goes.ok (K := fun s k => impl_CrossingSum.l1 k (tblL N t) s (a : Int) ((b + 1 : Nat) : Int) (N : Int) t) (crossF N t s (a, b))
  · rw [if_neg h, if_neg h]
    exact ev_neg (by decide) (Ev.now _)
theorem spec_cross (n : Int) (t : ByteArray) (hs : t.size ≤ 9223372036854775807) : Ev (fun k => spec_CrossingSum.f k n t) (crossA n t) := by
  unfold spec_CrossingSum.f crossA
  refine Ev.bind (spec_isA n t hs) ?_
  by_cases h : acyOk n t = true
  · rw [if_pos h]
    obtain ⟨N, rfl, ha, h3, h7⟩ := acy_are h
    refine ev_pos h ?_
    have key := loops2 (n := N) (ρ := Int) (K := fun s _ => some s) (L0 := fun a s k => spec_CrossingSum.l0 k s a (N : Int) t) (L1 := fun a b s k => spec_CrossingSum.l1 k s a b (N : Int) t)
      (fun s q => .ok (crossF N t s q)) (fun s => ?_) (fun a hn s => ?_) (fun a hn s => ?_) (fun a b hab hb s => ?_) (0 : Int)
    · rw [foldlM_ok] at key
      exact key _ (Ev.now _)
    · refine Goes.step ?_
      simp only [spec_CrossingSum.l0]
      exact Goes.neg (by omega) (Goes.ok (K := fun s _ => some s) s)
    · refine Goes.step ?_
      simp only [spec_CrossingSum.l0]
      rw [wrap_id (x := (a : Int) + 1) (by omega) (by omega)]
      exact Goes.pos (by omega) (Goes.ok (K := fun s k => spec_CrossingSum.l1 k s (a : Int) ((a + 1 : Nat) : Int) (N : Int) t) s)
    · refine Goes.step ?_
      simp only [spec_CrossingSum.l1]
      rw [wrap_id (x := (a : Int) + 1) (by omega) (by omega)]
      exact Goes.neg (by omega) (Goes.ok (K := fun s k => spec_CrossingSum.l0 k s ((a + 1 : Nat) : Int) (N : Int) t) s)
    · refine Goes.step ?_
      simp only [spec_CrossingSum.l1]
      rw [wrap_id (x := (b : Int) + 1) (by omega) (by omega)]
      refine Goes.pos (by omega) (Goes.ev (spec_left ha (by omega) (by omega) (by omega)) (Goes.ev (spec_left ha (by omega) (by omega) (by omega)) ?_))
      exact Goes.ok (K := fun s k => spec_CrossingSum.l1 k s (a : Int) ((b + 1 : Nat) : Int) (N : Int) t) (crossF N t s (a, b))
  · rw [if_neg h]
    exact ev_neg h (Ev.now _)
end Go.Proofs.Ytbjncemaeagjjaa.M
namespace Go.Proofs.Ytbjncemaeagjjaa.Pure
open Go.RowKit Go.Proofs.YtbjncemaeagjjaaW.PrintWords Go.Proofs.Ytbjncemaeagjjaa.PX Go.Proofs.Ytbjncemaeagjjaa.M
theorem FnExactCrossingSum (n : Int) (t : ByteArray) (_ : (Lit.int .i64 n).wf = true) (hs : t.size ≤ 9223372036854775807) :
    ∃ k, laws_FnExactCrossingSum.f k n t = some true := by
  refine Ev.rounds (r := true) ?_
  unfold laws_FnExactCrossingSum.f
  obtain ⟨r, hr⟩ := sz_signs n t
  refine ev_call hr ?_
  by_cases h : r < 0
  · exact ev_pos h (Ev.now _)
  · exact ev_neg h (ev_call (a := (n, t)) rfl (Ev.bind (spec_cross n t hs) (ev_call (a := (n, t)) rfl (Ev.bind (impl_cross n t hs) (ev_pos rfl (Ev.now _))))))
end Go.Proofs.Ytbjncemaeagjjaa.Pure
namespace Go.Proofs.Ytbjncemaeagjjaa.fnExactCrossingSum
open Go.ChangeShapes Go.WideShapes Go.ChangeAt Go.RowKit Go.Joins
open Go.ChangeMaps (open_string shut_string)
set_option linter.unusedVariables false
theorem own : ownKnob Try.prog.godebug = none := by kernel_rfl
theorem str_mk {H : Type} {enc : TypeId × Value → H} {P : Program} {w : World} {base : Nat} {spare : Nat → Bool} {held : Bool} {t : TypeId} {s : ByteArray} (ht : P.underlying t = some .string) (hs : s.size ≤ maxLen) : DataW.trod enc P w base spare held 1 t [.string s] = some (.lit (.string s.data.toList), []) := by
  simp [DataW.trod, ht, hs]
set_option maxRecDepth 100000 in
theorem lifted (os : Os) (started : os.Started) (H : Type) (enc : TypeId × Value → H) :
    ReturnsInHanded {} Try.checked os 6 .any (Rows.fnExactCrossingSumSpec.pre6 enc Try.prog Try.f6 Rows.fnExactCrossingSumRow.domain false) (Rows.fnExactCrossingSumSpec.post enc Try.prog Try.f6 false true false false) := by
  refine returnsInHanded_of_change_sized (C := Try.checked) own started (by kernel_rfl) Try.func6
    (ChangeSpec.witness6 (enc := enc) (C := Try.checked) false ⟨#[], #[.agg #[.int .i64 0, .string ByteArray.empty]], []⟩ 8 (by kernel_rfl) (by kernel_rfl) (by kernel_rfl) (by kernel_rfl)) ?_
  intro W base args ds gs before hval0 hW hcnd hsz0 _
  have hsz : (DataW.weightsEach Try.prog (Try.f6.params.toList ++ Rows.fnExactCrossingSumSpec.plain.varTypes Try.prog) (ds ++ gs)).all (· ≤ reachBytes) = true := hsz0
  have hval : ∀ (j : Nat) t v, Try.f6.params[j]? = some t → args[j]? = some v → Value.okWide Try.prog W .any base t v := hval0
  have hW' := hW
  obtain ⟨p, q, hA0, hV, rfl, hfz, hnd⟩ := hW
  have hA : DataW.TrodAll enc Try.prog W 0 (fun _ => true) true Try.f6.params.toList args.toList ds p := hA0
  rw [Try.params6] at hA hval hsz
  obtain ⟨v0, vs0, d0, ds0, p0, q0, hargs, rfl, rfl, h0, r0⟩ := trodAll_cons hA
  obtain ⟨rfl, rfl, rfl⟩ := trodAll_nil r0
  obtain rfl : args = #[v0] := by cases args; simp_all
  obtain ⟨rfl, rfl⟩ := trodVars_none hV
  obtain ⟨c0_0, c0_1, y0_0, y0_1, m0, rfl, rfl, rfl, hy0_0, hy0_1⟩ := open_agg2 Try.underlying23 (by kernel_rfl) (by kernel_rfl) (hval 0 23 v0 rfl rfl) h0
  obtain ⟨a0_0, e0_0, rfl, wa0⟩ := DataW.trod_int Try.underlying3 hy0_0
  obtain ⟨a0_1, e0_1, rfl, ws0⟩ := DataW.trod_string Try.underlying9 hy0_1
  simp only [List.cons.injEq, and_true] at e0_0 e0_1
  subst e0_0 e0_1
  clear hA0 hval0 hsz0 hsz
  obtain ⟨k, hP⟩ := Pure.FnExactCrossingSum a0_0 a0_1 wa0 ws0
  refine (PX.laws_FnExactCrossingSum.calls k a0_0 a0_1 true W hP rfl).mono fun e W' ⟨he, bel⟩ => ?_
  subst he
  exact ⟨_, rfl, _, _, _, [], _, [], hW', trodAll_mk1 (shut_bool Try.underlying4 _), (trodAll_cons_mk (shut_agg2 Try.underlying23 (by kernel_rfl) (by kernel_rfl) ⟨_, trod_int_mk 0 Try.underlying3 wa0⟩ ⟨_, str_mk Try.underlying9 ws0⟩) trodAll_mk0), rfl, bel.frame _, fun h => by cases h⟩
theorem over : Rows.fnExactCrossingSumRow.holds Try.pinned (OpenSpec.ofChange Rows.fnExactCrossingSumSpec) :=
  OpenClaim.holds_of_wide 6 Try.f6 rfl rfl rfl rfl rfl rfl rfl ⟨rfl, rfl, rfl, rfl, rfl⟩ rfl rfl rfl rfl rfl (by kernel_rfl) Try.func6 (by kernel_rfl)
    (of_decide_eq_true (by kernel_rfl)) (by unfold Func.isWrapper; first | (rw [if_pos (by decide +kernel)]; kernel_rfl) | (rw [if_neg (by decide +kernel)]; exact ⟨rfl, rfl⟩))
    (fun os started H enc _ => lifted os started H enc)
theorem proved : Rows.FnExactCrossingSumSaid := over
#print axioms proved
end Go.Proofs.Ytbjncemaeagjjaa.fnExactCrossingSum
namespace Go.Proofs.Ytbjncemaeagjjaa
/-- The row, under a short name, for the claim. -/
theorem fnExactCrossingSum_holds : Rows.FnExactCrossingSumSaid := fnExactCrossingSum.proved
end Go.Proofs.Ytbjncemaeagjjaa
