/- FnExactIsConvex returns true for all arguments and leaves them as they were. No condition. -/
import Derived.Test.YtgnghhelalablaaProg
import Derived.Test.YtgnghhelalablaaRows
import Derived.WalkKit
import Derived.ProofKit
import Derived.OpenShut
import Derived.ShutString
import Derived.ChangeOld
import Derived.Below
import Derived.SizedLaws
import Derived.Lib.SmallJoins
import Derived.ChangeSame
import Derived.Test.YtgnghhelalablaaV1
import Derived.Test.YtgnghhelalablaaBbxvvbi1
import Derived.Test.YtgnghhelalablaaBbxvvbi2
import Derived.Test.YtgnghhelalablaaBdjgadd1
import Derived.Test.YtgnghhelalablaaBbxvvbi4
set_option linter.unusedVariables false
set_option linter.unusedSimpArgs false
namespace Go.Proofs.Ytgnghhelalablaa.PX
open Go.RowKit Go.Proofs.Ytgnghhelalablaa.G Go.Proofs.YtgnghhelalablaaW.PrintWords Go.Proofs.YtgnghhelalablaaW.PrintLast Go.Proofs.YtgnghhelalablaaW.PrintMore
attribute [local go_sem] max2_int min2_int max_two min_two max_three min_three max_four min_four   -- for this text's walks alone
set_option linter.unusedVariables false
set_option linter.unusedSimpArgs false
/-! ### spec_IsConvex: function 40 -/
def spec_IsConvex.f (k : Nat) (a0_0 : Int) (a0_1 : ByteArray) : Option (Bool) := (spec_IsAcyclic.f k a0_0 a0_1).bind fun t577 => (if t577 = true then ((spec_HullSize.f k a0_0 a0_1).bind fun t578 => (some (t578 == a0_0))) else (some false))
theorem spec_IsConvex.mono : ∀ a0 a1 k, LeO (spec_IsConvex.f k a0 a1) (spec_IsConvex.f (k + 1) a0 a1) := by
 intro a0 a1 k
 unfold spec_IsConvex.f
 repeat' first
   | (with_reducible exact spec_HullSize.mono _ _ _)
   | (with_reducible exact spec_IsAcyclic.mono _ _ _)
   | (with_reducible exact LeO.refl _)
   | (with_reducible exact LeO.none _)
   | (with_reducible refine LeO.ite ?_ ?_)
   | (with_reducible refine LeO.bind ?_ (fun _ => ?_))
   | exact spec_HullSize.mono _ _ _
   | exact spec_IsAcyclic.mono _ _ _
   | exact LeO.none _
   | refine LeO.ite ?_ ?_
   | refine LeO.bind ?_ (fun _ => ?_)
def spec_IsConvex.T1 : Bool × List (List Nat × List Nat) := (true, [([], []), ([0], [0]), ([1, 1], [1]), ([2], [2]), ([3, 2, 2], [2, 3]), ([2], [2]), ([5, 2], [2, 5]), ([4, 6, 2], [2, 4, 6]), ([2, 7], [2, 7]), ([8, 4, 0, 1, 2, 3, 4, 5, 6, 7, 8], [8])])
def spec_IsConvex.B1 : List Nat := [0, 1, 3, 7, 15, 7, 39, 127, 255, 511]
theorem spec_IsConvex.tab1 : rtab .any (opsOf Try.f40 1) = spec_IsConvex.T1 := by kernel_rfl
theorem spec_IsConvex.bits1 : waitsOk spec_IsConvex.T1.2 spec_IsConvex.B1 = true := by kernel_rfl
set_option maxHeartbeats 8000000 in
set_option maxRecDepth 100000 in
theorem spec_IsConvex.calls (k : Nat) (a0_0 : Int) (a0_1 : ByteArray) (r : Bool) (w : World) (h : spec_IsConvex.f k a0_0 a0_1 = some r) :
  Calls Try.prog 40 #[.agg #[.int .i64 a0_0, .string a0_1]] w fun e w' => e = .returned (.bool r) ∧ Below w.heap.size w w' := by
 have hu27 := Try.underlying27
 have HB := Aside0.mk (Below.refl w.heap.size w)
 have H : ((spec_IsAcyclic.f k a0_0 a0_1).bind fun t577 => (if t577 = true then ((spec_HullSize.f k a0_0 a0_1).bind fun t578 => (some (t578 == a0_0))) else (some false))) = some r := h
 clear h
 replace H := Option.bind_eq_some_iff.mp H
 obtain ⟨t577, A20, H⟩ := H
 replace H : (if t577 = true then ((spec_HullSize.f k a0_0 a0_1).bind fun t578 => (some (t578 == a0_0))) else (some false)) = some r := H
 have A2 := Aside0.mk A20
 clear A20
 by_cases c3 : t577 = true
 ·subst c3
  have H1 : ((spec_HullSize.f k a0_0 a0_1).bind fun t578 => (some (t578 == a0_0))) = some r := by rw [if_pos rfl] at H; exact H
  clear H
  have H := H1
  clear H1
  replace H := Option.bind_eq_some_iff.mp H
  obtain ⟨t578, A40, H⟩ := H
  replace H : (some (t578 == a0_0)) = some r := H
  have A4 := Aside0.mk A40
  clear A40
  obtain rfl := Option.some.inj H
  go_enter Try.func40, Try.ntmps40
  try go_wp2_with (first | ((with_reducible refine gate_dst (N := 1) rfl ?_); refine box_event ?hg (N := 1) ?hd (cs := #[.int .i64 a0_0, .string a0_1]) (t := 27) ?hr ?_; (case hd => rfl); (case hg => rfl); (case hr => first | (go_simp; done) | (go_simp; rfl)); intro gb576 hg w5 hbox hb; have BK576 := Aside0.mk (hbox); have GW576 := Aside0.mk ((by rw [hg]; exact (below_size zB) : w.heap.size ≤ gb576)); have GE576 := Aside0.mk ((by rw [hg]; exact (below_size zB) : w.heap.size ≤ gb576)); replace HB := Aside0.mk (below_step zB hb); clear hb hbox hg))
  have n0_ := Aside0.mk (blk_drew BK576.out)
  have n1_ := Aside0.mk (below_drew1 HB.out)
  clear BK576
  clear HB
  have BK576 := n0_
  have HB := n1_
  clear n0_ n1_
  refine start_ (n := 10) (S := fun w' => w'.cell? ⟨gb576, 0, none⟩ = some (.int .i64 a0_0) ∧ w'.cell? ⟨gb576, 1, none⟩ = some (.string a0_1)) (ds := []) #[false, false, false, false, false, false, false, false, false, false] (by kernel_rfl) rfl rfl ⟨(blk_cell BK576.out 0).trans rfl, (blk_cell BK576.out 1).trans rfl⟩ (fun hHeld => ?_); refine with_tabW spec_IsConvex.tab1 spec_IsConvex.bits1 (fun HT_ HW_ => ?_)
  generalize w5.drew = w6 at BK576 HB hHeld ⊢
  refine take_ (i := 0) (N := some 3) (v := ?_) (a' := ?_) #[true, false, false, false, false, false, false, false, false, false] rfl rfl (take_ofW HT_.out HW_.out (by kernel_rfl)) (fun _ _ _ h => h) (Or.inl ⟨by rfl, ?_⟩) hHeld ?_ ?_
  rotate_left
  ·rintro w' ⟨s0, s1⟩
   go_simp
   with_reducible rfl
  rotate_left
  ·simp only [Act.put, List.setIfInBounds_toArray, List.set_cons_zero, List.set_cons_succ, i64_w, i32_w]
   rfl
  refine one_ (i := 1) (N := some 4) #[true, true, false, false, false, false, false, false, false, false] rfl rfl (one_of HT_.out (by kernel_rfl)) (by decide) (fun K hK => ?_)
  refine goes_ Try.func44 (by kernel_rfl) rfl #[.agg #[.int .i64 a0_0, .string a0_1]] (by rfl) rfl rfl zM ?_
  with_reducible refine (spec_IsAcyclic.calls k a0_0 a0_1 true _ A2.out).mono ?_
  rintro e w7 ⟨rfl, hb⟩
  refine ⟨_, rfl, ?_⟩
  have n0_ := Aside0.mk (blk_below (g := gb576) (o := .cells #[.int .i64 a0_0, .string a0_1] 27 (0, 0)) (zK BK576.out) hb)
  have n1_ := Aside0.mk (below_step (zG GE576.out) hb)
  clear BK576
  clear HB
  have BK576 := n0_
  have HB := n1_
  clear n0_ n1_
  (try clear hb)
  (try clear hb2)
  (try clear hk)
  (try clear hi)
  refine hK.out _ _ ⟨(blk_cell BK576.out 0).trans rfl, (blk_cell BK576.out 1).trans rfl⟩ (fun hHeld => ?_)
  clear hK K
  refine norm_ (a' := ?_) ?_ ?_
  rotate_left
  ·show Act.put _ (some 4) _ = _
   simp only [Act.put, List.setIfInBounds_toArray, List.set_cons_zero, List.set_cons_succ, i64_w, i32_w]
   rfl
  refine zP 2 (some 5) rfl rfl ?_
  refine zP 5 (some 8) rfl rfl ?_
  refine take_ (i := 3) (N := some 6) (v := ?_) (a' := ?_) #[true, true, true, true, false, true, false, false, false, false] rfl rfl (take_ofW HT_.out HW_.out (by kernel_rfl)) (fun _ _ _ h => h) (Or.inl ⟨by rfl, ?_⟩) hHeld ?_ ?_
  rotate_left
  ·rintro w' ⟨s0, s1⟩
   go_simp
   with_reducible rfl
  rotate_left
  ·simp only [Act.put, List.setIfInBounds_toArray, List.set_cons_zero, List.set_cons_succ, i64_w, i32_w]
   rfl
  refine take_ (i := 6) (N := some 9) (v := ?_) (a' := ?_) #[true, true, true, true, false, true, true, false, false, false] rfl rfl (take_ofW HT_.out HW_.out (by kernel_rfl)) (fun _ _ _ h => h) (Or.inl ⟨by rfl, ?_⟩) hHeld ?_ ?_
  rotate_left
  ·rintro w' ⟨s0, s1⟩
   go_simp
   with_reducible rfl
  rotate_left
  ·simp only [Act.put, List.setIfInBounds_toArray, List.set_cons_zero, List.set_cons_succ, i64_w, i32_w]
   rfl
  refine one_ (i := 4) (N := some 7) #[true, true, true, true, true, true, true, false, false, false] rfl rfl (one_of HT_.out (by kernel_rfl)) (by decide) (fun K hK => ?_)
  refine goes_ Try.func38 (by kernel_rfl) rfl #[.agg #[.int .i64 a0_0, .string a0_1]] (by rfl) rfl rfl zM ?_
  with_reducible refine (spec_HullSize.calls k a0_0 a0_1 t578 _ A4.out).mono ?_
  rintro e w8 ⟨rfl, hb⟩
  refine ⟨_, rfl, ?_⟩
  have n0_ := Aside0.mk (blk_below (g := gb576) (o := .cells #[.int .i64 a0_0, .string a0_1] 27 (0, 0)) (zK BK576.out) hb)
  have n1_ := Aside0.mk (below_step (zG GE576.out) hb)
  clear BK576
  clear HB
  have BK576 := n0_
  have HB := n1_
  clear n0_ n1_
  (try clear hb)
  (try clear hb2)
  (try clear hk)
  (try clear hi)
  refine hK.out _ _ ⟨(blk_cell BK576.out 0).trans rfl, (blk_cell BK576.out 1).trans rfl⟩ (fun hHeld => ?_)
  clear hK K
  refine norm_ (a' := ?_) ?_ ?_
  rotate_left
  ·show Act.put _ (some 7) _ = _
   simp only [Act.put, List.setIfInBounds_toArray, List.set_cons_zero, List.set_cons_succ, i64_w, i32_w]
   rfl
  refine zP 7 (some 10) rfl rfl ?_
  refine zP 8 (some 11) rfl rfl ?_
  refine zP 9 (some 2) rfl rfl ?_
  refine done_ (done_of HT_.out (by kernel_rfl)) ?_
  try go_wp2
  go_ret
  exact ⟨zE, zG GE576.out⟩
 ·replace c3 := Bool.eq_false_iff.mpr c3
  subst c3
  have H1 : (some false) = some r := by rw [if_neg (show ¬ (false = true) by decide)] at H; exact H
  clear H
  have H := H1
  clear H1
  obtain rfl := Option.some.inj H
  go_enter Try.func40, Try.ntmps40
  try go_wp2_with (first | ((with_reducible refine gate_dst (N := 1) rfl ?_); refine box_event ?hg (N := 1) ?hd (cs := #[.int .i64 a0_0, .string a0_1]) (t := 27) ?hr ?_; (case hd => rfl); (case hg => rfl); (case hr => first | (go_simp; done) | (go_simp; rfl)); intro gb576 hg w9 hbox hb; have BK576 := Aside0.mk (hbox); have GW576 := Aside0.mk ((by rw [hg]; exact (below_size zB) : w.heap.size ≤ gb576)); have GE576 := Aside0.mk ((by rw [hg]; exact (below_size zB) : w.heap.size ≤ gb576)); replace HB := Aside0.mk (below_step zB hb); clear hb hbox hg))
  have n0_ := Aside0.mk (blk_drew BK576.out)
  have n1_ := Aside0.mk (below_drew1 HB.out)
  clear BK576
  clear HB
  have BK576 := n0_
  have HB := n1_
  clear n0_ n1_
  refine start_ (n := 10) (S := fun w' => w'.cell? ⟨gb576, 0, none⟩ = some (.int .i64 a0_0) ∧ w'.cell? ⟨gb576, 1, none⟩ = some (.string a0_1)) (ds := []) #[false, false, false, false, false, false, false, false, false, false] (by kernel_rfl) rfl rfl ⟨(blk_cell BK576.out 0).trans rfl, (blk_cell BK576.out 1).trans rfl⟩ (fun hHeld => ?_); refine with_tabW spec_IsConvex.tab1 spec_IsConvex.bits1 (fun HT_ HW_ => ?_)
  generalize w9.drew = w10 at BK576 HB hHeld ⊢
  refine take_ (i := 0) (N := some 3) (v := ?_) (a' := ?_) #[true, false, false, false, false, false, false, false, false, false] rfl rfl (take_ofW HT_.out HW_.out (by kernel_rfl)) (fun _ _ _ h => h) (Or.inl ⟨by rfl, ?_⟩) hHeld ?_ ?_
  rotate_left
  ·rintro w' ⟨s0, s1⟩
   go_simp
   with_reducible rfl
  rotate_left
  ·simp only [Act.put, List.setIfInBounds_toArray, List.set_cons_zero, List.set_cons_succ, i64_w, i32_w]
   rfl
  refine one_ (i := 1) (N := some 4) #[true, true, false, false, false, false, false, false, false, false] rfl rfl (one_of HT_.out (by kernel_rfl)) (by decide) (fun K hK => ?_)
  refine goes_ Try.func44 (by kernel_rfl) rfl #[.agg #[.int .i64 a0_0, .string a0_1]] (by rfl) rfl rfl zM ?_
  with_reducible refine (spec_IsAcyclic.calls k a0_0 a0_1 false _ A2.out).mono ?_
  rintro e w11 ⟨rfl, hb⟩
  refine ⟨_, rfl, ?_⟩
  have n0_ := Aside0.mk (blk_below (g := gb576) (o := .cells #[.int .i64 a0_0, .string a0_1] 27 (0, 0)) (zK BK576.out) hb)
  have n1_ := Aside0.mk (below_step (zG GE576.out) hb)
  clear BK576
  clear HB
  have BK576 := n0_
  have HB := n1_
  clear n0_ n1_
  (try clear hb)
  (try clear hb2)
  (try clear hk)
  (try clear hi)
  refine hK.out _ _ ⟨(blk_cell BK576.out 0).trans rfl, (blk_cell BK576.out 1).trans rfl⟩ (fun hHeld => ?_)
  clear hK K
  refine norm_ (a' := ?_) ?_ ?_
  rotate_left
  ·show Act.put _ (some 4) _ = _
   simp only [Act.put, List.setIfInBounds_toArray, List.set_cons_zero, List.set_cons_succ, i64_w, i32_w]
   rfl
  refine zP 2 (some 5) rfl rfl ?_
  refine pure_ (i := 3) (N := some 6) (v := undef) (a' := ?_) #[true, true, true, true, false, false, false, false, false, false] rfl rfl (any_of HT_.out (by kernel_rfl)) (fun _ _ _ h => h) (Or.inr ⟨by rfl, rfl⟩) ?_ ?_
  rotate_left
  ·simp only [Act.put, List.setIfInBounds_toArray, List.set_cons_zero, List.set_cons_succ, i64_w, i32_w]
   rfl
  refine pure_ (i := 4) (N := some 7) (v := undef) (a' := ?_) #[true, true, true, true, true, false, false, false, false, false] rfl rfl (any_of HT_.out (by kernel_rfl)) (fun _ _ _ h => h) (Or.inr ⟨by rfl, rfl⟩) ?_ ?_
  rotate_left
  ·simp only [Act.put, List.setIfInBounds_toArray, List.set_cons_zero, List.set_cons_succ, i64_w, i32_w]
   rfl
  refine pure_ (i := 5) (N := some 8) (v := undef) (a' := ?_) #[true, true, true, true, true, true, false, false, false, false] rfl rfl (any_of HT_.out (by kernel_rfl)) (fun _ _ _ h => h) (Or.inr ⟨by rfl, rfl⟩) ?_ ?_
  rotate_left
  ·simp only [Act.put, List.setIfInBounds_toArray, List.set_cons_zero, List.set_cons_succ, i64_w, i32_w]
   rfl
  refine pure_ (i := 6) (N := some 9) (v := undef) (a' := ?_) #[true, true, true, true, true, true, true, false, false, false] rfl rfl (any_of HT_.out (by kernel_rfl)) (fun _ _ _ h => h) (Or.inr ⟨by rfl, rfl⟩) ?_ ?_
  rotate_left
  ·simp only [Act.put, List.setIfInBounds_toArray, List.set_cons_zero, List.set_cons_succ, i64_w, i32_w]
   rfl
  refine pure_ (i := 7) (N := some 10) (v := undef) (a' := ?_) #[true, true, true, true, true, true, true, true, false, false] rfl rfl (any_of HT_.out (by kernel_rfl)) (fun _ _ _ h => h) (Or.inr ⟨by rfl, rfl⟩) ?_ ?_
  rotate_left
  ·simp only [Act.put, List.setIfInBounds_toArray, List.set_cons_zero, List.set_cons_succ, i64_w, i32_w]
   rfl
  refine zP 8 (some 11) rfl rfl ?_
  refine zP 9 (some 2) rfl rfl ?_
  refine done_ (done_of HT_.out (by kernel_rfl)) ?_
  try go_wp2
  go_ret
  exact ⟨zE, zG GE576.out⟩
/-! ### impl_IsConvex: function 41 -/
def impl_IsConvex.f (k : Nat) (a0_0 : Int) (a0_1 : ByteArray) : Option (Bool) := (impl_HullSize.f k a0_0 a0_1).bind fun t580 => (if t580 = a0_0 then (some (decide (a0_0 > 0))) else (some false))
theorem impl_IsConvex.mono : ∀ a0 a1 k, LeO (impl_IsConvex.f k a0 a1) (impl_IsConvex.f (k + 1) a0 a1) := by
 intro a0 a1 k
 unfold impl_IsConvex.f
 repeat' first
   | (with_reducible exact impl_HullSize.mono _ _ _)
   | (with_reducible exact LeO.refl _)
   | (with_reducible exact LeO.none _)
   | (with_reducible refine LeO.ite ?_ ?_)
   | (with_reducible refine LeO.bind ?_ (fun _ => ?_))
   | exact impl_HullSize.mono _ _ _
   | exact LeO.none _
   | refine LeO.ite ?_ ?_
   | refine LeO.bind ?_ (fun _ => ?_)
def impl_IsConvex.T1 : Bool × List (List Nat × List Nat) := (true, [([], []), ([0], [0]), ([], []), ([2], [2]), ([1, 3], [1, 3]), ([4, 1], [4]), ([5], [5]), ([6, 5], [5, 6]), ([7, 5], [5, 7]), ([5, 8], [5, 8]), ([9, 5, 0, 1, 2, 3, 4, 5, 6, 7, 8, 9], [9])])
def impl_IsConvex.B1 : List Nat := [0, 1, 0, 4, 15, 31, 63, 127, 255, 511, 1023]
theorem impl_IsConvex.tab1 : rtab .any (opsOf Try.f41 1) = impl_IsConvex.T1 := by kernel_rfl
theorem impl_IsConvex.bits1 : waitsOk impl_IsConvex.T1.2 impl_IsConvex.B1 = true := by kernel_rfl
set_option maxHeartbeats 8000000 in
set_option maxRecDepth 100000 in
theorem impl_IsConvex.calls (k : Nat) (a0_0 : Int) (a0_1 : ByteArray) (r : Bool) (w : World) (h : impl_IsConvex.f k a0_0 a0_1 = some r) :
  Calls Try.prog 41 #[.agg #[.int .i64 a0_0, .string a0_1]] w fun e w' => e = .returned (.bool r) ∧ Below w.heap.size w w' := by
 have hu27 := Try.underlying27
 have HB := Aside0.mk (Below.refl w.heap.size w)
 have H : ((impl_HullSize.f k a0_0 a0_1).bind fun t580 => (if t580 = a0_0 then (some (decide (a0_0 > 0))) else (some false))) = some r := h
 clear h
 replace H := Option.bind_eq_some_iff.mp H
 obtain ⟨t580, A20, H⟩ := H
 replace H : (if t580 = a0_0 then (some (decide (a0_0 > 0))) else (some false)) = some r := H
 have A2 := Aside0.mk A20
 clear A20
 by_cases c3 : t580 = a0_0
 ·rw [if_pos c3] at H
  have c3b0 : (t580 == a0_0) = true := beq_iff_eq.mpr c3
  have c3b1 : (t580 != a0_0) = false := bne_eq_false_iff_eq.mpr c3
  clear c3
  obtain rfl := Option.some.inj H
  go_enter Try.func41, Try.ntmps41
  try go_wp2_with (first | ((with_reducible refine gate_dst (N := 1) rfl ?_); refine box_event ?hg (N := 1) ?hd (cs := #[.int .i64 a0_0, .string a0_1]) (t := 27) ?hr ?_; (case hd => rfl); (case hg => rfl); (case hr => first | (go_simp; done) | (go_simp; rfl)); intro gb579 hg w4 hbox hb; have BK579 := Aside0.mk (hbox); have GW579 := Aside0.mk ((by rw [hg]; exact (below_size zB) : w.heap.size ≤ gb579)); have GE579 := Aside0.mk ((by rw [hg]; exact (below_size zB) : w.heap.size ≤ gb579)); replace HB := Aside0.mk (below_step zB hb); clear hb hbox hg))
  have n0_ := Aside0.mk (blk_drew BK579.out)
  have n1_ := Aside0.mk (below_drew1 HB.out)
  clear BK579
  clear HB
  have BK579 := n0_
  have HB := n1_
  clear n0_ n1_
  refine start_ (n := 11) (S := fun w' => w'.cell? ⟨gb579, 0, none⟩ = some (.int .i64 a0_0) ∧ w'.cell? ⟨gb579, 1, none⟩ = some (.string a0_1)) (ds := []) #[false, false, false, false, false, false, false, false, false, false, false] (by kernel_rfl) rfl rfl ⟨(blk_cell BK579.out 0).trans rfl, (blk_cell BK579.out 1).trans rfl⟩ (fun hHeld => ?_); refine with_tabW impl_IsConvex.tab1 impl_IsConvex.bits1 (fun HT_ HW_ => ?_)
  generalize w4.drew = w5 at BK579 HB hHeld ⊢
  refine zP 2 (some 5) rfl rfl ?_
  refine take_ (i := 0) (N := some 3) (v := ?_) (a' := ?_) #[true, false, true, false, false, false, false, false, false, false, false] rfl rfl (take_ofW HT_.out HW_.out (by kernel_rfl)) (fun _ _ _ h => h) (Or.inl ⟨by rfl, ?_⟩) hHeld ?_ ?_
  rotate_left
  ·rintro w' ⟨s0, s1⟩
   go_simp
   with_reducible rfl
  rotate_left
  ·simp only [Act.put, List.setIfInBounds_toArray, List.set_cons_zero, List.set_cons_succ, i64_w, i32_w]
   rfl
  refine take_ (i := 3) (N := some 6) (v := ?_) (a' := ?_) #[true, false, true, true, false, false, false, false, false, false, false] rfl rfl (take_ofW HT_.out HW_.out (by kernel_rfl)) (fun _ _ _ h => h) (Or.inl ⟨by rfl, ?_⟩) hHeld ?_ ?_
  rotate_left
  ·rintro w' ⟨s0, s1⟩
   go_simp
   with_reducible rfl
  rotate_left
  ·simp only [Act.put, List.setIfInBounds_toArray, List.set_cons_zero, List.set_cons_succ, i64_w, i32_w]
   rfl
  refine one_ (i := 1) (N := some 4) #[true, true, true, true, false, false, false, false, false, false, false] rfl rfl (one_of HT_.out (by kernel_rfl)) (by decide) (fun K hK => ?_)
  refine goes_ Try.func39 (by kernel_rfl) rfl #[.agg #[.int .i64 a0_0, .string a0_1]] (by rfl) rfl rfl zM ?_
  with_reducible refine (impl_HullSize.calls k a0_0 a0_1 t580 _ A2.out).mono ?_
  rintro e w6 ⟨rfl, hb⟩
  refine ⟨_, rfl, ?_⟩
  have n0_ := Aside0.mk (blk_below (g := gb579) (o := .cells #[.int .i64 a0_0, .string a0_1] 27 (0, 0)) (zK BK579.out) hb)
  have n1_ := Aside0.mk (below_step (zG GE579.out) hb)
  clear BK579
  clear HB
  have BK579 := n0_
  have HB := n1_
  clear n0_ n1_
  (try clear hb)
  (try clear hb2)
  (try clear hk)
  (try clear hi)
  refine hK.out _ _ ⟨(blk_cell BK579.out 0).trans rfl, (blk_cell BK579.out 1).trans rfl⟩ (fun hHeld => ?_)
  clear hK K
  refine norm_ (a' := ?_) ?_ ?_
  rotate_left
  ·show Act.put _ (some 4) _ = _
   simp only [Act.put, List.setIfInBounds_toArray, List.set_cons_zero, List.set_cons_succ, i64_w, i32_w]
   rfl
  refine zP 4 (some 7) rfl rfl ?_
  refine zP 5 (some 8) rfl rfl ?_
  refine zP 6 (some 9) rfl rfl ?_
  refine take_ (i := 7) (N := some 10) (v := ?_) (a' := ?_) #[true, true, true, true, true, true, true, true, false, false, false] rfl rfl (take_ofW HT_.out HW_.out (by kernel_rfl)) (fun _ _ _ h => h) (Or.inl ⟨by rfl, ?_⟩) hHeld ?_ ?_
  rotate_left
  ·rintro w' ⟨s0, s1⟩
   go_simp
   with_reducible rfl
  rotate_left
  ·simp only [Act.put, List.setIfInBounds_toArray, List.set_cons_zero, List.set_cons_succ, i64_w, i32_w]
   rfl
  refine zP 8 (some 11) rfl rfl ?_
  refine zP 9 (some 12) rfl rfl ?_
  refine zP 10 (some 2) rfl rfl ?_
  refine done_ (done_of HT_.out (by kernel_rfl)) ?_
  try go_wp2
  go_ret
  exact ⟨zE, zG GE579.out⟩
 ·rw [if_neg c3] at H
  have c3b0 : (t580 == a0_0) = false := beq_eq_false_iff_ne.mpr c3
  have c3b1 : (t580 != a0_0) = true := bne_iff_ne.mpr c3
  obtain rfl := Option.some.inj H
  go_enter Try.func41, Try.ntmps41
  try go_wp2_with (first | ((with_reducible refine gate_dst (N := 1) rfl ?_); refine box_event ?hg (N := 1) ?hd (cs := #[.int .i64 a0_0, .string a0_1]) (t := 27) ?hr ?_; (case hd => rfl); (case hg => rfl); (case hr => first | (go_simp; done) | (go_simp; rfl)); intro gb579 hg w7 hbox hb; have BK579 := Aside0.mk (hbox); have GW579 := Aside0.mk ((by rw [hg]; exact (below_size zB) : w.heap.size ≤ gb579)); have GE579 := Aside0.mk ((by rw [hg]; exact (below_size zB) : w.heap.size ≤ gb579)); replace HB := Aside0.mk (below_step zB hb); clear hb hbox hg))
  have n0_ := Aside0.mk (blk_drew BK579.out)
  have n1_ := Aside0.mk (below_drew1 HB.out)
  clear BK579
  clear HB
  have BK579 := n0_
  have HB := n1_
  clear n0_ n1_
  refine start_ (n := 11) (S := fun w' => w'.cell? ⟨gb579, 0, none⟩ = some (.int .i64 a0_0) ∧ w'.cell? ⟨gb579, 1, none⟩ = some (.string a0_1)) (ds := []) #[false, false, false, false, false, false, false, false, false, false, false] (by kernel_rfl) rfl rfl ⟨(blk_cell BK579.out 0).trans rfl, (blk_cell BK579.out 1).trans rfl⟩ (fun hHeld => ?_); refine with_tabW impl_IsConvex.tab1 impl_IsConvex.bits1 (fun HT_ HW_ => ?_)
  generalize w7.drew = w8 at BK579 HB hHeld ⊢
  refine zP 2 (some 5) rfl rfl ?_
  refine take_ (i := 0) (N := some 3) (v := ?_) (a' := ?_) #[true, false, true, false, false, false, false, false, false, false, false] rfl rfl (take_ofW HT_.out HW_.out (by kernel_rfl)) (fun _ _ _ h => h) (Or.inl ⟨by rfl, ?_⟩) hHeld ?_ ?_
  rotate_left
  ·rintro w' ⟨s0, s1⟩
   go_simp
   with_reducible rfl
  rotate_left
  ·simp only [Act.put, List.setIfInBounds_toArray, List.set_cons_zero, List.set_cons_succ, i64_w, i32_w]
   rfl
  refine take_ (i := 3) (N := some 6) (v := ?_) (a' := ?_) #[true, false, true, true, false, false, false, false, false, false, false] rfl rfl (take_ofW HT_.out HW_.out (by kernel_rfl)) (fun _ _ _ h => h) (Or.inl ⟨by rfl, ?_⟩) hHeld ?_ ?_
  rotate_left
  ·rintro w' ⟨s0, s1⟩
   go_simp
   with_reducible rfl
  rotate_left
  ·simp only [Act.put, List.setIfInBounds_toArray, List.set_cons_zero, List.set_cons_succ, i64_w, i32_w]
   rfl
  refine one_ (i := 1) (N := some 4) #[true, true, true, true, false, false, false, false, false, false, false] rfl rfl (one_of HT_.out (by kernel_rfl)) (by decide) (fun K hK => ?_)
  refine goes_ Try.func39 (by kernel_rfl) rfl #[.agg #[.int .i64 a0_0, .string a0_1]] (by rfl) rfl rfl zM ?_
  with_reducible refine (impl_HullSize.calls k a0_0 a0_1 t580 _ A2.out).mono ?_
  rintro e w9 ⟨rfl, hb⟩
  refine ⟨_, rfl, ?_⟩
  have n0_ := Aside0.mk (blk_below (g := gb579) (o := .cells #[.int .i64 a0_0, .string a0_1] 27 (0, 0)) (zK BK579.out) hb)
  have n1_ := Aside0.mk (below_step (zG GE579.out) hb)
  clear BK579
  clear HB
  have BK579 := n0_
  have HB := n1_
  clear n0_ n1_
  (try clear hb)
  (try clear hb2)
  (try clear hk)
  (try clear hi)
  refine hK.out _ _ ⟨(blk_cell BK579.out 0).trans rfl, (blk_cell BK579.out 1).trans rfl⟩ (fun hHeld => ?_)
  clear hK K
  refine norm_ (a' := ?_) ?_ ?_
  rotate_left
  ·show Act.put _ (some 4) _ = _
   simp only [Act.put, List.setIfInBounds_toArray, List.set_cons_zero, List.set_cons_succ, i64_w, i32_w]
   rfl
  refine zP 4 (some 7) rfl rfl ?_
  refine zP 5 (some 8) rfl rfl ?_
  refine pure_ (i := 6) (N := some 9) (v := undef) (a' := ?_) #[true, true, true, true, true, true, true, false, false, false, false] rfl rfl (any_of HT_.out (by kernel_rfl)) (fun _ _ _ h => h) (Or.inr ⟨by rfl, rfl⟩) ?_ ?_
  rotate_left
  ·simp only [Act.put, List.setIfInBounds_toArray, List.set_cons_zero, List.set_cons_succ, i64_w, i32_w]
   rfl
  refine pure_ (i := 7) (N := some 10) (v := undef) (a' := ?_) #[true, true, true, true, true, true, true, true, false, false, false] rfl rfl (any_of HT_.out (by kernel_rfl)) (fun _ _ _ h => h) (Or.inr ⟨by rfl, rfl⟩) ?_ ?_
  rotate_left
  ·simp only [Act.put, List.setIfInBounds_toArray, List.set_cons_zero, List.set_cons_succ, i64_w, i32_w]
   rfl
  refine pure_ (i := 8) (N := some 11) (v := undef) (a' := ?_) #[true, true, true, true, true, true, true, true, true, false, false] rfl rfl (any_of HT_.out (by kernel_rfl)) (fun _ _ _ h => h) (Or.inr ⟨by rfl, rfl⟩) ?_ ?_
  rotate_left
  ·simp only [Act.put, List.setIfInBounds_toArray, List.set_cons_zero, List.set_cons_succ, i64_w, i32_w]
   rfl
  refine zP 9 (some 12) rfl rfl ?_
  refine zP 10 (some 2) rfl rfl ?_
  refine done_ (done_of HT_.out (by kernel_rfl)) ?_
  try go_wp2
  go_ret
  exact ⟨zE, zG GE579.out⟩
/-! ### laws_FnExactIsConvex: function 13 -/
def laws_FnExactIsConvex.f (k : Nat) (a0_0 : Int) (a0_1 : ByteArray) : Option (Bool) := (laws_szSigns.f a0_0 a0_1 1048576).bind fun t582 => (if t582 < 0 then (some true) else ((laws_toSigns.f a0_0 a0_1).bind fun bt583 => ((spec_IsConvex.f k bt583.1 bt583.2).bind fun t585 => ((laws_toSigns.f a0_0 a0_1).bind fun bt586 => ((impl_IsConvex.f k bt586.1 bt586.2).bind fun t588 => (if (t588 != t585) = true then (some false) else (some true)))))))
theorem laws_FnExactIsConvex.mono : ∀ a0 a1 k, LeO (laws_FnExactIsConvex.f k a0 a1) (laws_FnExactIsConvex.f (k + 1) a0 a1) := by
 intro a0 a1 k
 unfold laws_FnExactIsConvex.f
 repeat' first
   | (with_reducible exact impl_IsConvex.mono _ _ _)
   | (with_reducible exact spec_IsConvex.mono _ _ _)
   | (with_reducible exact LeO.refl _)
   | (with_reducible exact LeO.none _)
   | (with_reducible refine LeO.ite ?_ ?_)
   | (with_reducible refine LeO.bind ?_ (fun _ => ?_))
   | exact impl_IsConvex.mono _ _ _
   | exact spec_IsConvex.mono _ _ _
   | exact LeO.none _
   | refine LeO.ite ?_ ?_
   | refine LeO.bind ?_ (fun _ => ?_)
set_option maxHeartbeats 8000000 in
set_option maxRecDepth 100000 in
theorem laws_FnExactIsConvex.calls (k : Nat) (a0_0 : Int) (a0_1 : ByteArray) (r : Bool) (w : World) (h : laws_FnExactIsConvex.f k a0_0 a0_1 = some r) (hr_ : r = true) :
  Calls Try.prog 13 #[.agg #[.int .i64 a0_0, .string a0_1]] w fun e w' => e = .returned (.bool r) ∧ Below w.heap.size w w' := by
 have hu23 := Try.underlying23
 have HB := Aside0.mk (Below.refl w.heap.size w)
 have H : ((laws_szSigns.f a0_0 a0_1 1048576).bind fun t582 => (if t582 < 0 then (some true) else ((laws_toSigns.f a0_0 a0_1).bind fun bt583 => ((spec_IsConvex.f k bt583.1 bt583.2).bind fun t585 => ((laws_toSigns.f a0_0 a0_1).bind fun bt586 => ((impl_IsConvex.f k bt586.1 bt586.2).bind fun t588 => (if (t588 != t585) = true then (some false) else (some true)))))))) = some r := h
 clear h
 replace H := Option.bind_eq_some_iff.mp H
 obtain ⟨t582, A20, H⟩ := H
 replace H : (if t582 < 0 then (some true) else ((laws_toSigns.f a0_0 a0_1).bind fun bt583 => ((spec_IsConvex.f k bt583.1 bt583.2).bind fun t585 => ((laws_toSigns.f a0_0 a0_1).bind fun bt586 => ((impl_IsConvex.f k bt586.1 bt586.2).bind fun t588 => (if (t588 != t585) = true then (some false) else (some true))))))) = some r := H
 have A2 := Aside0.mk A20
 clear A20
 by_cases c3 : t582 < 0
 ·rw [if_pos c3] at H
  have c3b0 : decide (t582 < 0) = true := decide_eq_true c3
  clear c3
  obtain rfl := Option.some.inj H
  go_enter Try.func13, Try.ntmps13
  go_wp2_with (first | ((with_reducible refine gate_dst (N := 1) rfl ?_); refine box_event ?hg (N := 1) ?hd (cs := #[.int .i64 a0_0, .string a0_1]) (t := 23) ?hr ?_; (case hd => rfl); (case hg => rfl); (case hr => first | (go_simp; done) | (go_simp; rfl)); intro gb581 hg w4 hbox hb; have BK581 := Aside0.mk (hbox); have GW581 := Aside0.mk ((by rw [hg]; exact (below_size zB) : w.heap.size ≤ gb581)); have GE581 := Aside0.mk ((by rw [hg]; exact (below_size zB) : w.heap.size ≤ gb581)); replace HB := Aside0.mk (below_step zB hb); clear hb hbox hg; have hcz5_0 : w4.cell? ⟨gb581, 0, none⟩ = some (.int .i64 a0_0) := (blk_cell BK581.out 0).trans rfl; have hcz5_1 : w4.cell? ⟨gb581, 1, none⟩ = some (.string a0_1) := (blk_cell BK581.out 1).trans rfl; have hfz5_0 := blk_frozen BK581.out 0; have hfz5_1 := blk_frozen BK581.out 1) | ((with_reducible refine gate_callee (f := 15) rfl ?_); refine goesL_ (some 8) rfl rfl Try.func15 (by kernel_rfl) rfl #[.agg #[.int .i64 a0_0, .string a0_1], .int .i64 1048576] rfl zM ?_; (with_reducible refine (laws_szSigns.calls a0_0 a0_1 1048576 t582 _ A2.out).mono ?_); rintro e w6 ⟨rfl, hb⟩; refine ⟨_, rfl, ?_⟩; replace BK581 := Aside0.mk (blk_below (g := gb581) (o := .cells #[.int .i64 a0_0, .string a0_1] 23 (0, 0)) (zK BK581.out) hb); replace HB := Aside0.mk (below_step (zG GE581.out) hb); (try clear hb)))
  go_ret
  exact ⟨zE, zG GE581.out⟩
 ·rw [if_neg c3] at H
  have c3b0 : decide (t582 < 0) = false := decide_eq_false c3
  clear c3
  replace H := Option.bind_eq_some_iff.mp H
  obtain ⟨⟨t583, t584⟩, A70, H⟩ := H
  replace H : ((spec_IsConvex.f k t583 t584).bind fun t585 => ((laws_toSigns.f a0_0 a0_1).bind fun bt586 => ((impl_IsConvex.f k bt586.1 bt586.2).bind fun t588 => (if (t588 != t585) = true then (some false) else (some true))))) = some r := H
  have A7 := Aside0.mk A70
  clear A70
  replace H := Option.bind_eq_some_iff.mp H
  obtain ⟨t585, A80, H⟩ := H
  replace H : ((laws_toSigns.f a0_0 a0_1).bind fun bt586 => ((impl_IsConvex.f k bt586.1 bt586.2).bind fun t588 => (if (t588 != t585) = true then (some false) else (some true)))) = some r := H
  have A8 := Aside0.mk A80
  clear A80
  replace H := Option.bind_eq_some_iff.mp H
  obtain ⟨⟨t586, t587⟩, A90, H⟩ := H
  replace H : ((impl_IsConvex.f k t586 t587).bind fun t588 => (if (t588 != t585) = true then (some false) else (some true))) = some r := H
  have A9 := Aside0.mk A90
  clear A90
  replace H := Option.bind_eq_some_iff.mp H
  obtain ⟨t588, A100, H⟩ := H
  replace H : (if (t588 != t585) = true then (some false) else (some true)) = some r := H
  have A10 := Aside0.mk A100
  clear A100
  by_cases c11 : (t588 != t585) = true
  ·rw [if_pos c11] at H
   have c11b0 : (t588 != t585) = true := c11
   (try (have c11b1 : decide (t588 = t585) = false := by simpa using c11))
   (try (have c11b2 : (t588 == t585) = false := by simpa using c11))
   (try (have c11b3 : ¬ (t588 = t585) := by simpa using c11))
   clear c11
   obtain rfl := Option.some.inj H
   cases hr_
  ·rw [if_neg c11] at H
   have c11b0 : (t588 != t585) = false := by simpa using c11
   (try (have c11b1 : decide (t588 = t585) = true := by simpa using c11))
   (try (have c11b2 : (t588 == t585) = true := by simpa using c11))
   clear c11
   obtain rfl := Option.some.inj H
   go_enter Try.func13, Try.ntmps13
   go_wp2_with (first | ((with_reducible refine gate_dst (N := 1) rfl ?_); refine box_event ?hg (N := 1) ?hd (cs := #[.int .i64 a0_0, .string a0_1]) (t := 23) ?hr ?_; (case hd => rfl); (case hg => rfl); (case hr => first | (go_simp; done) | (go_simp; rfl)); intro gb581 hg w21 hbox hb; have BK581 := Aside0.mk (hbox); have GW581 := Aside0.mk ((by rw [hg]; exact (below_size zB) : w.heap.size ≤ gb581)); have GE581 := Aside0.mk ((by rw [hg]; exact (below_size zB) : w.heap.size ≤ gb581)); replace HB := Aside0.mk (below_step zB hb); clear hb hbox hg; have hcz22_0 : w21.cell? ⟨gb581, 0, none⟩ = some (.int .i64 a0_0) := (blk_cell BK581.out 0).trans rfl; have hcz22_1 : w21.cell? ⟨gb581, 1, none⟩ = some (.string a0_1) := (blk_cell BK581.out 1).trans rfl; have hfz22_0 := blk_frozen BK581.out 0; have hfz22_1 := blk_frozen BK581.out 1) | ((with_reducible refine gate_callee (f := 15) rfl ?_); refine goesL_ (some 8) rfl rfl Try.func15 (by kernel_rfl) rfl #[.agg #[.int .i64 a0_0, .string a0_1], .int .i64 1048576] rfl zM ?_; (with_reducible refine (laws_szSigns.calls a0_0 a0_1 1048576 t582 _ A2.out).mono ?_); rintro e w23 ⟨rfl, hb⟩; refine ⟨_, rfl, ?_⟩; replace BK581 := Aside0.mk (blk_below (g := gb581) (o := .cells #[.int .i64 a0_0, .string a0_1] 23 (0, 0)) (zK BK581.out) hb); replace HB := Aside0.mk (below_step (zG GE581.out) hb); (try clear hb); have hcz24_0 : w23.cell? ⟨gb581, 0, none⟩ = some (.int .i64 a0_0) := (blk_cell BK581.out 0).trans rfl; have hcz24_1 : w23.cell? ⟨gb581, 1, none⟩ = some (.string a0_1) := (blk_cell BK581.out 1).trans rfl; have hfz24_0 := blk_frozen BK581.out 0; have hfz24_1 := blk_frozen BK581.out 1) | ((with_reducible refine gate_callee (f := 17) rfl ?_); refine goesL_ (some 12) rfl rfl Try.func17 (by kernel_rfl) rfl #[.agg #[.int .i64 a0_0, .string a0_1]] rfl zM ?_; (with_reducible refine (laws_toSigns.calls a0_0 a0_1 t583 t584 _ A7.out).mono ?_); rintro e w25 ⟨rfl, hb⟩; refine ⟨_, rfl, ?_⟩; replace BK581 := Aside0.mk (blk_below (g := gb581) (o := .cells #[.int .i64 a0_0, .string a0_1] 23 (0, 0)) (zK BK581.out) hb); replace HB := Aside0.mk (below_step (zG GE581.out) hb); (try clear hb)) | ((with_reducible refine gate_callee (f := 40) rfl ?_); refine goesL_ (some 13) rfl rfl Try.func40 (by kernel_rfl) rfl #[.agg #[.int .i64 t583, .string t584]] rfl zM ?_; (with_reducible refine (spec_IsConvex.calls k t583 t584 t585 _ A8.out).mono ?_); rintro e w26 ⟨rfl, hb⟩; refine ⟨_, rfl, ?_⟩; replace BK581 := Aside0.mk (blk_below (g := gb581) (o := .cells #[.int .i64 a0_0, .string a0_1] 23 (0, 0)) (zK BK581.out) hb); replace HB := Aside0.mk (below_step (zG GE581.out) hb); (try clear hb); have hcz27_0 : w26.cell? ⟨gb581, 0, none⟩ = some (.int .i64 a0_0) := (blk_cell BK581.out 0).trans rfl; have hcz27_1 : w26.cell? ⟨gb581, 1, none⟩ = some (.string a0_1) := (blk_cell BK581.out 1).trans rfl; have hfz27_0 := blk_frozen BK581.out 0; have hfz27_1 := blk_frozen BK581.out 1) | ((with_reducible refine gate_callee (f := 17) rfl ?_); refine goesL_ (some 15) rfl rfl Try.func17 (by kernel_rfl) rfl #[.agg #[.int .i64 a0_0, .string a0_1]] rfl zM ?_; (with_reducible refine (laws_toSigns.calls a0_0 a0_1 t586 t587 _ A9.out).mono ?_); rintro e w28 ⟨rfl, hb⟩; refine ⟨_, rfl, ?_⟩; replace BK581 := Aside0.mk (blk_below (g := gb581) (o := .cells #[.int .i64 a0_0, .string a0_1] 23 (0, 0)) (zK BK581.out) hb); replace HB := Aside0.mk (below_step (zG GE581.out) hb); (try clear hb)) | ((with_reducible refine gate_callee (f := 41) rfl ?_); refine goesL_ (some 16) rfl rfl Try.func41 (by kernel_rfl) rfl #[.agg #[.int .i64 t586, .string t587]] rfl zM ?_; (with_reducible refine (impl_IsConvex.calls k t586 t587 t588 _ A10.out).mono ?_); rintro e w29 ⟨rfl, hb⟩; refine ⟨_, rfl, ?_⟩; replace BK581 := Aside0.mk (blk_below (g := gb581) (o := .cells #[.int .i64 a0_0, .string a0_1] 23 (0, 0)) (zK BK581.out) hb); replace HB := Aside0.mk (below_step (zG GE581.out) hb); (try clear hb)))
   go_ret
   exact ⟨zE, zG GE581.out⟩
end Go.Proofs.Ytgnghhelalablaa.PX
namespace Go.Proofs.Ytgnghhelalablaa.M
open Go.RowKit Go.Proofs.YtgnghhelalablaaW.PrintWords Go.Proofs.Ytgnghhelalablaa.PX Go.Proofs.Ytgnghhelalablaa.G Go.Proofs.YtgnghhelalablaaW.PrintMore
/-- What IsConvex answers. -/
def convA (n : Int) (t : ByteArray) : Bool := acyOk n t && (hullA n t == n)
theorem impl_isConv (n : Int) (t : ByteArray) (hs : t.size ≤ 9223372036854775807) : Ev (fun k => impl_IsConvex.f k n t) (convA n t) := by
  unfold impl_IsConvex.f convA
  refine Ev.bind (impl_hullSize n t hs) ?_
  cases h : acyOk n t with
  | true =>
    obtain ⟨N, rfl, ho, h0, h1⟩ := acy_are h
    by_cases g : hullA (N : Int) t = (N : Int)
    · rw [beq_iff_eq.2 g]
      refine ev_pos g (ev_cast (Ev.now _) ?_)
      exact decide_eq_true (by omega)
    · rw [beq_eq_false_iff_ne.2 g]
      exact ev_neg g (Ev.now _)
  | false =>
    rw [Bool.false_and]
    have e : hullA n t = -1 := by unfold hullA; rw [h]; rfl
    rw [e]
    by_cases g : -1 = n
    · refine ev_pos g (ev_cast (Ev.now _) ?_)
      exact decide_eq_false (by omega)
    · exact ev_neg g (Ev.now _)
theorem spec_isConv (n : Int) (t : ByteArray) (hs : t.size ≤ 9223372036854775807) : Ev (fun k => spec_IsConvex.f k n t) (convA n t) := by
  unfold spec_IsConvex.f convA
  refine Ev.bind (spec_isA n t hs) ?_
  cases h : acyOk n t with
  | true => exact ev_pos (by trivial) (Ev.bind (spec_hullSize n t hs) (Ev.now _))
  | false => exact ev_neg (by decide) (Ev.now _)
end Go.Proofs.Ytgnghhelalablaa.M
namespace Go.Proofs.Ytgnghhelalablaa.Pure
open Go.RowKit Go.Proofs.YtgnghhelalablaaW.PrintWords Go.Proofs.Ytgnghhelalablaa.PX Go.Proofs.Ytgnghhelalablaa.M
theorem FnExactIsConvex (n : Int) (t : ByteArray) (_ : (Lit.int .i64 n).wf = true) (hs : t.size ≤ 9223372036854775807) :
    ∃ k, laws_FnExactIsConvex.f k n t = some true := by
  refine Ev.rounds (r := true) ?_
  unfold laws_FnExactIsConvex.f
  obtain ⟨r, hr⟩ := sz_signs n t
  refine ev_call hr ?_
  by_cases h : r < 0
  · exact ev_pos h (Ev.now _)
  · exact ev_neg h (ev_call (a := (n, t)) rfl (Ev.bind (spec_isConv n t hs) (ev_call (a := (n, t)) rfl (Ev.bind (impl_isConv n t hs) (ev_neg (by simp) (Ev.now _))))))
end Go.Proofs.Ytgnghhelalablaa.Pure
namespace Go.Proofs.Ytgnghhelalablaa.fnExactIsConvex
open Go.ChangeShapes Go.WideShapes Go.ChangeAt Go.RowKit Go.Joins
open Go.ChangeMaps (open_string shut_string)
set_option linter.unusedVariables false
theorem own : ownKnob Try.prog.godebug = none := by kernel_rfl
theorem str_mk {H : Type} {enc : TypeId × Value → H} {P : Program} {w : World} {base : Nat} {spare : Nat → Bool} {held : Bool} {t : TypeId} {s : ByteArray} (ht : P.underlying t = some .string) (hs : s.size ≤ maxLen) : DataW.trod enc P w base spare held 1 t [.string s] = some (.lit (.string s.data.toList), []) := by
  simp [DataW.trod, ht, hs]
set_option maxRecDepth 100000 in
theorem lifted (os : Os) (started : os.Started) (H : Type) (enc : TypeId × Value → H) :
    ReturnsInHanded {} Try.checked os 13 .any (Rows.fnExactIsConvexSpec.pre6 enc Try.prog Try.f13 Rows.fnExactIsConvexRow.domain false) (Rows.fnExactIsConvexSpec.post enc Try.prog Try.f13 false true false false) := by
  refine returnsInHanded_of_change_sized (C := Try.checked) own started (by kernel_rfl) Try.func13
    (ChangeSpec.witness6 (enc := enc) (C := Try.checked) false ⟨#[], #[.agg #[.int .i64 0, .string ByteArray.empty]], []⟩ 8 (by kernel_rfl) (by kernel_rfl) (by kernel_rfl) (by kernel_rfl)) ?_
  intro W base args ds gs before hval0 hW hcnd hsz0 _
  have hsz : (DataW.weightsEach Try.prog (Try.f13.params.toList ++ Rows.fnExactIsConvexSpec.plain.varTypes Try.prog) (ds ++ gs)).all (· ≤ reachBytes) = true := hsz0
  have hval : ∀ (j : Nat) t v, Try.f13.params[j]? = some t → args[j]? = some v → Value.okWide Try.prog W .any base t v := hval0
  have hW' := hW
  obtain ⟨p, q, hA0, hV, rfl, hfz, hnd⟩ := hW
  have hA : DataW.TrodAll enc Try.prog W 0 (fun _ => true) true Try.f13.params.toList args.toList ds p := hA0
  rw [Try.params13] at hA hval hsz
  obtain ⟨v0, vs0, d0, ds0, p0, q0, hargs, rfl, rfl, h0, r0⟩ := trodAll_cons hA
  obtain ⟨rfl, rfl, rfl⟩ := trodAll_nil r0
  obtain rfl : args = #[v0] := by cases args; simp_all
  obtain ⟨rfl, rfl⟩ := trodVars_none hV
  obtain ⟨c0_0, c0_1, y0_0, y0_1, m0, rfl, rfl, rfl, hy0_0, hy0_1⟩ := open_agg2 Try.underlying23 (by kernel_rfl) (by kernel_rfl) (hval 0 23 v0 rfl rfl) h0
  obtain ⟨a0_0, e0_0, rfl, wa0⟩ := DataW.trod_int Try.underlying3 hy0_0
  obtain ⟨a0_1, e0_1, rfl, ws0⟩ := DataW.trod_string Try.underlying9 hy0_1
  simp only [List.cons.injEq, and_true] at e0_0 e0_1
  subst e0_0 e0_1
  clear hA0 hval0 hsz0 hsz
  obtain ⟨k, hP⟩ := Pure.FnExactIsConvex a0_0 a0_1 wa0 ws0
  refine (PX.laws_FnExactIsConvex.calls k a0_0 a0_1 true W hP rfl).mono fun e W' ⟨he, bel⟩ => ?_
  subst he
  exact ⟨_, rfl, _, _, _, [], _, [], hW', trodAll_mk1 (shut_bool Try.underlying4 _), (trodAll_cons_mk (shut_agg2 Try.underlying23 (by kernel_rfl) (by kernel_rfl) ⟨_, trod_int_mk 0 Try.underlying3 wa0⟩ ⟨_, str_mk Try.underlying9 ws0⟩) trodAll_mk0), rfl, bel.frame _, fun h => by cases h⟩
theorem over : Rows.fnExactIsConvexRow.holds Try.pinned (OpenSpec.ofChange Rows.fnExactIsConvexSpec) :=
  OpenClaim.holds_of_wide 13 Try.f13 rfl rfl rfl rfl rfl rfl rfl ⟨rfl, rfl, rfl, rfl, rfl⟩ rfl rfl rfl rfl rfl (by kernel_rfl) Try.func13 (by kernel_rfl)
    (of_decide_eq_true (by kernel_rfl)) (by unfold Func.isWrapper; first | (rw [if_pos (by decide +kernel)]; kernel_rfl) | (rw [if_neg (by decide +kernel)]; exact ⟨rfl, rfl⟩))
    (fun os started H enc _ => lifted os started H enc)
theorem proved : Rows.FnExactIsConvexSaid := over
#print axioms proved
end Go.Proofs.Ytgnghhelalablaa.fnExactIsConvex
namespace Go.Proofs.Ytgnghhelalablaa
/-- The row, under a short name, for the claim. -/
theorem fnExactIsConvex_holds : Rows.FnExactIsConvexSaid := fnExactIsConvex.proved
end Go.Proofs.Ytgnghhelalablaa
