/- FnExactAcyclicSets returns true for all arguments and leaves them as they were. No condition. -/
import Derived.Test.YtggbekkinkggfaaProg
import Derived.Test.YtggbekkinkggfaaRows
import Derived.WalkKit
import Derived.ProofKit
import Derived.OpenShut
import Derived.ShutString
import Derived.ChangeOld
import Derived.Below
import Derived.SizedLaws
import Derived.Lib.SmallJoins
import Derived.ChangeSame
import Derived.Test.YtggbekkinkggfaaV1
import Derived.Test.YtggbekkinkggfaaBmrvfln1
import Derived.Test.YtggbekkinkggfaaBjgghki2
import Derived.Test.YtggbekkinkggfaaBtpiqhs1
import Derived.Test.YtggbekkinkggfaaBxwqdye1
import Derived.Test.YtggbekkinkggfaaBebocgp1
import Derived.Test.YtggbekkinkggfaaBacykog1
import Derived.Test.YtggbekkinkggfaaBngmswq1
set_option linter.unusedVariables false
set_option linter.unusedSimpArgs false
namespace Go.Proofs.Ytggbekkinkggfaa.PX
open Go.RowKit Go.Proofs.Ytggbekkinkggfaa.G Go.Proofs.YtggbekkinkggfaaW.PrintWords Go.Proofs.YtggbekkinkggfaaW.PrintLast Go.Proofs.YtggbekkinkggfaaW.PrintMore
attribute [local go_sem] max2_int min2_int max_two min_two max_three min_three max_four min_four   -- for this text's walks alone
set_option linter.unusedVariables false
set_option linter.unusedSimpArgs false
/-! ### spec_AcyclicSets: function 43 -/
def spec_AcyclicSets.l0 : Nat → List Int → Int → Int → ByteArray → Option (List Int)
 | 0, _, _, _, _ => none
 | k + 1, x3, x4, x558000, x558001 => if 0 ≤ (IntKind.u64.wrap (x558000)) then (if x4 < (shl .i64 1 (IntKind.u64.wrap (x558000))) then ((spec_l4Reverse.f k x558000 x558001 x4).bind fun bt562 => ((spec_l4Acyclic.f k bt562.1 bt562.2).bind fun t564 => (if t564 = true then (if x3.length < 17592186044416 then (spec_AcyclicSets.l0 k (x3 ++ [x4]) (wrap64 (x4 + 1)) x558000 x558001) else (none)) else (spec_AcyclicSets.l0 k x3 (wrap64 (x4 + 1)) x558000 x558001)))) else (some x3)) else (none)
def spec_AcyclicSets.f (k : Nat) (a0_0 : Int) (a0_1 : ByteArray) : Option (List Int) := (some (([] : List Int) : List Int)).bind fun y558 => ((spec_IsMatroid.f k a0_0 a0_1).bind fun t561 => (if t561 = true then (spec_AcyclicSets.l0 k y558 0 a0_0 a0_1) else (some y558)))
theorem spec_AcyclicSets.mono_l : ∀ k, (∀ y0 y1 y2 y3, LeO (spec_AcyclicSets.l0 k y0 y1 y2 y3) (spec_AcyclicSets.l0 (k + 1) y0 y1 y2 y3))
 | 0 => fun _ _ _ _ r h => by simp [spec_AcyclicSets.l0] at h
 | k + 1 => by
  have ih0 := spec_AcyclicSets.mono_l k
  ·intro y0 y1 y2 y3
   unfold spec_AcyclicSets.l0
   repeat' first
   | (with_reducible exact ih0 _ _ _ _)
   | (with_reducible exact spec_IsMatroid.mono _ _ _)
   | (with_reducible exact spec_l4Acyclic.mono _ _ _)
   | (with_reducible exact spec_l4Reverse.mono _ _ _ _)
   | (with_reducible exact LeO.refl _)
   | (with_reducible exact LeO.none _)
   | (with_reducible refine LeO.ite ?_ ?_)
   | (with_reducible refine LeO.bind ?_ (fun _ => ?_))
   | exact ih0 _ _ _ _
   | exact spec_IsMatroid.mono _ _ _
   | exact spec_l4Acyclic.mono _ _ _
   | exact spec_l4Reverse.mono _ _ _ _
   | exact LeO.none _
   | refine LeO.ite ?_ ?_
   | refine LeO.bind ?_ (fun _ => ?_)
theorem spec_AcyclicSets.mono : ∀ a0 a1 k, LeO (spec_AcyclicSets.f k a0 a1) (spec_AcyclicSets.f (k + 1) a0 a1) := by
 intro a0 a1 k
 have ih0 := spec_AcyclicSets.mono_l k
 unfold spec_AcyclicSets.f
 repeat' first
   | (with_reducible exact ih0 _ _ _ _)
   | (with_reducible exact spec_IsMatroid.mono _ _ _)
   | (with_reducible exact spec_l4Acyclic.mono _ _ _)
   | (with_reducible exact spec_l4Reverse.mono _ _ _ _)
   | (with_reducible exact LeO.refl _)
   | (with_reducible exact LeO.none _)
   | (with_reducible refine LeO.ite ?_ ?_)
   | (with_reducible refine LeO.bind ?_ (fun _ => ?_))
   | exact ih0 _ _ _ _
   | exact spec_IsMatroid.mono _ _ _
   | exact spec_l4Acyclic.mono _ _ _
   | exact spec_l4Reverse.mono _ _ _ _
   | exact LeO.none _
   | refine LeO.ite ?_ ?_
   | refine LeO.bind ?_ (fun _ => ?_)
set_option maxHeartbeats 8000000 in
set_option maxRecDepth 100000 in
theorem spec_AcyclicSets.calls (k : Nat) (a0_0 : Int) (a0_1 : ByteArray) (r : List Int) (w : World) (h : spec_AcyclicSets.f k a0_0 a0_1 = some r) :
  Calls Try.prog 43 #[.agg #[.int .i64 a0_0, .string a0_1]] w fun e w' => ∃ v0_ : Value, e = .returned (v0_) ∧ Kd.R (Kd.int .i64) 3 w' w.heap.size (fun _ => True) v0_ r ∧ Below w.heap.size w w' := by
 have hu26 := Try.underlying26
 have HB := Aside0.mk (Below.refl w.heap.size w)
 have H : ((some (([] : List Int) : List Int)).bind fun y558 => ((spec_IsMatroid.f k a0_0 a0_1).bind fun t561 => (if t561 = true then (spec_AcyclicSets.l0 k y558 0 a0_0 a0_1) else (some y558)))) = some r := h
 clear h
 obtain ⟨y558, hy558⟩ : ∃ y_ : List Int, y_ = (([] : List Int)) := ⟨_, rfl⟩
 replace H : ((spec_IsMatroid.f k a0_0 a0_1).bind fun t561 => (if t561 = true then (spec_AcyclicSets.l0 k y558 0 a0_0 a0_1) else (some y558))) = some r := by first | (rw [hy558]; with_reducible exact H) | (have H2_ := (Option.bind_some _ _).symm.trans H; rw [hy558]; with_reducible exact H2_) | (have H2_ := (Option.bind_some _ _).symm.trans H; with_reducible exact H2_) | with_reducible exact H | (rw [hy558]; exact H) | exact H
 have Ny558 := Aside0.mk hy558
 clear hy558
 replace H := Option.bind_eq_some_iff.mp H
 obtain ⟨t561, A20, H⟩ := H
 replace H : (if t561 = true then (spec_AcyclicSets.l0 k y558 0 a0_0 a0_1) else (some y558)) = some r := H
 have A2 := Aside0.mk A20
 clear A20
 by_cases c3 : t561 = true
 ·subst c3
  have H1 : (spec_AcyclicSets.l0 k y558 0 a0_0 a0_1) = some r := by rw [if_pos rfl] at H; exact H
  clear H
  have H := H1
  clear H1
  have H' := Aside0.mk H
  clear H
  go_enter Try.func43, Try.ntmps43
  go_wp2_with (first | ((with_reducible refine gate_dst (N := 1) rfl ?_); refine box_event ?hg (N := 1) ?hd (cs := #[.int .i64 a0_0, .string a0_1]) (t := 26) ?hr ?_; (case hd => rfl); (case hg => rfl); (case hr => first | (go_simp; done) | (go_simp; rfl)); intro gb557 hg w4 hbox hb; have n0_ := Aside0.mk (below_step zB hb); have n1_ := Aside0.mk (hbox); have n2_ := Aside0.mk ((by rw [hg]; exact (below_size zB) : w.heap.size ≤ gb557)); have n3_ := Aside0.mk ((by rw [hg]; exact (below_size zB) : w.heap.size ≤ gb557)); clear HB; have HB := n0_; have BK557 := n1_; have GW557 := n2_; have GE557 := n3_; clear n0_ n1_ n2_ n3_; clear hb hbox hg) | ((with_reducible refine gate_dst (N := 5) rfl ?_); refine Kd.R_lit (Kd.int .i64) _ 3 ?hg (N := 5) ?hd (xs := ([] : List Int)) (inner := []) (ok := fun _ => True) (okp := fun _ => True) ?hr ?hp (fun _ hk => hk) trivial (Below.refl _ _) (Nat.le_refl _) (by simp) ?_; (case hd => rfl); (case hg => rfl); (case hr => first | (go_simp; done) | (go_simp; rfl)); (case hp => exact (Reps.none _ _)); intro v559 w5 ho6 hb hg_ hnew_; clear hg_ hnew_; (first | rw [← Ny558.out] at ho6 | (simp only [Int.reduceToNat] at ho6; rw [← Ny558.out] at ho6)); have n0_ := Aside0.mk (Kd.R_lower ho6 (below_size (zG GE557.out))); have n1_ := Aside0.mk (blk_below (g := gb557) (o := .cells #[.int .i64 a0_0, .string a0_1] 26 (0, 0)) (zK BK557.out) hb); have n2_ := Aside0.mk (below_step (zG GE557.out) hb); clear BK557; clear HB; have HO560 := n0_; have BK557 := n1_; have HB := n2_; clear n0_ n1_ n2_; clear hb ho6; have hcz7_0 : w5.cell? ⟨gb557, 0, none⟩ = some (.int .i64 a0_0) := (blk_cell BK557.out 0).trans rfl; have hcz7_1 : w5.cell? ⟨gb557, 1, none⟩ = some (.string a0_1) := (blk_cell BK557.out 1).trans rfl; have hfz7_0 := blk_frozen BK557.out 0; have hfz7_1 := blk_frozen BK557.out 1) | ((with_reducible refine gate_callee (f := 29) rfl ?_); refine goesL_ (some 7) rfl rfl Try.func29 (by kernel_rfl) rfl #[.agg #[.int .i64 a0_0, .string a0_1]] rfl zM ?_; (with_reducible refine (spec_IsMatroid.calls k a0_0 a0_1 true _ A2.out).mono ?_); rintro e w8 ⟨rfl, hb⟩; refine ⟨_, rfl, ?_⟩; have n0_ := Aside0.mk (Kd.R_below (zR HO560.out) hb); have n1_ := Aside0.mk (blk_below (g := gb557) (o := .cells #[.int .i64 a0_0, .string a0_1] 26 (0, 0)) (zK BK557.out) hb); have n2_ := Aside0.mk (below_step (zG GE557.out) hb); clear HO560; clear BK557; clear HB; have HO560 := n0_; have BK557 := n1_; have HB := n2_; clear n0_ n1_ n2_; (try clear hb); (try clear hb2); (try clear hk); (try clear hi)))
  go_loopg [3, 4] k (fun kq v3 v4 w' => ∃ (x3_1 : List Int) (x4_1 : Int), v4 = .int .i64 x4_1 ∧ Aside0 (spec_AcyclicSets.l0 kq x3_1 x4_1 a0_0 a0_1 = some r) ∧ Aside0 (kq ≤ k) ∧ Aside0 (Kd.R (Kd.int .i64) 3 w' w.heap.size (fun _ => True) v3 x3_1) ∧ Aside0 (w'.heap[gb557]? = some (.cells #[.int .i64 a0_0, .string a0_1] 26 (0, 0))) ∧ Aside0 (Below w.heap.size w w'))
  case atStart => exact ⟨(y558), (0), zF, H', ⟨Nat.le_refl _⟩, ⟨zR HO560.out⟩, ⟨zK BK557.out⟩, ⟨zG GE557.out⟩⟩
  case round =>
   clear H'
   try clear c2
   try clear p2
   try clear c3
   try clear c4
   try clear hcz7_0
   try clear hcz7_1
   try clear hfz7_0
   try clear hfz7_1
   obtain ⟨x3_1, x4_1, rfl, HA, HK1, HO_3, BK557, HB⟩ := hrel
   cases gk with
   | zero => exact absurd HA.out (by simp [spec_AcyclicSets.l0])
   | succ k1 =>
    have H := HA.out
    clear HA
    simp only [spec_AcyclicSets.l0] at H
    obtain ⟨ji9, hji9⟩ : ∃ j_ : Int, (IntKind.u64.wrap (a0_0)) = j_ := ⟨_, rfl⟩
    replace H : (if 0 ≤ (ji9) then (if x4_1 < (shl .i64 1 (ji9)) then ((spec_l4Reverse.f k1 a0_0 a0_1 x4_1).bind fun bt562 => ((spec_l4Acyclic.f k1 bt562.1 bt562.2).bind fun t564 => (if t564 = true then (if x3_1.length < 17592186044416 then (spec_AcyclicSets.l0 k1 (x3_1 ++ [x4_1]) (wrap64 (x4_1 + 1)) a0_0 a0_1) else (none)) else (spec_AcyclicSets.l0 k1 x3_1 (wrap64 (x4_1 + 1)) a0_0 a0_1)))) else (some x3_1)) else (none)) = some r := by first | (rw [hji9] at H; exact H) | (simp only [hji9] at H ⊢; exact H)
    by_cases c10 : 0 ≤ (ji9)
    ·rw [if_pos c10] at H
     have c10b0 := eq_true c10
     have c10b1 : decide (0 ≤ (ji9)) = true := decide_eq_true c10
     clear c10
     obtain ⟨ji11, hji11⟩ : ∃ j_ : Int, (shl .i64 1 (ji9)) = j_ := ⟨_, rfl⟩
     replace H : (if x4_1 < (ji11) then ((spec_l4Reverse.f k1 a0_0 a0_1 x4_1).bind fun bt562 => ((spec_l4Acyclic.f k1 bt562.1 bt562.2).bind fun t564 => (if t564 = true then (if x3_1.length < 17592186044416 then (spec_AcyclicSets.l0 k1 (x3_1 ++ [x4_1]) (wrap64 (x4_1 + 1)) a0_0 a0_1) else (none)) else (spec_AcyclicSets.l0 k1 x3_1 (wrap64 (x4_1 + 1)) a0_0 a0_1)))) else (some x3_1)) = some r := by first | (rw [hji11] at H; exact H) | (simp only [hji11] at H ⊢; exact H)
     have hji11_ : (IntKind.i64.wrap (1 * 2 ^ min (ji9).toNat 64)) = ji11 := hji11
     have hji11z : (ji9) ≤ 64 → (IntKind.i64.wrap (1 * 2 ^ (ji9).toNat)) = ji11 := shl_small hji11
     have hji11u : (IntKind.i64.wrap (2 ^ min (ji9).toNat 64)) = ji11 := by have h_ := hji11_; rw [Int.one_mul] at h_; exact h_
     have hji11v : (ji9) ≤ 64 → (IntKind.i64.wrap (2 ^ (ji9).toNat)) = ji11 := fun hle_ => by have h_ := hji11z hle_; rw [Int.one_mul] at h_; exact h_
     have hji11y : (wrap64 (1 * 2 ^ min (ji9).toNat 64)) = ji11 := (i64_w _).symm.trans hji11_
     have hji11x : (ji9) ≤ 64 → (wrap64 (1 * 2 ^ (ji9).toNat)) = ji11 := fun h_ => (i64_w _).symm.trans (hji11z h_)
     by_cases c12 : x4_1 < (ji11)
     ·rw [if_pos c12] at H
      have c12b0 : decide (x4_1 < (ji11)) = true := decide_eq_true c12
      clear c12
      replace H := Option.bind_eq_some_iff.mp H
      obtain ⟨⟨t562, t563⟩, A130, H⟩ := H
      replace H : ((spec_l4Acyclic.f k1 t562 t563).bind fun t564 => (if t564 = true then (if x3_1.length < 17592186044416 then (spec_AcyclicSets.l0 k1 (x3_1 ++ [x4_1]) (wrap64 (x4_1 + 1)) a0_0 a0_1) else (none)) else (spec_AcyclicSets.l0 k1 x3_1 (wrap64 (x4_1 + 1)) a0_0 a0_1))) = some r := H
      have A13 := Aside0.mk A130
      clear A130
      replace H := Option.bind_eq_some_iff.mp H
      obtain ⟨t564, A140, H⟩ := H
      replace H : (if t564 = true then (if x3_1.length < 17592186044416 then (spec_AcyclicSets.l0 k1 (x3_1 ++ [x4_1]) (wrap64 (x4_1 + 1)) a0_0 a0_1) else (none)) else (spec_AcyclicSets.l0 k1 x3_1 (wrap64 (x4_1 + 1)) a0_0 a0_1)) = some r := H
      have A14 := Aside0.mk A140
      clear A140
      by_cases c15 : t564 = true
      ·subst c15
       have H1 : (if x3_1.length < 17592186044416 then (spec_AcyclicSets.l0 k1 (x3_1 ++ [x4_1]) (wrap64 (x4_1 + 1)) a0_0 a0_1) else (none)) = some r := by rw [if_pos rfl] at H; exact H
       clear H
       have H := H1
       clear H1
       by_cases c16 : x3_1.length < 17592186044416
       ·rw [if_pos c16] at H
        have LMc16 := Aside0.mk c16
        clear c16
        obtain ⟨y565, hy565⟩ : ∃ y_ : List Int, y_ = (x3_1 ++ [x4_1]) := ⟨_, rfl⟩
        replace H : (spec_AcyclicSets.l0 k1 y565 (wrap64 (x4_1 + 1)) a0_0 a0_1) = some r := by first | (rw [hy565]; with_reducible exact H) | (have H2_ := (Option.bind_some _ _).symm.trans H; rw [hy565]; with_reducible exact H2_) | (have H2_ := (Option.bind_some _ _).symm.trans H; with_reducible exact H2_) | with_reducible exact H | (rw [hy565]; exact H) | exact H
        have Ny565 := Aside0.mk hy565
        clear hy565
        have H' := Aside0.mk H
        clear H
        have hcz17_0 : wr.cell? ⟨gb557, 0, none⟩ = some (.int .i64 a0_0) := (blk_cell BK557.out 0).trans rfl
        have hcz17_1 : wr.cell? ⟨gb557, 1, none⟩ = some (.string a0_1) := (blk_cell BK557.out 1).trans rfl
        have hfz17_0 := blk_frozen BK557.out 0
        have hfz17_1 := blk_frozen BK557.out 1
        go_wp2_with (first | ((with_reducible refine gate_callee (f := 60) rfl ?_); refine goesL_ (some 20) rfl rfl Try.func60 (by kernel_rfl) rfl #[.agg #[.int .i64 a0_0, .string a0_1], .int .i64 x4_1] rfl zM ?_; (with_reducible refine (spec_l4Reverse.calls k1 a0_0 a0_1 x4_1 t562 t563 _ A13.out).mono ?_); rintro e w18 ⟨rfl, hb⟩; refine ⟨_, rfl, ?_⟩; have n0_ := Aside0.mk (Kd.R_below (zR HO_3.out) hb); have n1_ := Aside0.mk (blk_below (g := gb557) (o := .cells #[.int .i64 a0_0, .string a0_1] 26 (0, 0)) (zK BK557.out) hb); have n2_ := Aside0.mk (below_step (zG GE557.out) hb); clear HO_3; clear BK557; clear HB; have HO_3 := n0_; have BK557 := n1_; have HB := n2_; clear n0_ n1_ n2_; (try clear hb); (try clear hb2); (try clear hk); (try clear hi)) | ((with_reducible refine gate_callee (f := 70) rfl ?_); refine goesL_ (some 21) rfl rfl Try.func70 (by kernel_rfl) rfl #[.agg #[.int .i64 t562, .string t563]] rfl zM ?_; (with_reducible refine (spec_l4Acyclic.calls k1 t562 t563 true _ A14.out).mono ?_); rintro e w19 ⟨rfl, hb⟩; refine ⟨_, rfl, ?_⟩; have n0_ := Aside0.mk (Kd.R_below (zR HO_3.out) hb); have n1_ := Aside0.mk (blk_below (g := gb557) (o := .cells #[.int .i64 a0_0, .string a0_1] 26 (0, 0)) (zK BK557.out) hb); have n2_ := Aside0.mk (below_step (zG GE557.out) hb); clear HO_3; clear BK557; clear HB; have HO_3 := n0_; have BK557 := n1_; have HB := n2_; clear n0_ n1_ n2_; (try clear hb); (try clear hb2); (try clear hk); (try clear hi)) | ((with_reducible refine gate_builtin (b := .append) (xs := #[.tmp 22, .tmp 24]) rfl ?_); at_builtin; refine Kd.R_append (Kd.int .i64) (w0 := w) w.heap.size rfl (.tmp 22) (.tmp 24) 38 3 (.int .i64 0) 8 rfl Try.underlying38 info3 rfl (by decide) (by omega) u3 x3_1 x4_1 [.int .i64 x4_1] (fun _ => True) (fun _ => False) rfl rfl ?aP (fun _ hk => hk.elim) ?aF ?aO ?aB ?aS ?aL ?_; (case aP => exact rfl); (case aB => exact (zG GE557.out)); (case aF => exact (fun _ _ => trivial)); (case aO => exact (zR HO_3.out)); (case aS => exact (below_size (zG GE557.out))); (case aL => have := LMc16.out; omega); intro v566 w20 ho hb hg hat; rw [← Ny565.out] at ho; have n0_ := Aside0.mk (blk_grown (g := gb557) (o := .cells #[.int .i64 a0_0, .string a0_1] 26 (0, 0)) (zK BK557.out) hg (Kd.R_ne HO_3.out BK557.out (by decide))); have n1_ := Aside0.mk (hb); have n2_ := Aside0.mk (ho); clear BK557; clear HB; clear HO_3; have BK557 := n0_; have HB := n1_; have HO567 := n2_; clear n0_ n1_ n2_; clear ho hb hg hat))
        go_roundg k1
        case measure => have := HK1.out; omega
        case rel => exact ⟨(y565), (wrap64 (x4_1 + 1)), zF, H', ⟨by have := HK1.out; omega⟩, ⟨zR HO567.out⟩, ⟨zK BK557.out⟩, ⟨zG GE557.out⟩⟩
       ·rw [if_neg c16] at H
        exact absurd H (by simp)
      ·replace c15 := Bool.eq_false_iff.mpr c15
       subst c15
       have H1 : (spec_AcyclicSets.l0 k1 x3_1 (wrap64 (x4_1 + 1)) a0_0 a0_1) = some r := by rw [if_neg (show ¬ (false = true) by decide)] at H; exact H
       clear H
       have H := H1
       clear H1
       have H' := Aside0.mk H
       clear H
       have hcz21_0 : wr.cell? ⟨gb557, 0, none⟩ = some (.int .i64 a0_0) := (blk_cell BK557.out 0).trans rfl
       have hcz21_1 : wr.cell? ⟨gb557, 1, none⟩ = some (.string a0_1) := (blk_cell BK557.out 1).trans rfl
       have hfz21_0 := blk_frozen BK557.out 0
       have hfz21_1 := blk_frozen BK557.out 1
       go_wp2_with (first | ((with_reducible refine gate_callee (f := 60) rfl ?_); refine goesL_ (some 20) rfl rfl Try.func60 (by kernel_rfl) rfl #[.agg #[.int .i64 a0_0, .string a0_1], .int .i64 x4_1] rfl zM ?_; (with_reducible refine (spec_l4Reverse.calls k1 a0_0 a0_1 x4_1 t562 t563 _ A13.out).mono ?_); rintro e w22 ⟨rfl, hb⟩; refine ⟨_, rfl, ?_⟩; have n0_ := Aside0.mk (Kd.R_below (zR HO_3.out) hb); have n1_ := Aside0.mk (blk_below (g := gb557) (o := .cells #[.int .i64 a0_0, .string a0_1] 26 (0, 0)) (zK BK557.out) hb); have n2_ := Aside0.mk (below_step (zG GE557.out) hb); clear HO_3; clear BK557; clear HB; have HO_3 := n0_; have BK557 := n1_; have HB := n2_; clear n0_ n1_ n2_; (try clear hb); (try clear hb2); (try clear hk); (try clear hi)) | ((with_reducible refine gate_callee (f := 70) rfl ?_); refine goesL_ (some 21) rfl rfl Try.func70 (by kernel_rfl) rfl #[.agg #[.int .i64 t562, .string t563]] rfl zM ?_; (with_reducible refine (spec_l4Acyclic.calls k1 t562 t563 false _ A14.out).mono ?_); rintro e w23 ⟨rfl, hb⟩; refine ⟨_, rfl, ?_⟩; have n0_ := Aside0.mk (Kd.R_below (zR HO_3.out) hb); have n1_ := Aside0.mk (blk_below (g := gb557) (o := .cells #[.int .i64 a0_0, .string a0_1] 26 (0, 0)) (zK BK557.out) hb); have n2_ := Aside0.mk (below_step (zG GE557.out) hb); clear HO_3; clear BK557; clear HB; have HO_3 := n0_; have BK557 := n1_; have HB := n2_; clear n0_ n1_ n2_; (try clear hb); (try clear hb2); (try clear hk); (try clear hi)))
       go_roundg k1
       case measure => have := HK1.out; omega
       case rel => exact ⟨(x3_1), (wrap64 (x4_1 + 1)), zF, H', ⟨by have := HK1.out; omega⟩, ⟨zR HO_3.out⟩, ⟨zK BK557.out⟩, ⟨zG GE557.out⟩⟩
     ·rw [if_neg c12] at H
      have c12b0 : decide (x4_1 < (ji11)) = false := decide_eq_false c12
      clear c12
      obtain rfl := Option.some.inj H
      have hcz24_0 : wr.cell? ⟨gb557, 0, none⟩ = some (.int .i64 a0_0) := (blk_cell BK557.out 0).trans rfl
      have hcz24_1 : wr.cell? ⟨gb557, 1, none⟩ = some (.string a0_1) := (blk_cell BK557.out 1).trans rfl
      have hfz24_0 := blk_frozen BK557.out 0
      have hfz24_1 := blk_frozen BK557.out 1
      go_wp2
      go_ret
      exact ⟨_, by first | rfl | (simp [errW_none, errW_some] <;> rfl) | (simp only [← hji9, ← hji11]; first | rfl | (simp [errW_none, errW_some] <;> rfl)) | (simp [*, errW_none, errW_some] <;> rfl), zR HO_3.out, zG GE557.out⟩
    ·rw [if_neg c10] at H
     exact absurd H (by simp)
 ·replace c3 := Bool.eq_false_iff.mpr c3
  subst c3
  have H1 : (some y558) = some r := by rw [if_neg (show ¬ (false = true) by decide)] at H; exact H
  clear H
  have H := H1
  clear H1
  obtain rfl := Option.some.inj H
  go_enter Try.func43, Try.ntmps43
  go_wp2_with (first | ((with_reducible refine gate_dst (N := 1) rfl ?_); refine box_event ?hg (N := 1) ?hd (cs := #[.int .i64 a0_0, .string a0_1]) (t := 26) ?hr ?_; (case hd => rfl); (case hg => rfl); (case hr => first | (go_simp; done) | (go_simp; rfl)); intro gb557 hg w25 hbox hb; have n0_ := Aside0.mk (below_step zB hb); have n1_ := Aside0.mk (hbox); have n2_ := Aside0.mk ((by rw [hg]; exact (below_size zB) : w.heap.size ≤ gb557)); have n3_ := Aside0.mk ((by rw [hg]; exact (below_size zB) : w.heap.size ≤ gb557)); clear HB; have HB := n0_; have BK557 := n1_; have GW557 := n2_; have GE557 := n3_; clear n0_ n1_ n2_ n3_; clear hb hbox hg) | ((with_reducible refine gate_dst (N := 5) rfl ?_); refine Kd.R_lit (Kd.int .i64) _ 3 ?hg (N := 5) ?hd (xs := ([] : List Int)) (inner := []) (ok := fun _ => True) (okp := fun _ => True) ?hr ?hp (fun _ hk => hk) trivial (Below.refl _ _) (Nat.le_refl _) (by simp) ?_; (case hd => rfl); (case hg => rfl); (case hr => first | (go_simp; done) | (go_simp; rfl)); (case hp => exact (Reps.none _ _)); intro v559 w26 ho27 hb hg_ hnew_; clear hg_ hnew_; (first | rw [← Ny558.out] at ho27 | (simp only [Int.reduceToNat] at ho27; rw [← Ny558.out] at ho27)); have n0_ := Aside0.mk (Kd.R_lower ho27 (below_size (zG GE557.out))); have n1_ := Aside0.mk (blk_below (g := gb557) (o := .cells #[.int .i64 a0_0, .string a0_1] 26 (0, 0)) (zK BK557.out) hb); have n2_ := Aside0.mk (below_step (zG GE557.out) hb); clear BK557; clear HB; have HO560 := n0_; have BK557 := n1_; have HB := n2_; clear n0_ n1_ n2_; clear hb ho27; have hcz28_0 : w26.cell? ⟨gb557, 0, none⟩ = some (.int .i64 a0_0) := (blk_cell BK557.out 0).trans rfl; have hcz28_1 : w26.cell? ⟨gb557, 1, none⟩ = some (.string a0_1) := (blk_cell BK557.out 1).trans rfl; have hfz28_0 := blk_frozen BK557.out 0; have hfz28_1 := blk_frozen BK557.out 1) | ((with_reducible refine gate_callee (f := 29) rfl ?_); refine goesL_ (some 7) rfl rfl Try.func29 (by kernel_rfl) rfl #[.agg #[.int .i64 a0_0, .string a0_1]] rfl zM ?_; (with_reducible refine (spec_IsMatroid.calls k a0_0 a0_1 false _ A2.out).mono ?_); rintro e w29 ⟨rfl, hb⟩; refine ⟨_, rfl, ?_⟩; have n0_ := Aside0.mk (Kd.R_below (zR HO560.out) hb); have n1_ := Aside0.mk (blk_below (g := gb557) (o := .cells #[.int .i64 a0_0, .string a0_1] 26 (0, 0)) (zK BK557.out) hb); have n2_ := Aside0.mk (below_step (zG GE557.out) hb); clear HO560; clear BK557; clear HB; have HO560 := n0_; have BK557 := n1_; have HB := n2_; clear n0_ n1_ n2_; (try clear hb); (try clear hb2); (try clear hk); (try clear hi)))
  go_ret
  exact ⟨_, zE, zR HO560.out, zG GE557.out⟩
/-! ### impl_AcyclicSets: function 44 -/
mutual
def impl_AcyclicSets.l0 : Nat → List Int → Int → Int → ByteArray → Option (List Int)
 | 0, _, _, _, _ => none
 | k + 1, x3, x4, x569000, x569001 => if 0 ≤ x569000 then (if x4 < (shl .i64 1 x569000) then ((impl_tableOf.f k x569000 x569001).bind fun t570 => (impl_AcyclicSets.l1 k x3 x4 t570 0 x569000 x569001)) else (some x3)) else (none)
def impl_AcyclicSets.l1 : Nat → List Int → Int → List Int → Int → Int → ByteArray → Option (List Int)
 | 0, _, _, _, _, _, _ => none
 | k + 1, x3, x4, x5, x6, x569000, x569001 => if x6 < x569000 then (if 0 ≤ x6 then (if (Go.bits .and .i64 (shr .i64 x4 x6) 1) = 1 then (if x5.length = 344 then ((impl_chi_reverse.f k x5 x6).bind fun t573 => (impl_AcyclicSets.l1 k x3 x4 t573 (wrap64 (x6 + 1)) x569000 x569001)) else (none)) else (impl_AcyclicSets.l1 k x3 x4 x5 (wrap64 (x6 + 1)) x569000 x569001)) else (none)) else (if x5.length = 344 then ((impl_chi_isAcyclic.f k x5).bind fun t574 => (if t574 = true then (if x3.length < 17592186044416 then (impl_AcyclicSets.l0 k (x3 ++ [x4]) (wrap64 (x4 + 1)) x569000 x569001) else (none)) else (impl_AcyclicSets.l0 k x3 (wrap64 (x4 + 1)) x569000 x569001))) else (none))
end
def impl_AcyclicSets.f (k : Nat) (a0_0 : Int) (a0_1 : ByteArray) : Option (List Int) := (impl_IsMatroid.f a0_0 a0_1).bind fun t569 => (if t569 = true then (impl_AcyclicSets.l0 k ([] : List Int) 0 a0_0 a0_1) else (some ([] : List Int)))
theorem impl_AcyclicSets.mono_l : ∀ k, (∀ y0 y1 y2 y3, LeO (impl_AcyclicSets.l0 k y0 y1 y2 y3) (impl_AcyclicSets.l0 (k + 1) y0 y1 y2 y3)) ∧ (∀ y0 y1 y2 y3 y4 y5, LeO (impl_AcyclicSets.l1 k y0 y1 y2 y3 y4 y5) (impl_AcyclicSets.l1 (k + 1) y0 y1 y2 y3 y4 y5))
 | 0 => ⟨fun _ _ _ _ r h => by simp [impl_AcyclicSets.l0] at h, fun _ _ _ _ _ _ r h => by simp [impl_AcyclicSets.l1] at h⟩
 | k + 1 => by
  obtain ⟨ih0, ih1⟩ := impl_AcyclicSets.mono_l k
  refine ⟨?_, ?_⟩
  ·intro y0 y1 y2 y3
   unfold impl_AcyclicSets.l0
   repeat' first
   | (with_reducible exact ih0 _ _ _ _)
   | (with_reducible exact ih1 _ _ _ _ _ _)
   | (with_reducible exact impl_chi_isAcyclic.mono _ _)
   | (with_reducible exact impl_chi_reverse.mono _ _ _)
   | (with_reducible exact impl_tableOf.mono _ _ _)
   | (with_reducible exact LeO.refl _)
   | (with_reducible exact LeO.none _)
   | (with_reducible refine LeO.ite ?_ ?_)
   | (with_reducible refine LeO.bind ?_ (fun _ => ?_))
   | exact ih0 _ _ _ _
   | exact ih1 _ _ _ _ _ _
   | exact impl_chi_isAcyclic.mono _ _
   | exact impl_chi_reverse.mono _ _ _
   | exact impl_tableOf.mono _ _ _
   | exact LeO.none _
   | refine LeO.ite ?_ ?_
   | refine LeO.bind ?_ (fun _ => ?_)
  ·intro y0 y1 y2 y3 y4 y5
   unfold impl_AcyclicSets.l1
   repeat' first
   | (with_reducible exact ih0 _ _ _ _)
   | (with_reducible exact ih1 _ _ _ _ _ _)
   | (with_reducible exact impl_chi_isAcyclic.mono _ _)
   | (with_reducible exact impl_chi_reverse.mono _ _ _)
   | (with_reducible exact impl_tableOf.mono _ _ _)
   | (with_reducible exact LeO.refl _)
   | (with_reducible exact LeO.none _)
   | (with_reducible refine LeO.ite ?_ ?_)
   | (with_reducible refine LeO.bind ?_ (fun _ => ?_))
   | exact ih0 _ _ _ _
   | exact ih1 _ _ _ _ _ _
   | exact impl_chi_isAcyclic.mono _ _
   | exact impl_chi_reverse.mono _ _ _
   | exact impl_tableOf.mono _ _ _
   | exact LeO.none _
   | refine LeO.ite ?_ ?_
   | refine LeO.bind ?_ (fun _ => ?_)
theorem impl_AcyclicSets.mono : ∀ a0 a1 k, LeO (impl_AcyclicSets.f k a0 a1) (impl_AcyclicSets.f (k + 1) a0 a1) := by
 intro a0 a1 k
 obtain ⟨ih0, ih1⟩ := impl_AcyclicSets.mono_l k
 unfold impl_AcyclicSets.f
 repeat' first
   | (with_reducible exact ih0 _ _ _ _)
   | (with_reducible exact ih1 _ _ _ _ _ _)
   | (with_reducible exact impl_chi_isAcyclic.mono _ _)
   | (with_reducible exact impl_chi_reverse.mono _ _ _)
   | (with_reducible exact impl_tableOf.mono _ _ _)
   | (with_reducible exact LeO.refl _)
   | (with_reducible exact LeO.none _)
   | (with_reducible refine LeO.ite ?_ ?_)
   | (with_reducible refine LeO.bind ?_ (fun _ => ?_))
   | exact ih0 _ _ _ _
   | exact ih1 _ _ _ _ _ _
   | exact impl_chi_isAcyclic.mono _ _
   | exact impl_chi_reverse.mono _ _ _
   | exact impl_tableOf.mono _ _ _
   | exact LeO.none _
   | refine LeO.ite ?_ ?_
   | refine LeO.bind ?_ (fun _ => ?_)
set_option maxHeartbeats 8000000 in
set_option maxRecDepth 100000 in
theorem impl_AcyclicSets.calls (k : Nat) (a0_0 : Int) (a0_1 : ByteArray) (r : List Int) (w : World) (h : impl_AcyclicSets.f k a0_0 a0_1 = some r) :
  Calls Try.prog 44 #[.agg #[.int .i64 a0_0, .string a0_1]] w fun e w' => ∃ v0_ : Value, e = .returned (v0_) ∧ Kd.R (Kd.int .i64) 3 w' w.heap.size (fun _ => True) v0_ r ∧ Below w.heap.size w w' := by
 have hu26 := Try.underlying26
 have HB := Aside0.mk (Below.refl w.heap.size w)
 have H : ((impl_IsMatroid.f a0_0 a0_1).bind fun t569 => (if t569 = true then (impl_AcyclicSets.l0 k ([] : List Int) 0 a0_0 a0_1) else (some ([] : List Int)))) = some r := h
 clear h
 replace H := Option.bind_eq_some_iff.mp H
 obtain ⟨t569, A20, H⟩ := H
 replace H : (if t569 = true then (impl_AcyclicSets.l0 k ([] : List Int) 0 a0_0 a0_1) else (some ([] : List Int))) = some r := H
 have A2 := Aside0.mk A20
 clear A20
 by_cases c3 : t569 = true
 ·subst c3
  have H1 : (impl_AcyclicSets.l0 k ([] : List Int) 0 a0_0 a0_1) = some r := by rw [if_pos rfl] at H; exact H
  clear H
  have H := H1
  clear H1
  have H' := Aside0.mk H
  clear H
  go_enter Try.func44, Try.ntmps44
  go_wp2_with (first | ((with_reducible refine gate_dst (N := 1) rfl ?_); refine box_event ?hg (N := 1) ?hd (cs := #[.int .i64 a0_0, .string a0_1]) (t := 26) ?hr ?_; (case hd => rfl); (case hg => rfl); (case hr => first | (go_simp; done) | (go_simp; rfl)); intro gb568 hg w4 hbox hb; have n0_ := Aside0.mk (below_step zB hb); have n1_ := Aside0.mk (hbox); have n2_ := Aside0.mk ((by rw [hg]; exact (below_size zB) : w.heap.size ≤ gb568)); have n3_ := Aside0.mk ((by rw [hg]; exact (below_size zB) : w.heap.size ≤ gb568)); clear HB; have HB := n0_; have BK568 := n1_; have GW568 := n2_; have GE568 := n3_; clear n0_ n1_ n2_ n3_; clear hb hbox hg; have hcz5_0 : w4.cell? ⟨gb568, 0, none⟩ = some (.int .i64 a0_0) := (blk_cell BK568.out 0).trans rfl; have hcz5_1 : w4.cell? ⟨gb568, 1, none⟩ = some (.string a0_1) := (blk_cell BK568.out 1).trans rfl; have hfz5_0 := blk_frozen BK568.out 0; have hfz5_1 := blk_frozen BK568.out 1) | ((with_reducible refine gate_callee (f := 30) rfl ?_); refine goesL_ (some 8) rfl rfl Try.func30 (by kernel_rfl) rfl #[.agg #[.int .i64 a0_0, .string a0_1]] rfl zM ?_; (with_reducible refine (impl_IsMatroid.calls a0_0 a0_1 true _ A2.out).mono ?_); rintro e w6 ⟨rfl, hb⟩; refine ⟨_, rfl, ?_⟩; have n0_ := Aside0.mk (blk_below (g := gb568) (o := .cells #[.int .i64 a0_0, .string a0_1] 26 (0, 0)) (zK BK568.out) hb); have n1_ := Aside0.mk (below_step (zG GE568.out) hb); clear BK568; clear HB; have BK568 := n0_; have HB := n1_; clear n0_ n1_; (try clear hb); (try clear hb2); (try clear hk); (try clear hi)))
  go_loopg [3, 4] k (fun kq v3 v4 w' => ∃ (x3_1 : List Int) (x4_1 : Int), v4 = .int .i64 x4_1 ∧ Aside0 (impl_AcyclicSets.l0 kq x3_1 x4_1 a0_0 a0_1 = some r) ∧ Aside0 (kq ≤ k) ∧ Aside0 (Kd.R (Kd.int .i64) 3 w' w.heap.size (fun _ => True) v3 x3_1) ∧ Aside0 (w'.heap[gb568]? = some (.cells #[.int .i64 a0_0, .string a0_1] 26 (0, 0))) ∧ Aside0 (Below w.heap.size w w'))
  case atStart => exact ⟨(([] : List Int)), (0), zF, H', ⟨Nat.le_refl _⟩, ⟨by first | exact Kd.R_nil _ _ _ _ _ | exact Kd.N_nil _ _ _ _ _ | exact Kd.V_nil _ _ _ _ _ | exact Kd.Q_nil _ _ _ _ _ | exact Kd.S_nil _ _ _ _ _⟩, ⟨zK BK568.out⟩, ⟨zG GE568.out⟩⟩
  case round =>
   clear H'
   try clear p2
   try clear c3
   try clear c4
   try clear hcz5_0
   try clear hcz5_1
   try clear hfz5_0
   try clear hfz5_1
   obtain ⟨x3_1, x4_1, rfl, HA, HK1, HO_3, BK568, HB⟩ := hrel
   cases gk with
   | zero => exact absurd HA.out (by simp [impl_AcyclicSets.l0])
   | succ k1 =>
    have H := HA.out
    clear HA
    simp only [impl_AcyclicSets.l0] at H
    by_cases c7 : 0 ≤ a0_0
    ·rw [if_pos c7] at H
     have c7b0 := eq_true c7
     have c7b1 : decide (0 ≤ a0_0) = true := decide_eq_true c7
     clear c7
     obtain ⟨ji8, hji8⟩ : ∃ j_ : Int, (shl .i64 1 a0_0) = j_ := ⟨_, rfl⟩
     replace H : (if x4_1 < (ji8) then ((impl_tableOf.f k1 a0_0 a0_1).bind fun t570 => (impl_AcyclicSets.l1 k1 x3_1 x4_1 t570 0 a0_0 a0_1)) else (some x3_1)) = some r := by first | (rw [hji8] at H; exact H) | (simp only [hji8] at H ⊢; exact H)
     have hji8_ : (IntKind.i64.wrap (1 * 2 ^ min a0_0.toNat 64)) = ji8 := hji8
     have hji8z : a0_0 ≤ 64 → (IntKind.i64.wrap (1 * 2 ^ a0_0.toNat)) = ji8 := shl_small hji8
     have hji8u : (IntKind.i64.wrap (2 ^ min a0_0.toNat 64)) = ji8 := by have h_ := hji8_; rw [Int.one_mul] at h_; exact h_
     have hji8v : a0_0 ≤ 64 → (IntKind.i64.wrap (2 ^ a0_0.toNat)) = ji8 := fun hle_ => by have h_ := hji8z hle_; rw [Int.one_mul] at h_; exact h_
     have hji8y : (wrap64 (1 * 2 ^ min a0_0.toNat 64)) = ji8 := (i64_w _).symm.trans hji8_
     have hji8x : a0_0 ≤ 64 → (wrap64 (1 * 2 ^ a0_0.toNat)) = ji8 := fun h_ => (i64_w _).symm.trans (hji8z h_)
     by_cases c9 : x4_1 < (ji8)
     ·rw [if_pos c9] at H
      have c9b0 : decide (x4_1 < (ji8)) = true := decide_eq_true c9
      clear c9
      replace H := Option.bind_eq_some_iff.mp H
      obtain ⟨t570, A100, H⟩ := H
      replace H : (impl_AcyclicSets.l1 k1 x3_1 x4_1 t570 0 a0_0 a0_1) = some r := H
      have A10 := Aside0.mk A100
      clear A100
      have H' := Aside0.mk H
      clear H
      have hcz11_0 : wr.cell? ⟨gb568, 0, none⟩ = some (.int .i64 a0_0) := (blk_cell BK568.out 0).trans rfl
      have hcz11_1 : wr.cell? ⟨gb568, 1, none⟩ = some (.string a0_1) := (blk_cell BK568.out 1).trans rfl
      have hfz11_0 := blk_frozen BK568.out 0
      have hfz11_1 := blk_frozen BK568.out 1
      go_wp2_with (first | ((with_reducible refine gate_callee (f := 55) rfl ?_); refine goesL_ (some 18) rfl rfl Try.func55 (by kernel_rfl) rfl #[.agg #[.int .i64 a0_0, .string a0_1]] rfl zM ?_; (with_reducible refine (impl_tableOf.calls k1 a0_0 a0_1 t570 _ A10.out).mono ?_); rintro e w12 ⟨v571, rfl, ho0, hb⟩; refine ⟨_, rfl, ?_⟩; have n0_ := Aside0.mk (Kd.R_below (zR HO_3.out) hb); have n1_ := Aside0.mk (Kd.R_lower ho0 (below_size (zG GE568.out))); have n2_ := Aside0.mk (blk_below (g := gb568) (o := .cells #[.int .i64 a0_0, .string a0_1] 26 (0, 0)) (zK BK568.out) hb); have n3_ := Aside0.mk (below_step (zG GE568.out) hb); clear HO_3; clear BK568; clear HB; have HO_3 := n0_; have HO572 := n1_; have BK568 := n2_; have HB := n3_; clear n0_ n1_ n2_ n3_; (try clear hb); (try clear hb2); (try clear hk); (try clear hi); (try clear ho0)))
      go_loopg [6] k1 (fun kq v6 w' => ∃ (x5_2 : List Int) (x6_2 : Int), v6 = .int .i64 x6_2 ∧ Aside0 (impl_AcyclicSets.l1 kq x3_1 x4_1 x5_2 x6_2 a0_0 a0_1 = some r) ∧ Aside0 (kq ≤ k1) ∧ Aside0 (Kd.R (Kd.int .i64) 3 w' w.heap.size (fun _ => True) u3 x3_1) ∧ Aside0 (Kd.R (Kd.int .i64) 54 w' w.heap.size (fun _ => True) v571 x5_2) ∧ Aside0 (w'.heap[gb568]? = some (.cells #[.int .i64 a0_0, .string a0_1] 26 (0, 0))) ∧ Aside0 (Below w.heap.size w w'))
      case atStart => exact ⟨(t570), (0), zF, H', ⟨Nat.le_refl _⟩, ⟨zR HO_3.out⟩, ⟨zR HO572.out⟩, ⟨zK BK568.out⟩, ⟨zG GE568.out⟩⟩
      case round =>
       clear H'
       try clear p2
       try clear c3
       try clear c4
       try clear c5
       try clear p6
       try clear c7
       try clear c7b0
       try clear c7b1
       try clear c9
       try clear c9b0
       try clear hcz11_0
       try clear hcz11_1
       try clear hcz5_0
       try clear hcz5_1
       try clear hfz11_0
       try clear hfz11_1
       try clear hfz5_0
       try clear hfz5_1
       try clear p2
       obtain ⟨x5_2, x6_2, rfl, HA, HK2, HO_3, HO_5, BK568, HB⟩ := hrel
       cases gk with
       | zero => exact absurd HA.out (by simp [impl_AcyclicSets.l1])
       | succ k2 =>
        have H := HA.out
        clear HA
        simp only [impl_AcyclicSets.l1] at H
        by_cases c13 : x6_2 < a0_0
        ·rw [if_pos c13] at H
         have c13b0 : decide (x6_2 < a0_0) = true := decide_eq_true c13
         clear c13
         by_cases c14 : 0 ≤ x6_2
         ·rw [if_pos c14] at H
          have c14b0 := eq_true c14
          have c14b1 : decide (0 ≤ x6_2) = true := decide_eq_true c14
          clear c14
          obtain ⟨ji15, hji15⟩ : ∃ j_ : Int, (shr .i64 x4_1 x6_2) = j_ := ⟨_, rfl⟩
          replace H : (if (Go.bits .and .i64 (ji15) 1) = 1 then (if x5_2.length = 344 then ((impl_chi_reverse.f k2 x5_2 x6_2).bind fun t573 => (impl_AcyclicSets.l1 k2 x3_1 x4_1 t573 (wrap64 (x6_2 + 1)) a0_0 a0_1)) else (none)) else (impl_AcyclicSets.l1 k2 x3_1 x4_1 x5_2 (wrap64 (x6_2 + 1)) a0_0 a0_1)) = some r := by first | (rw [hji15] at H; exact H) | (simp only [hji15] at H ⊢; exact H)
          have hji15_ : (x4_1 / 2 ^ min x6_2.toNat 64) = ji15 := hji15
          have hji15z : x6_2 ≤ 64 → (x4_1 / 2 ^ x6_2.toNat) = ji15 := shr_small hji15
          by_cases c16 : (Go.bits .and .i64 (ji15) 1) = 1
          ·rw [if_pos c16] at H
           have c16b0 : ((Go.bits .and .i64 (ji15) 1) == 1) = true := beq_iff_eq.mpr c16
           have c16b1 : ((Go.bits .and .i64 (ji15) 1) != 1) = false := bne_eq_false_iff_eq.mpr c16
           clear c16
           by_cases c17 : x5_2.length = 344
           ·rw [if_pos c17] at H
            have c17b0 := eq_true c17
            have c17b1 : decide (x5_2.length = 344) = true := decide_eq_true c17
            clear c17
            replace H := Option.bind_eq_some_iff.mp H
            obtain ⟨t573, A180, H⟩ := H
            replace H : (impl_AcyclicSets.l1 k2 x3_1 x4_1 t573 (wrap64 (x6_2 + 1)) a0_0 a0_1) = some r := H
            have A18 := Aside0.mk A180
            clear A180
            have H' := Aside0.mk H
            clear H
            have hcz19_0 : wr.cell? ⟨gb568, 0, none⟩ = some (.int .i64 a0_0) := (blk_cell BK568.out 0).trans rfl
            have hcz19_1 : wr.cell? ⟨gb568, 1, none⟩ = some (.string a0_1) := (blk_cell BK568.out 1).trans rfl
            have hfz19_0 := blk_frozen BK568.out 0
            have hfz19_1 := blk_frozen BK568.out 1
            obtain ⟨go20, co20, eo20, gb20, gl20, cl20, HG20⟩ := Kd.R_form HO_5.out (by have hl_ := Nat.le_of_eq (Eq.symm (zA : x5_2.length = 344)); omega)
            (first | cases eo20 | (injection eo20 with ea_ en_ ec_; (first | subst ea_ | (injection ea_ with ea_; subst ea_)); subst ec_; clear en_))
            have GB20 := Aside0.mk gb20
            have GG20 := Aside0.mk HG20
            clear gb20 gl20 HG20
            go_wp2_with (first | ((with_reducible refine gate_callee (f := 61) rfl ?_); refine goesL_ (some 32) rfl rfl Try.func61 (by kernel_rfl) rfl #[.pointer (some ⟨go20, 0, none⟩), .int .i64 x6_2] rfl zM ?_; (with_reducible refine (impl_chi_reverse.calls k2 (fun k_ => some k_ = (.slice (some ⟨go20, 0, none⟩) x5_2.length co20 : Value).ownBlock) (.slice (some ⟨go20, 0, none⟩) x5_2.length co20) x5_2 x6_2 t573 w _ ?side1 ?side2 A18.out).mono ?_); (case side1 => repeat (first | (with_reducible first | exact HB.out | apply below_alloc | apply pw_below_drewN | apply below_drew1 | refine below_set ?_ GE568.out) | exact HB.out)); (case side2 => exact Kd.R_tight rfl HO_5.out); rintro e w21 ⟨rfl, hy0, hb, hkp⟩; refine ⟨_, rfl, ?_⟩; have n0_ := Aside0.mk (Kd.R_mono (ok' := fun k_ => True) (Kd.R_keptB ((Kd.R_apart' HO_3.out (Kd.R_typed HO_5.out) (by decide))) hkp (fun k_ hk_ hs_ => (hk_.2) hs_)) (fun k_ hk_ => trivial)); have n1_ := Aside0.mk (Kd.R_reok rfl hy0 (fun k_ e_ => HO_5.out.1 k_ e_)); have n2_ := Aside0.mk (blk_kept (zK BK568.out) hkp (fun hs_ => (fun e_ => (Kd.R_ne HO_5.out BK568.out (by decide)) e_) hs_)); have n3_ := Aside0.mk (hb); clear HO_3; clear HO_5; clear BK568; clear HB; have HO_3 := n0_; have HO_5 := n1_; have BK568 := n2_; have HB := n3_; clear n0_ n1_ n2_ n3_; (try clear hb); (try clear hkp); (try clear hy0)))
            go_roundg k2
            case measure => have := HK1.out; have := HK2.out; omega
            case rel => exact ⟨(t573), (wrap64 (x6_2 + 1)), zF, H', ⟨by have := HK1.out; have := HK2.out; omega⟩, ⟨zR HO_3.out⟩, ⟨zR HO_5.out⟩, ⟨zK BK568.out⟩, ⟨zG GE568.out⟩⟩
           ·rw [if_neg c17] at H
            exact absurd H (by simp)
          ·rw [if_neg c16] at H
           have c16b0 : ((Go.bits .and .i64 (ji15) 1) == 1) = false := beq_eq_false_iff_ne.mpr c16
           have c16b1 : ((Go.bits .and .i64 (ji15) 1) != 1) = true := bne_iff_ne.mpr c16
           have H' := Aside0.mk H
           clear H
           have hcz22_0 : wr.cell? ⟨gb568, 0, none⟩ = some (.int .i64 a0_0) := (blk_cell BK568.out 0).trans rfl
           have hcz22_1 : wr.cell? ⟨gb568, 1, none⟩ = some (.string a0_1) := (blk_cell BK568.out 1).trans rfl
           have hfz22_0 := blk_frozen BK568.out 0
           have hfz22_1 := blk_frozen BK568.out 1
           go_wp2
           go_roundg k2
           case measure => have := HK1.out; have := HK2.out; omega
           case rel => exact ⟨(x5_2), (wrap64 (x6_2 + 1)), zF, H', ⟨by have := HK1.out; have := HK2.out; omega⟩, ⟨zR HO_3.out⟩, ⟨zR HO_5.out⟩, ⟨zK BK568.out⟩, ⟨zG GE568.out⟩⟩
         ·rw [if_neg c14] at H
          exact absurd H (by simp)
        ·rw [if_neg c13] at H
         have c13b0 : decide (x6_2 < a0_0) = false := decide_eq_false c13
         clear c13
         by_cases c23 : x5_2.length = 344
         ·rw [if_pos c23] at H
          have c23b0 := eq_true c23
          have c23b1 : decide (x5_2.length = 344) = true := decide_eq_true c23
          clear c23
          replace H := Option.bind_eq_some_iff.mp H
          obtain ⟨t574, A240, H⟩ := H
          replace H : (if t574 = true then (if x3_1.length < 17592186044416 then (impl_AcyclicSets.l0 k2 (x3_1 ++ [x4_1]) (wrap64 (x4_1 + 1)) a0_0 a0_1) else (none)) else (impl_AcyclicSets.l0 k2 x3_1 (wrap64 (x4_1 + 1)) a0_0 a0_1)) = some r := H
          have A24 := Aside0.mk A240
          clear A240
          by_cases c25 : t574 = true
          ·subst c25
           have H1 : (if x3_1.length < 17592186044416 then (impl_AcyclicSets.l0 k2 (x3_1 ++ [x4_1]) (wrap64 (x4_1 + 1)) a0_0 a0_1) else (none)) = some r := by rw [if_pos rfl] at H; exact H
           clear H
           have H := H1
           clear H1
           by_cases c26 : x3_1.length < 17592186044416
           ·rw [if_pos c26] at H
            have LMc26 := Aside0.mk c26
            clear c26
            obtain ⟨y575, hy575⟩ : ∃ y_ : List Int, y_ = (x3_1 ++ [x4_1]) := ⟨_, rfl⟩
            replace H : (impl_AcyclicSets.l0 k2 y575 (wrap64 (x4_1 + 1)) a0_0 a0_1) = some r := by first | (rw [hy575]; with_reducible exact H) | (have H2_ := (Option.bind_some _ _).symm.trans H; rw [hy575]; with_reducible exact H2_) | (have H2_ := (Option.bind_some _ _).symm.trans H; with_reducible exact H2_) | with_reducible exact H | (rw [hy575]; exact H) | exact H
            have Ny575 := Aside0.mk hy575
            clear hy575
            have H' := Aside0.mk H
            clear H
            have hcz27_0 : wr.cell? ⟨gb568, 0, none⟩ = some (.int .i64 a0_0) := (blk_cell BK568.out 0).trans rfl
            have hcz27_1 : wr.cell? ⟨gb568, 1, none⟩ = some (.string a0_1) := (blk_cell BK568.out 1).trans rfl
            have hfz27_0 := blk_frozen BK568.out 0
            have hfz27_1 := blk_frozen BK568.out 1
            obtain ⟨go28, co28, eo28, gb28, gl28, cl28, HG28⟩ := Kd.R_form HO_5.out (by have hl_ := Nat.le_of_eq (Eq.symm (zA : x5_2.length = 344)); omega)
            (first | cases eo28 | (injection eo28 with ea_ en_ ec_; (first | subst ea_ | (injection ea_ with ea_; subst ea_)); subst ec_; clear en_))
            have GB28 := Aside0.mk gb28
            have GG28 := Aside0.mk HG28
            clear gb28 gl28 HG28
            go_wp2_with (first | ((with_reducible refine gate_callee (f := 71) rfl ?_); refine goesL_ (some 34) rfl rfl Try.func71 (by kernel_rfl) rfl #[.pointer (some ⟨go28, 0, none⟩)] rfl zM ?_; (with_reducible refine (impl_chi_isAcyclic.calls k2 _ x5_2 true _ ?side1 ?side2 A24.out).mono ?_); (case side1 => repeat (first | exact (Kd.R_reads' HO_5.out).2.2 | (with_reducible refine Kd.C_alloc ?_ _) | (with_reducible refine Kd.C_drewN ?_ _) | (with_reducible refine Kd.C_drew ?_))); (case side2 => exact (zA : x5_2.length = 344)); rintro e w29 ⟨rfl, hb⟩; refine ⟨_, rfl, ?_⟩; have n0_ := Aside0.mk (Kd.R_below (zR HO_3.out) hb); have n1_ := Aside0.mk (Kd.R_below (zR HO_5.out) hb); have n2_ := Aside0.mk (blk_below (g := gb568) (o := .cells #[.int .i64 a0_0, .string a0_1] 26 (0, 0)) (zK BK568.out) hb); have n3_ := Aside0.mk (below_step (zG GE568.out) hb); clear HO_3; clear HO_5; clear BK568; clear HB; have HO_3 := n0_; have HO_5 := n1_; have BK568 := n2_; have HB := n3_; clear n0_ n1_ n2_ n3_; (try clear hb); (try clear hb2); (try clear hk); (try clear hi)) | ((with_reducible refine gate_builtin (b := .append) (xs := #[.tmp 35, .tmp 37]) rfl ?_); at_builtin; refine Kd.R_append (Kd.int .i64) (w0 := w) w.heap.size rfl (.tmp 35) (.tmp 37) 38 3 (.int .i64 0) 8 rfl Try.underlying38 info3 rfl (by decide) (by omega) u3 x3_1 x4_1 [.int .i64 x4_1] (fun _ => True) (fun _ => False) rfl rfl ?aP (fun _ hk => hk.elim) ?aF ?aO ?aB ?aS ?aL ?_; (case aP => exact rfl); (case aB => exact (zG GE568.out)); (case aF => exact (fun _ _ => trivial)); (case aO => exact (zR HO_3.out)); (case aS => exact (below_size (zG GE568.out))); (case aL => have := LMc26.out; omega); intro v576 w30 ho hb hg hat; rw [← Ny575.out] at ho; have n0_ := Aside0.mk (Kd.R_over' (zR HO_5.out) (Kd.R_typed (zR HO_3.out)) (by decide) hg); have n1_ := Aside0.mk (blk_grown (g := gb568) (o := .cells #[.int .i64 a0_0, .string a0_1] 26 (0, 0)) (zK BK568.out) hg (Kd.R_ne HO_3.out BK568.out (by decide))); have n2_ := Aside0.mk (hb); have n3_ := Aside0.mk (ho); clear HO_5; clear BK568; clear HB; clear HO_3; have HO_5 := n0_; have BK568 := n1_; have HB := n2_; have HO577 := n3_; clear n0_ n1_ n2_ n3_; clear ho hb hg hat))
            go_roundg k2
            case measure => have := HK1.out; have := HK2.out; omega
            case rel => exact ⟨(y575), (wrap64 (x4_1 + 1)), zF, H', ⟨by have := HK1.out; have := HK2.out; omega⟩, ⟨zR HO577.out⟩, ⟨zK BK568.out⟩, ⟨zG GE568.out⟩⟩
           ·rw [if_neg c26] at H
            exact absurd H (by simp)
          ·replace c25 := Bool.eq_false_iff.mpr c25
           subst c25
           have H1 : (impl_AcyclicSets.l0 k2 x3_1 (wrap64 (x4_1 + 1)) a0_0 a0_1) = some r := by rw [if_neg (show ¬ (false = true) by decide)] at H; exact H
           clear H
           have H := H1
           clear H1
           have H' := Aside0.mk H
           clear H
           have hcz31_0 : wr.cell? ⟨gb568, 0, none⟩ = some (.int .i64 a0_0) := (blk_cell BK568.out 0).trans rfl
           have hcz31_1 : wr.cell? ⟨gb568, 1, none⟩ = some (.string a0_1) := (blk_cell BK568.out 1).trans rfl
           have hfz31_0 := blk_frozen BK568.out 0
           have hfz31_1 := blk_frozen BK568.out 1
           obtain ⟨go32, co32, eo32, gb32, gl32, cl32, HG32⟩ := Kd.R_form HO_5.out (by have hl_ := Nat.le_of_eq (Eq.symm (zA : x5_2.length = 344)); omega)
           (first | cases eo32 | (injection eo32 with ea_ en_ ec_; (first | subst ea_ | (injection ea_ with ea_; subst ea_)); subst ec_; clear en_))
           have GB32 := Aside0.mk gb32
           have GG32 := Aside0.mk HG32
           clear gb32 gl32 HG32
           go_wp2_with (first | ((with_reducible refine gate_callee (f := 71) rfl ?_); refine goesL_ (some 34) rfl rfl Try.func71 (by kernel_rfl) rfl #[.pointer (some ⟨go32, 0, none⟩)] rfl zM ?_; (with_reducible refine (impl_chi_isAcyclic.calls k2 _ x5_2 false _ ?side1 ?side2 A24.out).mono ?_); (case side1 => repeat (first | exact (Kd.R_reads' HO_5.out).2.2 | (with_reducible refine Kd.C_alloc ?_ _) | (with_reducible refine Kd.C_drewN ?_ _) | (with_reducible refine Kd.C_drew ?_))); (case side2 => exact (zA : x5_2.length = 344)); rintro e w33 ⟨rfl, hb⟩; refine ⟨_, rfl, ?_⟩; have n0_ := Aside0.mk (Kd.R_below (zR HO_3.out) hb); have n1_ := Aside0.mk (Kd.R_below (zR HO_5.out) hb); have n2_ := Aside0.mk (blk_below (g := gb568) (o := .cells #[.int .i64 a0_0, .string a0_1] 26 (0, 0)) (zK BK568.out) hb); have n3_ := Aside0.mk (below_step (zG GE568.out) hb); clear HO_3; clear HO_5; clear BK568; clear HB; have HO_3 := n0_; have HO_5 := n1_; have BK568 := n2_; have HB := n3_; clear n0_ n1_ n2_ n3_; (try clear hb); (try clear hb2); (try clear hk); (try clear hi)))
           go_roundg k2
           case measure => have := HK1.out; have := HK2.out; omega
           case rel => exact ⟨(x3_1), (wrap64 (x4_1 + 1)), zF, H', ⟨by have := HK1.out; have := HK2.out; omega⟩, ⟨zR HO_3.out⟩, ⟨zK BK568.out⟩, ⟨zG GE568.out⟩⟩
         ·rw [if_neg c23] at H
          exact absurd H (by simp)
     ·rw [if_neg c9] at H
      have c9b0 : decide (x4_1 < (ji8)) = false := decide_eq_false c9
      clear c9
      obtain rfl := Option.some.inj H
      have hcz34_0 : wr.cell? ⟨gb568, 0, none⟩ = some (.int .i64 a0_0) := (blk_cell BK568.out 0).trans rfl
      have hcz34_1 : wr.cell? ⟨gb568, 1, none⟩ = some (.string a0_1) := (blk_cell BK568.out 1).trans rfl
      have hfz34_0 := blk_frozen BK568.out 0
      have hfz34_1 := blk_frozen BK568.out 1
      go_wp2
      go_ret
      exact ⟨_, by first | rfl | (simp [errW_none, errW_some] <;> rfl) | (simp only [← hji8]; first | rfl | (simp [errW_none, errW_some] <;> rfl)) | (simp [*, errW_none, errW_some] <;> rfl), zR HO_3.out, zG GE568.out⟩
    ·rw [if_neg c7] at H
     exact absurd H (by simp)
 ·replace c3 := Bool.eq_false_iff.mpr c3
  subst c3
  have H1 : (some ([] : List Int)) = some r := by rw [if_neg (show ¬ (false = true) by decide)] at H; exact H
  clear H
  have H := H1
  clear H1
  obtain rfl := Option.some.inj H
  go_enter Try.func44, Try.ntmps44
  go_wp2_with (first | ((with_reducible refine gate_dst (N := 1) rfl ?_); refine box_event ?hg (N := 1) ?hd (cs := #[.int .i64 a0_0, .string a0_1]) (t := 26) ?hr ?_; (case hd => rfl); (case hg => rfl); (case hr => first | (go_simp; done) | (go_simp; rfl)); intro gb568 hg w35 hbox hb; have n0_ := Aside0.mk (below_step zB hb); have n1_ := Aside0.mk (hbox); have n2_ := Aside0.mk ((by rw [hg]; exact (below_size zB) : w.heap.size ≤ gb568)); have n3_ := Aside0.mk ((by rw [hg]; exact (below_size zB) : w.heap.size ≤ gb568)); clear HB; have HB := n0_; have BK568 := n1_; have GW568 := n2_; have GE568 := n3_; clear n0_ n1_ n2_ n3_; clear hb hbox hg; have hcz36_0 : w35.cell? ⟨gb568, 0, none⟩ = some (.int .i64 a0_0) := (blk_cell BK568.out 0).trans rfl; have hcz36_1 : w35.cell? ⟨gb568, 1, none⟩ = some (.string a0_1) := (blk_cell BK568.out 1).trans rfl; have hfz36_0 := blk_frozen BK568.out 0; have hfz36_1 := blk_frozen BK568.out 1) | ((with_reducible refine gate_callee (f := 30) rfl ?_); refine goesL_ (some 8) rfl rfl Try.func30 (by kernel_rfl) rfl #[.agg #[.int .i64 a0_0, .string a0_1]] rfl zM ?_; (with_reducible refine (impl_IsMatroid.calls a0_0 a0_1 false _ A2.out).mono ?_); rintro e w37 ⟨rfl, hb⟩; refine ⟨_, rfl, ?_⟩; have n0_ := Aside0.mk (blk_below (g := gb568) (o := .cells #[.int .i64 a0_0, .string a0_1] 26 (0, 0)) (zK BK568.out) hb); have n1_ := Aside0.mk (below_step (zG GE568.out) hb); clear BK568; clear HB; have BK568 := n0_; have HB := n1_; clear n0_ n1_; (try clear hb); (try clear hb2); (try clear hk); (try clear hi)))
  go_ret
  exact ⟨_, zE, by first | exact Kd.R_nil _ _ _ _ _ | exact Kd.N_nil _ _ _ _ _ | exact Kd.V_nil _ _ _ _ _ | exact Kd.Q_nil _ _ _ _ _ | exact Kd.S_nil _ _ _ _ _, zG GE568.out⟩
/-! ### laws_FnExactAcyclicSets: function 13 -/
def laws_FnExactAcyclicSets.f (k : Nat) (a0_0 : Int) (a0_1 : ByteArray) : Option (Bool) := (laws_szSigns.f a0_0 a0_1 1048576).bind fun t579 => (if t579 < 0 then (some true) else ((laws_toSigns.f a0_0 a0_1).bind fun bt580 => ((spec_AcyclicSets.f k bt580.1 bt580.2).bind fun t582 => ((laws_toSigns.f a0_0 a0_1).bind fun bt585 => ((impl_AcyclicSets.f k bt585.1 bt585.2).bind fun t587 => ((laws_eqIntS.f k t587 t582).bind fun t590 => (if t590 = true then ((laws_markIntS.f k t587 1).bind fun bt591 => ((laws_heldIntS.f k bt591.2 1).bind fun t593 => (if t593 < 0 then (some false) else (if t593 = bt591.1 then ((laws_toSigns.f a0_0 a0_1).bind fun bt594 => ((impl_AcyclicSets.f k bt594.1 bt594.2).bind fun t596 => ((laws_eqIntS.f k t596 t582).bind fun t599 => (if t599 = true then ((laws_heldIntS.f k bt591.2 1).bind fun t600 => (if t600 < 0 then (some false) else (if t600 = bt591.1 then (some true) else (some false)))) else (some false))))) else (some false))))) else (some false))))))))
theorem laws_FnExactAcyclicSets.mono : ∀ a0 a1 k, LeO (laws_FnExactAcyclicSets.f k a0 a1) (laws_FnExactAcyclicSets.f (k + 1) a0 a1) := by
 intro a0 a1 k
 unfold laws_FnExactAcyclicSets.f
 repeat' first
   | (with_reducible exact impl_AcyclicSets.mono _ _ _)
   | (with_reducible exact laws_eqIntS.mono _ _ _)
   | (with_reducible exact laws_heldIntS.mono _ _ _)
   | (with_reducible exact laws_markIntS.mono _ _ _)
   | (with_reducible exact spec_AcyclicSets.mono _ _ _)
   | (with_reducible exact LeO.refl _)
   | (with_reducible exact LeO.none _)
   | (with_reducible refine LeO.ite ?_ ?_)
   | (with_reducible refine LeO.bind ?_ (fun _ => ?_))
   | exact impl_AcyclicSets.mono _ _ _
   | exact laws_eqIntS.mono _ _ _
   | exact laws_heldIntS.mono _ _ _
   | exact laws_markIntS.mono _ _ _
   | exact spec_AcyclicSets.mono _ _ _
   | exact LeO.none _
   | refine LeO.ite ?_ ?_
   | refine LeO.bind ?_ (fun _ => ?_)
set_option maxHeartbeats 8000000 in
set_option maxRecDepth 100000 in
theorem laws_FnExactAcyclicSets.calls (k : Nat) (a0_0 : Int) (a0_1 : ByteArray) (r : Bool) (w : World) (h : laws_FnExactAcyclicSets.f k a0_0 a0_1 = some r) (hr_ : r = true) :
  Calls Try.prog 13 #[.agg #[.int .i64 a0_0, .string a0_1]] w fun e w' => e = .returned (.bool r) ∧ Below w.heap.size w w' := by
 have hu23 := Try.underlying23
 have HB := Aside0.mk (Below.refl w.heap.size w)
 have H : ((laws_szSigns.f a0_0 a0_1 1048576).bind fun t579 => (if t579 < 0 then (some true) else ((laws_toSigns.f a0_0 a0_1).bind fun bt580 => ((spec_AcyclicSets.f k bt580.1 bt580.2).bind fun t582 => ((laws_toSigns.f a0_0 a0_1).bind fun bt585 => ((impl_AcyclicSets.f k bt585.1 bt585.2).bind fun t587 => ((laws_eqIntS.f k t587 t582).bind fun t590 => (if t590 = true then ((laws_markIntS.f k t587 1).bind fun bt591 => ((laws_heldIntS.f k bt591.2 1).bind fun t593 => (if t593 < 0 then (some false) else (if t593 = bt591.1 then ((laws_toSigns.f a0_0 a0_1).bind fun bt594 => ((impl_AcyclicSets.f k bt594.1 bt594.2).bind fun t596 => ((laws_eqIntS.f k t596 t582).bind fun t599 => (if t599 = true then ((laws_heldIntS.f k bt591.2 1).bind fun t600 => (if t600 < 0 then (some false) else (if t600 = bt591.1 then (some true) else (some false)))) else (some false))))) else (some false))))) else (some false))))))))) = some r := h
 clear h
 replace H := Option.bind_eq_some_iff.mp H
 obtain ⟨t579, A20, H⟩ := H
 replace H : (if t579 < 0 then (some true) else ((laws_toSigns.f a0_0 a0_1).bind fun bt580 => ((spec_AcyclicSets.f k bt580.1 bt580.2).bind fun t582 => ((laws_toSigns.f a0_0 a0_1).bind fun bt585 => ((impl_AcyclicSets.f k bt585.1 bt585.2).bind fun t587 => ((laws_eqIntS.f k t587 t582).bind fun t590 => (if t590 = true then ((laws_markIntS.f k t587 1).bind fun bt591 => ((laws_heldIntS.f k bt591.2 1).bind fun t593 => (if t593 < 0 then (some false) else (if t593 = bt591.1 then ((laws_toSigns.f a0_0 a0_1).bind fun bt594 => ((impl_AcyclicSets.f k bt594.1 bt594.2).bind fun t596 => ((laws_eqIntS.f k t596 t582).bind fun t599 => (if t599 = true then ((laws_heldIntS.f k bt591.2 1).bind fun t600 => (if t600 < 0 then (some false) else (if t600 = bt591.1 then (some true) else (some false)))) else (some false))))) else (some false))))) else (some false)))))))) = some r := H
 have A2 := Aside0.mk A20
 clear A20
 by_cases c3 : t579 < 0
 ·rw [if_pos c3] at H
  have c3b0 : decide (t579 < 0) = true := decide_eq_true c3
  clear c3
  obtain rfl := Option.some.inj H
  go_enter Try.func13, Try.ntmps13
  go_wp2_with (first | ((with_reducible refine gate_dst (N := 1) rfl ?_); refine box_event ?hg (N := 1) ?hd (cs := #[.int .i64 a0_0, .string a0_1]) (t := 23) ?hr ?_; (case hd => rfl); (case hg => rfl); (case hr => first | (go_simp; done) | (go_simp; rfl)); intro gb578 hg w4 hbox hb; have n0_ := Aside0.mk (below_step zB hb); have n1_ := Aside0.mk (hbox); have n2_ := Aside0.mk ((by rw [hg]; exact (below_size zB) : w.heap.size ≤ gb578)); have n3_ := Aside0.mk ((by rw [hg]; exact (below_size zB) : w.heap.size ≤ gb578)); clear HB; have HB := n0_; have BK578 := n1_; have GW578 := n2_; have GE578 := n3_; clear n0_ n1_ n2_ n3_; clear hb hbox hg; have hcz5_0 : w4.cell? ⟨gb578, 0, none⟩ = some (.int .i64 a0_0) := (blk_cell BK578.out 0).trans rfl; have hcz5_1 : w4.cell? ⟨gb578, 1, none⟩ = some (.string a0_1) := (blk_cell BK578.out 1).trans rfl; have hfz5_0 := blk_frozen BK578.out 0; have hfz5_1 := blk_frozen BK578.out 1) | ((with_reducible refine gate_callee (f := 16) rfl ?_); refine goesL_ (some 11) rfl rfl Try.func16 (by kernel_rfl) rfl #[.agg #[.int .i64 a0_0, .string a0_1], .int .i64 1048576] rfl zM ?_; (with_reducible refine (laws_szSigns.calls a0_0 a0_1 1048576 t579 _ A2.out).mono ?_); rintro e w6 ⟨rfl, hb⟩; refine ⟨_, rfl, ?_⟩; have n0_ := Aside0.mk (blk_below (g := gb578) (o := .cells #[.int .i64 a0_0, .string a0_1] 23 (0, 0)) (zK BK578.out) hb); have n1_ := Aside0.mk (below_step (zG GE578.out) hb); clear BK578; clear HB; have BK578 := n0_; have HB := n1_; clear n0_ n1_; (try clear hb); (try clear hb2); (try clear hk); (try clear hi)))
  go_ret
  exact ⟨zE, zG GE578.out⟩
 ·rw [if_neg c3] at H
  have c3b0 : decide (t579 < 0) = false := decide_eq_false c3
  clear c3
  replace H := Option.bind_eq_some_iff.mp H
  obtain ⟨⟨t580, t581⟩, A70, H⟩ := H
  replace H : ((spec_AcyclicSets.f k t580 t581).bind fun t582 => ((laws_toSigns.f a0_0 a0_1).bind fun bt585 => ((impl_AcyclicSets.f k bt585.1 bt585.2).bind fun t587 => ((laws_eqIntS.f k t587 t582).bind fun t590 => (if t590 = true then ((laws_markIntS.f k t587 1).bind fun bt591 => ((laws_heldIntS.f k bt591.2 1).bind fun t593 => (if t593 < 0 then (some false) else (if t593 = bt591.1 then ((laws_toSigns.f a0_0 a0_1).bind fun bt594 => ((impl_AcyclicSets.f k bt594.1 bt594.2).bind fun t596 => ((laws_eqIntS.f k t596 t582).bind fun t599 => (if t599 = true then ((laws_heldIntS.f k bt591.2 1).bind fun t600 => (if t600 < 0 then (some false) else (if t600 = bt591.1 then (some true) else (some false)))) else (some false))))) else (some false))))) else (some false)))))) = some r := H
  have A7 := Aside0.mk A70
  clear A70
  replace H := Option.bind_eq_some_iff.mp H
  obtain ⟨t582, A80, H⟩ := H
  replace H : ((laws_toSigns.f a0_0 a0_1).bind fun bt585 => ((impl_AcyclicSets.f k bt585.1 bt585.2).bind fun t587 => ((laws_eqIntS.f k t587 t582).bind fun t590 => (if t590 = true then ((laws_markIntS.f k t587 1).bind fun bt591 => ((laws_heldIntS.f k bt591.2 1).bind fun t593 => (if t593 < 0 then (some false) else (if t593 = bt591.1 then ((laws_toSigns.f a0_0 a0_1).bind fun bt594 => ((impl_AcyclicSets.f k bt594.1 bt594.2).bind fun t596 => ((laws_eqIntS.f k t596 t582).bind fun t599 => (if t599 = true then ((laws_heldIntS.f k bt591.2 1).bind fun t600 => (if t600 < 0 then (some false) else (if t600 = bt591.1 then (some true) else (some false)))) else (some false))))) else (some false))))) else (some false))))) = some r := H
  have A8 := Aside0.mk A80
  clear A80
  replace H := Option.bind_eq_some_iff.mp H
  obtain ⟨⟨t585, t586⟩, A90, H⟩ := H
  replace H : ((impl_AcyclicSets.f k t585 t586).bind fun t587 => ((laws_eqIntS.f k t587 t582).bind fun t590 => (if t590 = true then ((laws_markIntS.f k t587 1).bind fun bt591 => ((laws_heldIntS.f k bt591.2 1).bind fun t593 => (if t593 < 0 then (some false) else (if t593 = bt591.1 then ((laws_toSigns.f a0_0 a0_1).bind fun bt594 => ((impl_AcyclicSets.f k bt594.1 bt594.2).bind fun t596 => ((laws_eqIntS.f k t596 t582).bind fun t599 => (if t599 = true then ((laws_heldIntS.f k bt591.2 1).bind fun t600 => (if t600 < 0 then (some false) else (if t600 = bt591.1 then (some true) else (some false)))) else (some false))))) else (some false))))) else (some false)))) = some r := H
  have A9 := Aside0.mk A90
  clear A90
  replace H := Option.bind_eq_some_iff.mp H
  obtain ⟨t587, A100, H⟩ := H
  replace H : ((laws_eqIntS.f k t587 t582).bind fun t590 => (if t590 = true then ((laws_markIntS.f k t587 1).bind fun bt591 => ((laws_heldIntS.f k bt591.2 1).bind fun t593 => (if t593 < 0 then (some false) else (if t593 = bt591.1 then ((laws_toSigns.f a0_0 a0_1).bind fun bt594 => ((impl_AcyclicSets.f k bt594.1 bt594.2).bind fun t596 => ((laws_eqIntS.f k t596 t582).bind fun t599 => (if t599 = true then ((laws_heldIntS.f k bt591.2 1).bind fun t600 => (if t600 < 0 then (some false) else (if t600 = bt591.1 then (some true) else (some false)))) else (some false))))) else (some false))))) else (some false))) = some r := H
  have A10 := Aside0.mk A100
  clear A100
  replace H := Option.bind_eq_some_iff.mp H
  obtain ⟨t590, A110, H⟩ := H
  replace H : (if t590 = true then ((laws_markIntS.f k t587 1).bind fun bt591 => ((laws_heldIntS.f k bt591.2 1).bind fun t593 => (if t593 < 0 then (some false) else (if t593 = bt591.1 then ((laws_toSigns.f a0_0 a0_1).bind fun bt594 => ((impl_AcyclicSets.f k bt594.1 bt594.2).bind fun t596 => ((laws_eqIntS.f k t596 t582).bind fun t599 => (if t599 = true then ((laws_heldIntS.f k bt591.2 1).bind fun t600 => (if t600 < 0 then (some false) else (if t600 = bt591.1 then (some true) else (some false)))) else (some false))))) else (some false))))) else (some false)) = some r := H
  have A11 := Aside0.mk A110
  clear A110
  by_cases c12 : t590 = true
  ·subst c12
   have H1 : ((laws_markIntS.f k t587 1).bind fun bt591 => ((laws_heldIntS.f k bt591.2 1).bind fun t593 => (if t593 < 0 then (some false) else (if t593 = bt591.1 then ((laws_toSigns.f a0_0 a0_1).bind fun bt594 => ((impl_AcyclicSets.f k bt594.1 bt594.2).bind fun t596 => ((laws_eqIntS.f k t596 t582).bind fun t599 => (if t599 = true then ((laws_heldIntS.f k bt591.2 1).bind fun t600 => (if t600 < 0 then (some false) else (if t600 = bt591.1 then (some true) else (some false)))) else (some false))))) else (some false))))) = some r := by rw [if_pos rfl] at H; exact H
   clear H
   have H := H1
   clear H1
   replace H := Option.bind_eq_some_iff.mp H
   obtain ⟨⟨t591, t592⟩, A130, H⟩ := H
   replace H : ((laws_heldIntS.f k t592 1).bind fun t593 => (if t593 < 0 then (some false) else (if t593 = t591 then ((laws_toSigns.f a0_0 a0_1).bind fun bt594 => ((impl_AcyclicSets.f k bt594.1 bt594.2).bind fun t596 => ((laws_eqIntS.f k t596 t582).bind fun t599 => (if t599 = true then ((laws_heldIntS.f k t592 1).bind fun t600 => (if t600 < 0 then (some false) else (if t600 = t591 then (some true) else (some false)))) else (some false))))) else (some false)))) = some r := H
   have A13 := Aside0.mk A130
   clear A130
   replace H := Option.bind_eq_some_iff.mp H
   obtain ⟨t593, A140, H⟩ := H
   replace H : (if t593 < 0 then (some false) else (if t593 = t591 then ((laws_toSigns.f a0_0 a0_1).bind fun bt594 => ((impl_AcyclicSets.f k bt594.1 bt594.2).bind fun t596 => ((laws_eqIntS.f k t596 t582).bind fun t599 => (if t599 = true then ((laws_heldIntS.f k t592 1).bind fun t600 => (if t600 < 0 then (some false) else (if t600 = t591 then (some true) else (some false)))) else (some false))))) else (some false))) = some r := H
   have A14 := Aside0.mk A140
   clear A140
   by_cases c15 : t593 < 0
   ·rw [if_pos c15] at H
    have c15b0 : decide (t593 < 0) = true := decide_eq_true c15
    clear c15
    obtain rfl := Option.some.inj H
    cases hr_
   ·rw [if_neg c15] at H
    have c15b0 : decide (t593 < 0) = false := decide_eq_false c15
    clear c15
    by_cases c28 : t593 = t591
    ·rw [if_pos c28] at H
     have c28b0 : (t593 == t591) = true := beq_iff_eq.mpr c28
     have c28b1 : (t593 != t591) = false := bne_eq_false_iff_eq.mpr c28
     clear c28
     replace H := Option.bind_eq_some_iff.mp H
     obtain ⟨⟨t594, t595⟩, A290, H⟩ := H
     replace H : ((impl_AcyclicSets.f k t594 t595).bind fun t596 => ((laws_eqIntS.f k t596 t582).bind fun t599 => (if t599 = true then ((laws_heldIntS.f k t592 1).bind fun t600 => (if t600 < 0 then (some false) else (if t600 = t591 then (some true) else (some false)))) else (some false)))) = some r := H
     have A29 := Aside0.mk A290
     clear A290
     replace H := Option.bind_eq_some_iff.mp H
     obtain ⟨t596, A300, H⟩ := H
     replace H : ((laws_eqIntS.f k t596 t582).bind fun t599 => (if t599 = true then ((laws_heldIntS.f k t592 1).bind fun t600 => (if t600 < 0 then (some false) else (if t600 = t591 then (some true) else (some false)))) else (some false))) = some r := H
     have A30 := Aside0.mk A300
     clear A300
     replace H := Option.bind_eq_some_iff.mp H
     obtain ⟨t599, A310, H⟩ := H
     replace H : (if t599 = true then ((laws_heldIntS.f k t592 1).bind fun t600 => (if t600 < 0 then (some false) else (if t600 = t591 then (some true) else (some false)))) else (some false)) = some r := H
     have A31 := Aside0.mk A310
     clear A310
     by_cases c32 : t599 = true
     ·subst c32
      have H1 : ((laws_heldIntS.f k t592 1).bind fun t600 => (if t600 < 0 then (some false) else (if t600 = t591 then (some true) else (some false)))) = some r := by rw [if_pos rfl] at H; exact H
      clear H
      have H := H1
      clear H1
      replace H := Option.bind_eq_some_iff.mp H
      obtain ⟨t600, A330, H⟩ := H
      replace H : (if t600 < 0 then (some false) else (if t600 = t591 then (some true) else (some false))) = some r := H
      have A33 := Aside0.mk A330
      clear A330
      by_cases c34 : t600 < 0
      ·rw [if_pos c34] at H
       have c34b0 : decide (t600 < 0) = true := decide_eq_true c34
       clear c34
       obtain rfl := Option.some.inj H
       cases hr_
      ·rw [if_neg c34] at H
       have c34b0 : decide (t600 < 0) = false := decide_eq_false c34
       clear c34
       by_cases c51 : t600 = t591
       ·rw [if_pos c51] at H
        have c51b0 : (t600 == t591) = true := beq_iff_eq.mpr c51
        have c51b1 : (t600 != t591) = false := bne_eq_false_iff_eq.mpr c51
        clear c51
        obtain rfl := Option.some.inj H
        go_enter Try.func13, Try.ntmps13
        go_wp2_with (first | ((with_reducible refine gate_dst (N := 1) rfl ?_); refine box_event ?hg (N := 1) ?hd (cs := #[.int .i64 a0_0, .string a0_1]) (t := 23) ?hr ?_; (case hd => rfl); (case hg => rfl); (case hr => first | (go_simp; done) | (go_simp; rfl)); intro gb578 hg w52 hbox hb; have n0_ := Aside0.mk (below_step zB hb); have n1_ := Aside0.mk (hbox); have n2_ := Aside0.mk ((by rw [hg]; exact (below_size zB) : w.heap.size ≤ gb578)); have n3_ := Aside0.mk ((by rw [hg]; exact (below_size zB) : w.heap.size ≤ gb578)); clear HB; have HB := n0_; have BK578 := n1_; have GW578 := n2_; have GE578 := n3_; clear n0_ n1_ n2_ n3_; clear hb hbox hg; have hcz53_0 : w52.cell? ⟨gb578, 0, none⟩ = some (.int .i64 a0_0) := (blk_cell BK578.out 0).trans rfl; have hcz53_1 : w52.cell? ⟨gb578, 1, none⟩ = some (.string a0_1) := (blk_cell BK578.out 1).trans rfl; have hfz53_0 := blk_frozen BK578.out 0; have hfz53_1 := blk_frozen BK578.out 1) | ((with_reducible refine gate_callee (f := 16) rfl ?_); refine goesL_ (some 11) rfl rfl Try.func16 (by kernel_rfl) rfl #[.agg #[.int .i64 a0_0, .string a0_1], .int .i64 1048576] rfl zM ?_; (with_reducible refine (laws_szSigns.calls a0_0 a0_1 1048576 t579 _ A2.out).mono ?_); rintro e w54 ⟨rfl, hb⟩; refine ⟨_, rfl, ?_⟩; have n0_ := Aside0.mk (blk_below (g := gb578) (o := .cells #[.int .i64 a0_0, .string a0_1] 23 (0, 0)) (zK BK578.out) hb); have n1_ := Aside0.mk (below_step (zG GE578.out) hb); clear BK578; clear HB; have BK578 := n0_; have HB := n1_; clear n0_ n1_; (try clear hb); (try clear hb2); (try clear hk); (try clear hi); have hcz55_0 : w54.cell? ⟨gb578, 0, none⟩ = some (.int .i64 a0_0) := (blk_cell BK578.out 0).trans rfl; have hcz55_1 : w54.cell? ⟨gb578, 1, none⟩ = some (.string a0_1) := (blk_cell BK578.out 1).trans rfl; have hfz55_0 := blk_frozen BK578.out 0; have hfz55_1 := blk_frozen BK578.out 1) | ((with_reducible refine gate_callee (f := 18) rfl ?_); refine goesL_ (some 15) rfl rfl Try.func18 (by kernel_rfl) rfl #[.agg #[.int .i64 a0_0, .string a0_1]] rfl zM ?_; (with_reducible refine (laws_toSigns.calls a0_0 a0_1 t580 t581 _ A7.out).mono ?_); rintro e w56 ⟨rfl, hb⟩; refine ⟨_, rfl, ?_⟩; have n0_ := Aside0.mk (blk_below (g := gb578) (o := .cells #[.int .i64 a0_0, .string a0_1] 23 (0, 0)) (zK BK578.out) hb); have n1_ := Aside0.mk (below_step (zG GE578.out) hb); clear BK578; clear HB; have BK578 := n0_; have HB := n1_; clear n0_ n1_; (try clear hb); (try clear hb2); (try clear hk); (try clear hi)) | ((with_reducible refine gate_callee (f := 43) rfl ?_); refine goesL_ (some 16) rfl rfl Try.func43 (by kernel_rfl) rfl #[.agg #[.int .i64 t580, .string t581]] rfl zM ?_; (with_reducible refine (spec_AcyclicSets.calls k t580 t581 t582 _ A8.out).mono ?_); rintro e w57 ⟨v583, rfl, ho0, hb⟩; refine ⟨_, rfl, ?_⟩; have n0_ := Aside0.mk (Kd.R_lower ho0 (below_size (zG GE578.out))); have n1_ := Aside0.mk (blk_below (g := gb578) (o := .cells #[.int .i64 a0_0, .string a0_1] 23 (0, 0)) (zK BK578.out) hb); have n2_ := Aside0.mk (below_step (zG GE578.out) hb); clear BK578; clear HB; have HO584 := n0_; have BK578 := n1_; have HB := n2_; clear n0_ n1_ n2_; (try clear hb); (try clear hb2); (try clear hk); (try clear hi); (try clear ho0); have hcz58_0 : w57.cell? ⟨gb578, 0, none⟩ = some (.int .i64 a0_0) := (blk_cell BK578.out 0).trans rfl; have hcz58_1 : w57.cell? ⟨gb578, 1, none⟩ = some (.string a0_1) := (blk_cell BK578.out 1).trans rfl; have hfz58_0 := blk_frozen BK578.out 0; have hfz58_1 := blk_frozen BK578.out 1) | ((with_reducible refine gate_callee (f := 18) rfl ?_); refine goesL_ (some 18) rfl rfl Try.func18 (by kernel_rfl) rfl #[.agg #[.int .i64 a0_0, .string a0_1]] rfl zM ?_; (with_reducible refine (laws_toSigns.calls a0_0 a0_1 t585 t586 _ A9.out).mono ?_); rintro e w59 ⟨rfl, hb⟩; refine ⟨_, rfl, ?_⟩; have n0_ := Aside0.mk (Kd.R_below (zR HO584.out) hb); have n1_ := Aside0.mk (blk_below (g := gb578) (o := .cells #[.int .i64 a0_0, .string a0_1] 23 (0, 0)) (zK BK578.out) hb); have n2_ := Aside0.mk (below_step (zG GE578.out) hb); clear HO584; clear BK578; clear HB; have HO584 := n0_; have BK578 := n1_; have HB := n2_; clear n0_ n1_ n2_; (try clear hb); (try clear hb2); (try clear hk); (try clear hi)) | ((with_reducible refine gate_callee (f := 44) rfl ?_); refine goesL_ (some 19) rfl rfl Try.func44 (by kernel_rfl) rfl #[.agg #[.int .i64 t585, .string t586]] rfl zM ?_; (with_reducible refine (impl_AcyclicSets.calls k t585 t586 t587 _ A10.out).mono ?_); rintro e w60 ⟨v588, rfl, ho0, hb⟩; refine ⟨_, rfl, ?_⟩; have n0_ := Aside0.mk (Kd.R_elder' (zR HO584.out) (Kd.R_base ho0) hb); have n1_ := Aside0.mk (Kd.R_lower (Kd.R_new' ho0 (Kd.R_lt (zR HO584.out))) (below_size (zG GE578.out))); have n2_ := Aside0.mk (blk_below (g := gb578) (o := .cells #[.int .i64 a0_0, .string a0_1] 23 (0, 0)) (zK BK578.out) hb); have n3_ := Aside0.mk (below_step (zG GE578.out) hb); clear HO584; clear BK578; clear HB; have HO584 := n0_; have HO589 := n1_; have BK578 := n2_; have HB := n3_; clear n0_ n1_ n2_ n3_; (try clear hb); (try clear hb2); (try clear hk); (try clear hi); (try clear ho0); obtain ⟨Ao61, co61, eo61⟩ := Kd.R_slice HO589.out; subst eo61; obtain ⟨Ao62, co62, eo62⟩ := Kd.R_slice HO584.out; subst eo62) | ((with_reducible refine gate_callee (f := 35) rfl ?_); refine goesL_ (some 22) rfl rfl Try.func35 (by kernel_rfl) rfl #[.slice Ao61 t587.length co61, .slice Ao62 t582.length co62] rfl zM ?_; (with_reducible refine (laws_eqIntS.calls k _ _ t587 _ _ t582 true _ ?side1 ?side2 ?side3 ?side4 A11.out).mono ?_); (case side1 => repeat (first | exact (Kd.R_reads' HO589.out).2.2 | (with_reducible refine Kd.C_alloc ?_ _) | (with_reducible refine Kd.C_drewN ?_ _) | (with_reducible refine Kd.C_drew ?_))); (case side2 => exact (Kd.R_reads' HO589.out).2.1); (case side3 => repeat (first | exact (Kd.R_reads' HO584.out).2.2 | (with_reducible refine Kd.C_alloc ?_ _) | (with_reducible refine Kd.C_drewN ?_ _) | (with_reducible refine Kd.C_drew ?_))); (case side4 => exact (Kd.R_reads' HO584.out).2.1); rintro e w' ⟨rfl, ⟨nd, rfl⟩⟩; refine ⟨_, rfl, ?_⟩) | ((with_reducible refine gate_callee (f := 36) rfl ?_); refine goesL_ (some 26) rfl rfl Try.func36 (by kernel_rfl) rfl #[.slice Ao61 t587.length co61, .int .i64 1] rfl zM ?_; (with_reducible refine (laws_markIntS.calls k (fun k_ => some k_ = (.slice Ao61 t587.length co61 : Value).ownBlock) (.slice Ao61 t587.length co61) t587 1 t591 t592 w _ ?side1 ?side2 A13.out).mono ?_); (case side1 => repeat (first | (with_reducible first | exact HB.out | apply below_alloc | apply pw_below_drewN | apply below_drew1 | refine below_set ?_ GE578.out) | exact HB.out)); (case side2 => exact Kd.R_tight rfl HO589.out); rintro e w63 ⟨rfl, hy0, hb, hkp⟩; refine ⟨_, rfl, ?_⟩; have n0_ := Aside0.mk (blk_kept (zK BK578.out) hkp (fun hs_ => (fun e_ => (Kd.R_ne HO589.out BK578.out (by decide)) e_) hs_)); have n1_ := Aside0.mk (Kd.R_mono (ok' := fun k_ => some k_ ≠ (.slice Ao61 t587.length co61 : Value).ownBlock) (Kd.R_keptB (HO584.out) hkp (fun k_ hk_ hs_ => (hk_.2) hs_)) (fun k_ hk_ => hk_.1.2)); have n2_ := Aside0.mk (Kd.R_reok rfl hy0 (fun k_ e_ => HO589.out.1 k_ e_)); have n3_ := Aside0.mk (hb); clear BK578; clear HO584; clear HO589; clear HB; have BK578 := n0_; have HO584 := n1_; have HO589 := n2_; have HB := n3_; clear n0_ n1_ n2_ n3_; (try clear hb); (try clear hkp); (try clear hy0)) | ((with_reducible refine gate_callee (f := 37) rfl ?_); refine goesL_ (some 29) rfl rfl Try.func37 (by kernel_rfl) rfl #[.slice Ao61 t592.length co61, .int .i64 1] rfl (by (try simp only [List.map_toArray, List.map_cons, List.map_nil]); first | done | (rw [show t592.length = t587.length from (Kd.R_reads' HO589.out).1.symm] <;> rfl) | rfl | (simp only [List.length_drop, List.length_take]; rfl)) ?_; (with_reducible refine (laws_heldIntS.calls k _ _ t592 1 t593 _ ?side1 ?side2 A14.out).mono ?_); (case side1 => repeat (first | exact (Kd.R_reads' HO589.out).2.2 | (with_reducible refine Kd.C_alloc ?_ _) | (with_reducible refine Kd.C_drewN ?_ _) | (with_reducible refine Kd.C_drew ?_))); (case side2 => rw [show t592.length = t587.length from (Kd.R_reads' HO589.out).1.symm]; exact (Kd.R_reads' HO589.out).2.1); rintro e w' ⟨rfl, ⟨nd, rfl⟩⟩; refine ⟨_, rfl, ?_⟩; have hcz64_0 : w63.cell? ⟨gb578, 0, none⟩ = some (.int .i64 a0_0) := (blk_cell BK578.out 0).trans rfl; have hcz64_1 : w63.cell? ⟨gb578, 1, none⟩ = some (.string a0_1) := (blk_cell BK578.out 1).trans rfl; have hfz64_0 := blk_frozen BK578.out 0; have hfz64_1 := blk_frozen BK578.out 1) | ((with_reducible refine gate_callee (f := 18) rfl ?_); refine goesL_ (some 36) rfl rfl Try.func18 (by kernel_rfl) rfl #[.agg #[.int .i64 a0_0, .string a0_1]] rfl zM ?_; (with_reducible refine (laws_toSigns.calls a0_0 a0_1 t594 t595 _ A29.out).mono ?_); rintro e w65 ⟨rfl, hb⟩; refine ⟨_, rfl, ?_⟩; have n0_ := Aside0.mk (Kd.R_below (zR HO584.out) hb); have n1_ := Aside0.mk (Kd.R_below (zR HO589.out) hb); have n2_ := Aside0.mk (blk_below (g := gb578) (o := .cells #[.int .i64 a0_0, .string a0_1] 23 (0, 0)) (zK BK578.out) hb); have n3_ := Aside0.mk (below_step (zG GE578.out) hb); clear HO584; clear HO589; clear BK578; clear HB; have HO584 := n0_; have HO589 := n1_; have BK578 := n2_; have HB := n3_; clear n0_ n1_ n2_ n3_; (try clear hb); (try clear hb2); (try clear hk); (try clear hi)) | ((with_reducible refine gate_callee (f := 44) rfl ?_); refine goesL_ (some 37) rfl rfl Try.func44 (by kernel_rfl) rfl #[.agg #[.int .i64 t594, .string t595]] rfl zM ?_; (with_reducible refine (impl_AcyclicSets.calls k t594 t595 t596 _ A30.out).mono ?_); rintro e w66 ⟨v597, rfl, ho0, hb⟩; refine ⟨_, rfl, ?_⟩; have n0_ := Aside0.mk (Kd.R_elder' (zR HO584.out) (Kd.R_base ho0) hb); have n1_ := Aside0.mk (Kd.R_elder' (zR HO589.out) (Kd.R_base ho0) hb); have n2_ := Aside0.mk (Kd.R_lower (Kd.R_new' (Kd.R_new' ho0 (Kd.R_lt (zR HO584.out))) (Kd.R_lt (zR HO589.out))) (below_size (zG GE578.out))); have n3_ := Aside0.mk (blk_below (g := gb578) (o := .cells #[.int .i64 a0_0, .string a0_1] 23 (0, 0)) (zK BK578.out) hb); have n4_ := Aside0.mk (below_step (zG GE578.out) hb); clear HO584; clear HO589; clear BK578; clear HB; have HO584 := n0_; have HO589 := n1_; have HO598 := n2_; have BK578 := n3_; have HB := n4_; clear n0_ n1_ n2_ n3_ n4_; (try clear hb); (try clear hb2); (try clear hk); (try clear hi); (try clear ho0); obtain ⟨Ao67, co67, eo67⟩ := Kd.R_slice HO598.out; subst eo67) | ((with_reducible refine gate_callee (f := 35) rfl ?_); refine goesL_ (some 40) rfl rfl Try.func35 (by kernel_rfl) rfl #[.slice Ao67 t596.length co67, .slice Ao62 t582.length co62] rfl zM ?_; (with_reducible refine (laws_eqIntS.calls k _ _ t596 _ _ t582 true _ ?side1 ?side2 ?side3 ?side4 A31.out).mono ?_); (case side1 => repeat (first | exact (Kd.R_reads' HO598.out).2.2 | (with_reducible refine Kd.C_alloc ?_ _) | (with_reducible refine Kd.C_drewN ?_ _) | (with_reducible refine Kd.C_drew ?_))); (case side2 => exact (Kd.R_reads' HO598.out).2.1); (case side3 => repeat (first | exact (Kd.R_reads' HO584.out).2.2 | (with_reducible refine Kd.C_alloc ?_ _) | (with_reducible refine Kd.C_drewN ?_ _) | (with_reducible refine Kd.C_drew ?_))); (case side4 => exact (Kd.R_reads' HO584.out).2.1); rintro e w' ⟨rfl, ⟨nd, rfl⟩⟩; refine ⟨_, rfl, ?_⟩) | ((with_reducible refine gate_callee (f := 37) rfl ?_); refine goesL_ (some 44) rfl rfl Try.func37 (by kernel_rfl) rfl #[.slice Ao61 t592.length co61, .int .i64 1] rfl (by (try simp only [List.map_toArray, List.map_cons, List.map_nil]); first | done | (rw [show t592.length = t587.length from (Kd.R_reads' HO589.out).1.symm] <;> rfl) | rfl | (simp only [List.length_drop, List.length_take]; rfl)) ?_; (with_reducible refine (laws_heldIntS.calls k _ _ t592 1 t600 _ ?side1 ?side2 A33.out).mono ?_); (case side1 => repeat (first | exact (Kd.R_reads' HO589.out).2.2 | (with_reducible refine Kd.C_alloc ?_ _) | (with_reducible refine Kd.C_drewN ?_ _) | (with_reducible refine Kd.C_drew ?_))); (case side2 => rw [show t592.length = t587.length from (Kd.R_reads' HO589.out).1.symm]; exact (Kd.R_reads' HO589.out).2.1); rintro e w' ⟨rfl, ⟨nd, rfl⟩⟩; refine ⟨_, rfl, ?_⟩))
        go_ret
        exact ⟨zE, zG GE578.out⟩
       ·rw [if_neg c51] at H
        have c51b0 : (t600 == t591) = false := beq_eq_false_iff_ne.mpr c51
        have c51b1 : (t600 != t591) = true := bne_iff_ne.mpr c51
        obtain rfl := Option.some.inj H
        cases hr_
     ·replace c32 := Bool.eq_false_iff.mpr c32
      subst c32
      have H1 : (some false) = some r := by rw [if_neg (show ¬ (false = true) by decide)] at H; exact H
      clear H
      have H := H1
      clear H1
      obtain rfl := Option.some.inj H
      cases hr_
    ·rw [if_neg c28] at H
     have c28b0 : (t593 == t591) = false := beq_eq_false_iff_ne.mpr c28
     have c28b1 : (t593 != t591) = true := bne_iff_ne.mpr c28
     obtain rfl := Option.some.inj H
     cases hr_
  ·replace c12 := Bool.eq_false_iff.mpr c12
   subst c12
   have H1 : (some false) = some r := by rw [if_neg (show ¬ (false = true) by decide)] at H; exact H
   clear H
   have H := H1
   clear H1
   obtain rfl := Option.some.inj H
   cases hr_
end Go.Proofs.Ytggbekkinkggfaa.PX
namespace Go.Proofs.Ytggbekkinkggfaa.M
open Go.RowKit Go.Proofs.YtggbekkinkggfaaW.PrintWords Go.Proofs.Ytggbekkinkggfaa.PX Go.Proofs.Ytggbekkinkggfaa.G Go.Proofs.YtggbekkinkggfaaW.PrintMore
theorem pmS_sgB' (n : Nat) (t : ByteArray) : pmS n (sgB t) := fun p _ => sgB_cases t p
/-- Is an element in a set? As the program reckons it. -/
def bitI (set : Int) (i : Nat) : Bool := decide (Go.bits .and .i64 (shr .i64 set (i : Int)) 1 = 1)
/-- Whether the place's sign is turned by the set's elements below i. -/
def flipB (n : Nat) (set : Int) (i p : Nat) : Bool := (List.range i).foldl (fun f j => f ^^ (bitI set j && hasP n j p)) false
theorem flipB_succ (n : Nat) (set : Int) (i p : Nat) : flipB n set (i + 1) p = (flipB n set i p ^^ (bitI set i && hasP n i p)) := by
  unfold flipB
  rw [List.range_succ, List.foldl_append]
  rfl
def flipS (n : Nat) (set : Int) (i : Nat) (s : Nat → Int) : Nat → Int := fun p => sgv (flipB n set i p) (s p)
def flipChk (n : Nat) : Bool := (List.range (2 ^ n)).all fun set => (List.range (tripN n).length).all fun p => flipB n (set : Int) n p == par (set : Int) (tripAt n p).f0.toNat (tripAt n p).f1.toNat (tripAt n p).f2.toNat
theorem flipChk_ok {n : Nat} (h0 : 3 ≤ n) (h1 : n ≤ 7) : flipChk n = true := by
  refine five (p := fun n => flipChk n = true) h0 h1 ?_ ?_ ?_ ?_ ?_ <;> decide +kernel
theorem flip_all {n set : Nat} (s : Nat → Int) (h0 : 3 ≤ n) (h1 : n ≤ 7) (hset : set < 2 ^ n) : tblS n (flipS n (set : Int) n s) = tblS n (revB n (set : Int) s) := by
  refine tblS_congr fun p hp => ?_
  have h := List.all_eq_true.1 (flipChk_ok h0 h1) set (List.mem_range.2 hset)
  have h := beq_iff_eq.1 (List.all_eq_true.1 h p (List.mem_range.2 hp))
  unfold flipS revB
  rw [h]
  rfl
theorem flipS_pm {n i : Nat} {set : Int} {s : Nat → Int} (h : pmS n s) : pmS n (flipS n set i s) := fun p hp => by
  unfold flipS sgv
  rcases h p hp with e | e <;> split <;> omega
theorem flipS_zero (n : Nat) (set : Int) (s : Nat → Int) : flipS n set 0 s = s := by
  funext p
  rfl
theorem flipS_succ (n : Nat) (set : Int) (i : Nat) (s : Nat → Int) : flipS n set (i + 1) s = if bitI set i = true then revS n i (flipS n set i s) else flipS n set i s := by
  funext p
  unfold flipS
  rw [flipB_succ]
  cases bitI set i with
  | false => simp
  | true =>
    rw [Bool.true_and, if_pos rfl]
    unfold revS
    dsimp only
    generalize flipB n set i p = f
    generalize hasP n i p = g
    cases f <;> cases g <;> simp [sgv]
def setsOk (n : Nat) (t : ByteArray) (set : Nat) : Bool := acyc n (txtS n (revB n (set : Int) (sgB t)))
def setsL (n : Nat) (t : ByteArray) : List Int := ((List.range (2 ^ n)).filter (setsOk n t)).map fun (x : Nat) => (x : Int)
/-- What AcyclicSets answers. -/
def setsA (n : Int) (t : ByteArray) : List Int := if matOk n t = true then setsL n.toNat t else []
def shlChk : Bool := (List.range 8).all fun n => decide (shl .i64 1 (IntKind.u64.wrap (n : Int)) = ((2 ^ n : Nat) : Int)) && decide (shl .i64 1 (n : Int) = ((2 ^ n : Nat) : Int)) && decide (2 ^ n ≤ 128)
theorem shl_eq {n : Nat} (h1 : n ≤ 7) : shl .i64 1 (IntKind.u64.wrap (n : Int)) = ((2 ^ n : Nat) : Int) ∧ shl .i64 1 (n : Int) = ((2 ^ n : Nat) : Int) ∧ 2 ^ n ≤ 128 := by
  have h : shlChk = true := by decide +kernel
  have h := List.all_eq_true.1 h n (List.mem_range.2 (by omega))
  simp only [Bool.and_eq_true, decide_eq_true_eq] at h
  exact ⟨h.1.1, h.1.2, h.2⟩
theorem sets_fold (n : Nat) (t : ByteArray) : (List.range' 0 (2 ^ n - 0)).foldlM (fun (u : List Int) (set : Nat) => (.ok (if setsOk n t set then u ++ [(set : Int)] else u) : Except (List Int) (List Int))) [] = .ok (setsL n t) := by
  rw [foldlM_ok, foldl_filter, List.nil_append, Nat.sub_zero, ← List.range_eq_range']
  rfl
theorem spec_sets (n : Int) (t : ByteArray) (hs : t.size ≤ 9223372036854775807) : Ev (fun k => spec_AcyclicSets.f k n t) (setsA n t) := by
  unfold spec_AcyclicSets.f setsA
  refine ev_call rfl (Ev.bind (spec_mat n t hs) ?_)
  by_cases h : matOk n t = true
  · rw [if_pos h]
    refine ev_pos h ?_
    have ha := mat_are h
    obtain ⟨⟨h0, h1⟩, _, _⟩ := (areOk_iff _ _).1 ha
    obtain ⟨N, rfl⟩ : ∃ N : Nat, n = (N : Int) := Int.eq_ofNat_of_zero_le (by omega)
    rw [Int.toNat_natCast]
    obtain ⟨s1, _, s3⟩ := shl_eq (n := N) (by omega)
    have key := loop_up' (ρ := List Int) (lo := 0) (n := 2 ^ N) (K := fun u _ => some u) (L := fun set u k => spec_AcyclicSets.l0 k u set (N : Int) t) (fun i u => u.length ≤ i) (fun u set => .ok (if setsOk N t set then u ++ [(set : Int)] else u))
      (fun u _ => ?_) (fun i _ hi u hu => ?_) (fun i _ hi u hu u' e => ?_) (Nat.zero_le _) [] (by simp)
    · rw [sets_fold] at key
      exact key _ (Ev.now _)
    · refine Goes.step ?_
      simp only [spec_AcyclicSets.l0]
      refine Goes.pos (u64_nat (by omega)) ?_
      rw [s1]
      exact Goes.neg (by omega) (Goes.ok (K := fun u _ => some u) u)
    · refine Goes.step ?_
      simp only [spec_AcyclicSets.l0]
      refine Goes.pos (u64_nat (by omega)) ?_
      rw [s1]
      refine Goes.pos (by omega) (Goes.ev (l4Reverse_ev ha (i : Int)) (Goes.ev (spec_acyc (txtS_ok _ (by omega) (by omega))) ?_))
      rw [wrap_id (by omega) (by omega)]
      by_cases g : setsOk N t i = true
      · rw [if_pos g]
        exact Goes.pos g (Goes.pos (by omega) (Goes.ok (K := fun u k => spec_AcyclicSets.l0 k u ((i + 1 : Nat) : Int) (N : Int) t) _))
      · rw [if_neg g]
        exact Goes.neg g (Goes.ok (K := fun u k => spec_AcyclicSets.l0 k u ((i + 1 : Nat) : Int) (N : Int) t) _)
    · cases e
      split
      · rw [List.length_append]; simp only [List.length_cons, List.length_nil]; omega
      · omega
  · rw [if_neg h]
    exact ev_neg h (Ev.now _)
theorem impl_sets (n : Int) (t : ByteArray) (hs : t.size ≤ 9223372036854775807) : Ev (fun k => impl_AcyclicSets.f k n t) (setsA n t) := by
  unfold impl_AcyclicSets.f setsA
  refine ev_call (impl_mat n t hs) ?_
  by_cases h : matOk n t = true
  · rw [if_pos h]
    refine ev_pos h ?_
    have ha := mat_are h
    obtain ⟨⟨h0, h1⟩, _, _⟩ := (areOk_iff _ _).1 ha
    obtain ⟨N, rfl⟩ : ∃ N : Nat, n = (N : Int) := Int.eq_ofNat_of_zero_le (by omega)
    rw [Int.toNat_natCast]
    have h0 : 3 ≤ N := by omega
    have h1 : N ≤ 7 := by omega
    obtain ⟨_, s2, s3⟩ := shl_eq (n := N) h1
    have key := loop_up' (ρ := List Int) (lo := 0) (n := 2 ^ N) (K := fun u _ => some u) (L := fun set u k => impl_AcyclicSets.l0 k u set (N : Int) t) (fun i u => u.length ≤ i) (fun u set => .ok (if setsOk N t set then u ++ [(set : Int)] else u))
      (fun u _ => ?_) (fun i _ hi u hu => ?_) (fun i _ hi u hu u' e => ?_) (Nat.zero_le _) [] (by simp)
    · rw [sets_fold] at key
      exact key _ (Ev.now _)
    · refine Goes.step ?_
      simp only [impl_AcyclicSets.l0]
      refine Goes.pos (by omega) ?_
      rw [s2]
      exact Goes.neg (by omega) (Goes.ok (K := fun u _ => some u) u)
    · refine Goes.step ?_
      simp only [impl_AcyclicSets.l0]
      refine Goes.pos (by omega) ?_
      rw [s2]
      refine Goes.pos (by omega) (Goes.ev (tableOf_ev ha) ?_)
      rw [tblL_S]
      have inner := loop_up' (σ := Unit) (ρ := List Int) (lo := 0) (n := N) (K := fun _ k => impl_AcyclicSets.l1 k u (i : Int) (tblS N (flipS N (i : Int) N (sgB t))) (N : Int) (N : Int) t)
        (L := fun j _ k => impl_AcyclicSets.l1 k u (i : Int) (tblS N (flipS N (i : Int) j.toNat (sgB t))) j (N : Int) t) (fun _ _ => True) (fun _ _ => .ok ()) (fun _ _ => ?_) (fun j _ hj _ _ => ?_) (fun _ _ _ _ _ _ _ => trivial) (by omega) () trivial
      · rw [foldlM_ok] at inner
        simp only [Int.toNat_natCast, Int.ofNat_zero, Int.cast_ofNat_Int, flipS_zero] at inner
        refine Goes.map (inner ·) ?_
        rw [flip_all _ h0 h1 hi]
        refine Goes.step ?_
        simp only [impl_AcyclicSets.l1]
        refine Goes.neg (by omega) (Goes.pos (tblS_length _ _) ?_)
        have hpm := revB_pm (n := N) (set := (i : Int)) (pmS_sgB' N t)
        rw [← tblL_txtS hpm]
        refine Goes.ev (impl_acyc (txtS_ok _ h0 h1)) ?_
        rw [wrap_id (by omega) (by omega)]
        by_cases g : setsOk N t i = true
        · rw [if_pos g]
          exact Goes.pos g (Goes.pos (by omega) (Goes.ok (K := fun u k => impl_AcyclicSets.l0 k u ((i + 1 : Nat) : Int) (N : Int) t) _))
        · rw [if_neg g]
          exact Goes.neg g (Goes.ok (K := fun u k => impl_AcyclicSets.l0 k u ((i + 1 : Nat) : Int) (N : Int) t) _)
      · simp only [Int.toNat_natCast]
        exact Goes.ok ()
      · simp only [Int.toNat_natCast]
        refine Goes.step ?_
        simp only [impl_AcyclicSets.l1]
        refine Goes.pos (by omega) (Goes.pos (by omega) ?_)
        rw [wrap_id (by omega) (by omega)]
        have hs := flipS_succ N (i : Int) j (sgB t)
        by_cases g : bitI (i : Int) j = true
        · rw [if_pos g] at hs
          refine Goes.pos (of_decide_eq_true g) (Goes.pos (tblS_length _ _) (Goes.ev (reverse_ev h0 h1 (flipS_pm (pmS_sgB' N t))) ?_))
          rw [← hs]
          exact Goes.ok ()
        · rw [if_neg g] at hs
          refine Goes.neg (fun e => g (decide_eq_true e)) ?_
          rw [← hs]
          exact Goes.ok ()
    · cases e
      split
      · rw [List.length_append]; simp only [List.length_cons, List.length_nil]; omega
      · omega
  · rw [if_neg h]
    exact ev_neg h (Ev.now _)
theorem setsA_length (n : Int) (t : ByteArray) : (setsA n t).length ≤ 128 := by
  unfold setsA
  split
  · rename_i h
    obtain ⟨⟨h0, h1⟩, _, _⟩ := (areOk_iff _ _).1 (mat_are h)
    have := (shl_eq (n := n.toNat) (by omega)).2.2
    unfold setsL
    rw [List.length_map]
    have h2 := List.length_filter_le (setsOk n.toNat t) (List.range (2 ^ n.toNat))
    rw [List.length_range] at h2
    omega
  · simp
end Go.Proofs.Ytggbekkinkggfaa.M
namespace Go.Proofs.Ytggbekkinkggfaa.Pure
open Go.RowKit Go.Proofs.YtggbekkinkggfaaW.PrintWords Go.Proofs.Ytggbekkinkggfaa.PX Go.Proofs.Ytggbekkinkggfaa.M
theorem FnExactAcyclicSets (n : Int) (t : ByteArray) (_ : (Lit.int .i64 n).wf = true) (hs : t.size ≤ 9223372036854775807) :
    ∃ k, laws_FnExactAcyclicSets.f k n t = some true := by
  refine Ev.rounds (r := true) ?_
  unfold laws_FnExactAcyclicSets.f
  obtain ⟨r, hr⟩ := sz_signs n t
  refine ev_call hr ?_
  by_cases h : r < 0
  · exact ev_pos h (Ev.now _)
  have hl := setsA_length n t
  refine ev_neg h (ev_call (a := (n, t)) rfl (Ev.bind (spec_sets n t hs) (ev_call (a := (n, t)) rfl (Ev.bind (impl_sets n t hs) (Ev.bind (eqIntS_self _ (by omega)) (ev_pos rfl ?_))))))
  refine Ev.bind (mark_ev _ (by omega)) (Ev.bind (held_ev _ (by omega)) (ev_neg (by omega) (ev_pos rfl ?_)))
  refine ev_call (a := (n, t)) rfl (Ev.bind (impl_sets n t hs) (Ev.bind (eqIntS_self _ (by omega)) (ev_pos rfl ?_)))
  exact Ev.bind (held_ev _ (by omega)) (ev_neg (by omega) (ev_pos rfl (Ev.now _)))
end Go.Proofs.Ytggbekkinkggfaa.Pure
namespace Go.Proofs.Ytggbekkinkggfaa.fnExactAcyclicSets
open Go.ChangeShapes Go.WideShapes Go.ChangeAt Go.RowKit Go.Joins
open Go.ChangeMaps (open_string shut_string)
set_option linter.unusedVariables false
theorem own : ownKnob Try.prog.godebug = none := by kernel_rfl
theorem str_mk {H : Type} {enc : TypeId × Value → H} {P : Program} {w : World} {base : Nat} {spare : Nat → Bool} {held : Bool} {t : TypeId} {s : ByteArray} (ht : P.underlying t = some .string) (hs : s.size ≤ maxLen) : DataW.trod enc P w base spare held 1 t [.string s] = some (.lit (.string s.data.toList), []) := by
  simp [DataW.trod, ht, hs]
set_option maxRecDepth 100000 in
theorem lifted (os : Os) (started : os.Started) (H : Type) (enc : TypeId × Value → H) :
    ReturnsInHanded {} Try.checked os 13 .any (Rows.fnExactAcyclicSetsSpec.pre6 enc Try.prog Try.f13 Rows.fnExactAcyclicSetsRow.domain false) (Rows.fnExactAcyclicSetsSpec.post enc Try.prog Try.f13 false true false false) := by
  refine returnsInHanded_of_change_sized (C := Try.checked) own started (by kernel_rfl) Try.func13
    (ChangeSpec.witness6 (enc := enc) (C := Try.checked) false ⟨#[], #[.agg #[.int .i64 0, .string ByteArray.empty]], []⟩ 8 (by kernel_rfl) (by kernel_rfl) (by kernel_rfl) (by kernel_rfl)) ?_
  intro W base args ds gs before hval0 hW hcnd hsz0 _
  have hsz : (DataW.weightsEach Try.prog (Try.f13.params.toList ++ Rows.fnExactAcyclicSetsSpec.plain.varTypes Try.prog) (ds ++ gs)).all (· ≤ reachBytes) = true := hsz0
  have hval : ∀ (j : Nat) t v, Try.f13.params[j]? = some t → args[j]? = some v → Value.okWide Try.prog W .any base t v := hval0
  have hW' := hW
  obtain ⟨p, q, hA0, hV, rfl, hfz, hnd⟩ := hW
  have hA : DataW.TrodAll enc Try.prog W 0 (fun _ => true) true Try.f13.params.toList args.toList ds p := hA0
  rw [Try.params13] at hA hval hsz
  obtain ⟨v0, vs0, d0, ds0, p0, q0, hargs, rfl, rfl, h0, r0⟩ := trodAll_cons hA
  obtain ⟨rfl, rfl, rfl⟩ := trodAll_nil r0
  obtain rfl : args = #[v0] := by cases args; simp_all
  obtain ⟨rfl, rfl⟩ := trodVars_none hV
  obtain ⟨c0_0, c0_1, y0_0, y0_1, m0, rfl, rfl, rfl, hy0_0, hy0_1⟩ := open_agg2 Try.underlying23 (by kernel_rfl) (by kernel_rfl) (hval 0 23 v0 rfl rfl) h0
  obtain ⟨a0_0, e0_0, rfl, wa0⟩ := DataW.trod_int Try.underlying3 hy0_0
  obtain ⟨a0_1, e0_1, rfl, ws0⟩ := DataW.trod_string Try.underlying9 hy0_1
  simp only [List.cons.injEq, and_true] at e0_0 e0_1
  subst e0_0 e0_1
  clear hA0 hval0 hsz0 hsz
  obtain ⟨k, hP⟩ := Pure.FnExactAcyclicSets a0_0 a0_1 wa0 ws0
  refine (PX.laws_FnExactAcyclicSets.calls k a0_0 a0_1 true W hP rfl).mono fun e W' ⟨he, bel⟩ => ?_
  subst he
  exact ⟨_, rfl, _, _, _, [], _, [], hW', trodAll_mk1 (shut_bool Try.underlying4 _), (trodAll_cons_mk (shut_agg2 Try.underlying23 (by kernel_rfl) (by kernel_rfl) ⟨_, trod_int_mk 0 Try.underlying3 wa0⟩ ⟨_, str_mk Try.underlying9 ws0⟩) trodAll_mk0), rfl, bel.frame _, fun h => by cases h⟩
theorem over : Rows.fnExactAcyclicSetsRow.holds Try.pinned (OpenSpec.ofChange Rows.fnExactAcyclicSetsSpec) :=
  OpenClaim.holds_of_wide 13 Try.f13 rfl rfl rfl rfl rfl rfl rfl ⟨rfl, rfl, rfl, rfl, rfl⟩ rfl rfl rfl rfl rfl (by kernel_rfl) Try.func13 (by kernel_rfl)
    (of_decide_eq_true (by kernel_rfl)) (by unfold Func.isWrapper; first | (rw [if_pos (by decide +kernel)]; kernel_rfl) | (rw [if_neg (by decide +kernel)]; exact ⟨rfl, rfl⟩))
    (fun os started H enc _ => lifted os started H enc)
theorem proved : Rows.FnExactAcyclicSetsSaid := over
#print axioms proved
end Go.Proofs.Ytggbekkinkggfaa.fnExactAcyclicSets
namespace Go.Proofs.Ytggbekkinkggfaa
/-- The row, under a short name, for the claim. -/
theorem fnExactAcyclicSets_holds : Rows.FnExactAcyclicSetsSaid := fnExactAcyclicSets.proved
end Go.Proofs.Ytggbekkinkggfaa
