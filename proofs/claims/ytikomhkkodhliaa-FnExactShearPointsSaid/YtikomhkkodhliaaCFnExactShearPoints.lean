/- FnExactShearPoints returns true for all arguments and leaves them as they were. No condition. -/
import Derived.Test.YtikomhkkodhliaaProg
import Derived.OpenShut
import Derived.Test.YtikomhkkodhliaaRows
import Derived.WalkKit
import Derived.ProofKit
import Derived.ShutString
import Derived.ChangeOld
import Derived.Below
import Derived.SizedLaws
import Derived.Lib.SmallJoins
import Derived.ChangeSame
import Derived.Deep.SlicePairs
import Derived.Test.YtikomhkkodhliaaV1
import Derived.Test.YtikomhkkodhliaaBjtekjl1
import Derived.Test.YtikomhkkodhliaaBjtekjl2
set_option linter.unusedVariables false
set_option linter.unusedSimpArgs false
namespace Go.Proofs.Ytikomhkkodhliaa.PX
open Go.RowKit Go.Proofs.Ytikomhkkodhliaa.G Go.Proofs.YtikomhkkodhliaaW.PrintWords Go.Proofs.YtikomhkkodhliaaW.PrintLast Go.Proofs.YtikomhkkodhliaaW.PrintMore
attribute [local go_sem] max2_int min2_int max_two min_two max_three min_three max_four min_four   -- for this text's walks alone
set_option linter.unusedVariables false
set_option linter.unusedSimpArgs false
/-! ### spec_ShearPoints: function 36 -/
mutual
def spec_ShearPoints.j0 : Nat → List (S36) → Int → Bool → Option ((List (S36)) × Bool)
 | 0, _, _, _ => none
 | k + 1, x0, x1, x16 => if x16 = true then (some ((([] : List (S36))), false)) else (spec_ShearPoints.l0 k x0 x1 (([] : List (S36))) 0)
def spec_ShearPoints.l0 : Nat → List (S36) → Int → List (S36) → Int → Option ((List (S36)) × Bool)
 | 0, _, _, _, _ => none
 | k + 1, x0, x1, x6, x7 => if x7 < (x0.length : Int) then (if 0 ≤ x7 then ((spec_l2Fits.f ((rd_T36 x0 x7).f0) (wrap64 (((rd_T36 x0 x7).f1) + (wrap64 (x1 * ((rd_T36 x0 x7).f0))))) 50).bind fun t397 => (if t397 = true then (if x6.length < 8796093022208 then (spec_ShearPoints.l0 k x0 x1 (x6 ++ [(⟨(rd_T36 x0 x7).f0, wrap64 (((rd_T36 x0 x7).f1) + (wrap64 (x1 * ((rd_T36 x0 x7).f0))))⟩ : S36)]) (wrap64 (x7 + 1))) else (none)) else (some ((([] : List (S36))), false)))) else (none)) else (some (x6, true))
end
def spec_ShearPoints.f (k : Nat) (l0 : List (S36)) (a1 : Int) : Option ((List (S36)) × Bool) := (spec_ArePoints.f k l0).bind fun t385 => (if t385 = true then ((spec_l1In.f a1 (-100) 100).bind fun t386 => (spec_ShearPoints.j0 k l0 a1 (!t386))) else (spec_ShearPoints.j0 k l0 a1 true))
theorem spec_ShearPoints.mono_l : ∀ k, (∀ y0 y1 y2, LeO (spec_ShearPoints.j0 k y0 y1 y2) (spec_ShearPoints.j0 (k + 1) y0 y1 y2)) ∧ (∀ y0 y1 y2 y3, LeO (spec_ShearPoints.l0 k y0 y1 y2 y3) (spec_ShearPoints.l0 (k + 1) y0 y1 y2 y3))
 | 0 => ⟨fun _ _ _ r h => by simp [spec_ShearPoints.j0] at h, fun _ _ _ _ r h => by simp [spec_ShearPoints.l0] at h⟩
 | k + 1 => by
  obtain ⟨ih0, ih1⟩ := spec_ShearPoints.mono_l k
  refine ⟨?_, ?_⟩ <;> intros <;> (first | unfold spec_ShearPoints.j0 | unfold spec_ShearPoints.l0) <;> repeat' first
  | (with_reducible exact ih0 _ _ _)
  | (with_reducible exact ih1 _ _ _ _)
  | (with_reducible exact spec_ArePoints.mono _ _)
  | (with_reducible exact LeO.refl _)
  | (with_reducible exact LeO.none _)
  | (with_reducible refine LeO.ite ?_ ?_)
  | (with_reducible refine LeO.bind ?_ (fun _ => ?_))
  | exact ih0 _ _ _
  | exact ih1 _ _ _ _
  | exact spec_ArePoints.mono _ _
  | exact LeO.none _
  | refine LeO.ite ?_ ?_
  | refine LeO.bind ?_ (fun _ => ?_)
theorem spec_ShearPoints.mono : ∀ a0 a1 k, LeO (spec_ShearPoints.f k a0 a1) (spec_ShearPoints.f (k + 1) a0 a1) := by
 intro a0 a1 k
 obtain ⟨ih0, ih1⟩ := spec_ShearPoints.mono_l k
 unfold spec_ShearPoints.f
 repeat' first
   | (with_reducible exact ih0 _ _ _)
   | (with_reducible exact ih1 _ _ _ _)
   | (with_reducible exact spec_ArePoints.mono _ _)
   | (with_reducible exact LeO.refl _)
   | (with_reducible exact LeO.none _)
   | (with_reducible refine LeO.ite ?_ ?_)
   | (with_reducible refine LeO.bind ?_ (fun _ => ?_))
   | exact ih0 _ _ _
   | exact ih1 _ _ _ _
   | exact spec_ArePoints.mono _ _
   | exact LeO.none _
   | refine LeO.ite ?_ ?_
   | refine LeO.bind ?_ (fun _ => ?_)
def spec_ShearPoints.T7 : Bool × List (List Nat × List Nat) := (true, [([], []), ([], []), ([0, 1], [0, 1]), ([2], [2]), ([3], [3]), ([], []), ([], []), ([5, 6], [5, 6]), ([7], [7]), ([8], [8]), ([], []), ([], []), ([], []), ([11, 12], [11, 12]), ([13], [13]), ([14], [14]), ([10, 15], [10, 15]), ([9, 16], [9, 16]), ([4, 17], [4, 17]), ([], []), ([19, 18, 0, 1, 2, 3, 4, 5, 6, 7, 8, 9, 10, 11, 12, 13, 14, 15, 16, 17, 18, 19], [18, 19])])
def spec_ShearPoints.B7 : List Nat := [0, 0, 3, 7, 15, 0, 0, 96, 224, 480, 0, 0, 0, 6144, 14336, 30720, 64512, 131040, 262143, 0, 1048575]
theorem spec_ShearPoints.tab7 : rtab .any (opsOf Try.f36 7) = spec_ShearPoints.T7 := by kernel_rfl
theorem spec_ShearPoints.bits7 : waitsOk spec_ShearPoints.T7.2 spec_ShearPoints.B7 = true := by kernel_rfl
set_option maxHeartbeats 8000000 in
set_option maxRecDepth 100000 in
theorem spec_ShearPoints.calls (k : Nat) (A0 : Option Addr) (c0 : Nat) (l0 : List (S36)) (a1 : Int) (r1 : List (S36)) (r2 : Bool) (w : World) (hr0 : Kd.C k36 w A0 l0.length l0) (hc0 : l0.length ≤ c0) (h : spec_ShearPoints.f k l0 a1 = some (r1, r2)) :
  Calls Try.prog 36 #[.slice A0 l0.length c0, .int .i64 a1] w fun e w' => ∃ v0_ : Value, e = .returned (.tuple #[v0_, .bool r2]) ∧ Kd.R k36 36 w' w.heap.size (fun _ => True) v0_ r1 ∧ Below w.heap.size w w' := by
 have hu36 := Try.underlying36
 have HR0 := Aside0.mk hr0
 have HC0 := Aside0.mk hc0
 clear hr0 hc0
 have HB := Aside0.mk (Below.refl w.heap.size w)
 have H : ((spec_ArePoints.f k l0).bind fun t385 => (if t385 = true then ((spec_l1In.f a1 (-100) 100).bind fun t386 => (spec_ShearPoints.j0 k l0 a1 (!t386))) else (spec_ShearPoints.j0 k l0 a1 true))) = some (r1, r2) := h
 clear h
 have HC3 := Aside0.mk H
 clear H
 go_enter Try.func36, Try.ntmps36
 go_upto_region 1 with (fail)
 go_cut [16] (fun v16 wc => ∃ (kq : Nat) (x16_2 : Bool), v16 = .bool x16_2 ∧ Aside0 (spec_ShearPoints.j0 kq l0 a1 x16_2 = some (r1, r2)) ∧ Aside0 (kq ≤ k) ∧ Aside0 (Below w.heap.size w wc))
 case first =>
  have H := HC3.out
  clear HC3
  replace H := Option.bind_eq_some_iff.mp H
  obtain ⟨t385, A40, H⟩ := H
  replace H : (if t385 = true then ((spec_l1In.f a1 (-100) 100).bind fun t386 => (spec_ShearPoints.j0 k l0 a1 (!t386))) else (spec_ShearPoints.j0 k l0 a1 true)) = some (r1, r2) := H
  have A4 := Aside0.mk A40
  clear A40
  by_cases c5 : t385 = true
  ·subst c5
   have H1 : ((spec_l1In.f a1 (-100) 100).bind fun t386 => (spec_ShearPoints.j0 k l0 a1 (!t386))) = some (r1, r2) := by rw [if_pos rfl] at H; exact H
   clear H
   have H := H1
   clear H1
   replace H := Option.bind_eq_some_iff.mp H
   obtain ⟨t386, A60, H⟩ := H
   replace H : (spec_ShearPoints.j0 k l0 a1 (!t386)) = some (r1, r2) := H
   have A6 := Aside0.mk A60
   clear A60
   have H' := Aside0.mk H
   clear H
   go_wp2_with (first | ((with_reducible refine gate_callee (f := 34) rfl ?_); refine goesL_ (some 10) rfl rfl Try.func34 (by kernel_rfl) rfl #[.slice A0 l0.length c0] rfl zM ?_; (with_reducible refine (spec_ArePoints.calls k _ _ l0 true _ ?side1 ?side2 A4.out).mono ?_); (case side1 => repeat (first | exact (Kd.C_below HR0.out HB.out) | (with_reducible refine Kd.C_alloc ?_ _) | (with_reducible refine Kd.C_drewN ?_ _) | (with_reducible refine Kd.C_drew ?_))); (case side2 => exact HC0.out); rintro e w7 ⟨rfl, hb⟩; refine ⟨_, rfl, ?_⟩; replace HB := Aside0.mk (below_step zB hb); (try clear hb)) | (go_at_call 58; (with_reducible refine (spec_l1In.calls a1 (-100) 100 t386 _ A6.out).mono ?_); rintro e w' ⟨rfl, ⟨nd, rfl⟩⟩))
   go_meet
   case rel => exact ⟨_, (!t386), zF, H', ⟨by first | omega | exact Nat.le_refl _⟩, ⟨zB⟩⟩
  ·replace c5 := Bool.eq_false_iff.mpr c5
   subst c5
   have H1 : (spec_ShearPoints.j0 k l0 a1 true) = some (r1, r2) := by rw [if_neg (show ¬ (false = true) by decide)] at H; exact H
   clear H
   have H := H1
   clear H1
   have H' := Aside0.mk H
   clear H
   go_wp2_with (first | ((with_reducible refine gate_callee (f := 34) rfl ?_); refine goesL_ (some 10) rfl rfl Try.func34 (by kernel_rfl) rfl #[.slice A0 l0.length c0] rfl zM ?_; (with_reducible refine (spec_ArePoints.calls k _ _ l0 false _ ?side1 ?side2 A4.out).mono ?_); (case side1 => repeat (first | exact (Kd.C_below HR0.out HB.out) | (with_reducible refine Kd.C_alloc ?_ _) | (with_reducible refine Kd.C_drewN ?_ _) | (with_reducible refine Kd.C_drew ?_))); (case side2 => exact HC0.out); rintro e w8 ⟨rfl, hb⟩; refine ⟨_, rfl, ?_⟩; replace HB := Aside0.mk (below_step zB hb); (try clear hb)))
   go_meet
   case rel => exact ⟨_, (true), zF, H', ⟨by first | omega | exact Nat.le_refl _⟩, ⟨zB⟩⟩
 case rest =>
  clear HC3
  try clear p2
  try clear c3
  try clear c5
  obtain ⟨kq, x16_2, rfl, HA, HJ2, HB⟩ := hcut
  cases kq with
  | zero => exact absurd HA.out (by simp [spec_ShearPoints.j0])
  | succ kj2 =>
   have H := HA.out
   clear HA
   simp only [spec_ShearPoints.j0] at H
   by_cases c9 : x16_2 = true
   ·subst c9
    have H1 : (some ((([] : List (S36))), false)) = some (r1, r2) := by rw [if_pos rfl] at H; exact H
    clear H
    have H := H1
    clear H1
    obtain ⟨y387, hy387⟩ : ∃ y_ : List (S36), y_ = (([] : List (S36))) := ⟨_, rfl⟩
    replace H : (some (y387, false)) = some (r1, r2) := by first | (rw [hy387]; with_reducible exact H) | (have H2_ := (Option.bind_some _ _).symm.trans H; rw [hy387]; with_reducible exact H2_) | (have H2_ := (Option.bind_some _ _).symm.trans H; with_reducible exact H2_) | with_reducible exact H | (rw [hy387]; exact H) | exact H
    have Ny387 := Aside0.mk hy387
    clear hy387
    simp only [Option.some.injEq, Prod.mk.injEq] at H
    obtain ⟨rfl, rfl⟩ := H
    go_wp2_with (first | ((with_reducible refine gate_dst (N := 17) rfl ?_); refine Kd.R_lit k36 _ 36 ?hg (N := 17) ?hd (xs := ([] : List (S36))) (inner := []) (ok := fun _ => True) (okp := fun _ => True) ?hr ?hp (fun _ hk => hk) trivial (Below.refl _ _) (Nat.le_refl _) (by simp) ?_; (case hd => rfl); (case hg => rfl); (case hr => first | (go_simp; done) | (go_simp; rfl)); (case hp => exact (Reps.none _ _)); intro v388 w10 ho11 hb hg_ hnew_; clear hg_ hnew_; (first | rw [← Ny387.out] at ho11 | (simp only [Int.reduceToNat] at ho11; rw [← Ny387.out] at ho11)); have HO389 := Aside0.mk (Kd.R_lower ho11 (below_size zB)); replace HB := Aside0.mk (below_step zB hb); clear hb ho11))
    go_ret2
    exact ⟨_, zE, zR HO389.out, zB⟩
   ·replace c9 := Bool.eq_false_iff.mpr c9
    subst c9
    have H1 : (spec_ShearPoints.l0 kj2 l0 a1 (([] : List (S36))) 0) = some (r1, r2) := by rw [if_neg (show ¬ (false = true) by decide)] at H; exact H
    clear H
    have H := H1
    clear H1
    obtain ⟨y390, hy390⟩ : ∃ y_ : List (S36), y_ = (([] : List (S36))) := ⟨_, rfl⟩
    replace H : (spec_ShearPoints.l0 kj2 l0 a1 y390 0) = some (r1, r2) := by first | (rw [hy390]; with_reducible exact H) | (have H2_ := (Option.bind_some _ _).symm.trans H; rw [hy390]; with_reducible exact H2_) | (have H2_ := (Option.bind_some _ _).symm.trans H; with_reducible exact H2_) | with_reducible exact H | (rw [hy390]; exact H) | exact H
    have Ny390 := Aside0.mk hy390
    clear hy390
    have H' := Aside0.mk H
    clear H
    go_wp2_with (first | ((with_reducible refine gate_dst (N := 18) rfl ?_); refine Kd.R_lit k36 _ 36 ?hg (N := 18) ?hd (xs := ([] : List (S36))) (inner := []) (ok := fun _ => True) (okp := fun _ => True) ?hr ?hp (fun _ hk => hk) trivial (Below.refl _ _) (Nat.le_refl _) (by simp) ?_; (case hd => rfl); (case hg => rfl); (case hr => first | (go_simp; done) | (go_simp; rfl)); (case hp => exact (Reps.none _ _)); intro v391 w12 ho13 hb hg_ hnew_; clear hg_ hnew_; (first | rw [← Ny390.out] at ho13 | (simp only [Int.reduceToNat] at ho13; rw [← Ny390.out] at ho13)); have HO392 := Aside0.mk (Kd.R_lower ho13 (below_size zB)); replace HB := Aside0.mk (below_step zB hb); clear hb ho13))
    go_loopg [6, 7] kj2 (fun kq v6 v7 w' => ∃ (x6_2 : List (S36)) (x7_2 : Int), v7 = .int .i64 x7_2 ∧ Aside0 (spec_ShearPoints.l0 kq l0 a1 x6_2 x7_2 = some (r1, r2)) ∧ Aside0 (kq ≤ kj2) ∧ Aside0 (Kd.R k36 36 w' w.heap.size (fun _ => True) v6 x6_2) ∧ Aside0 (Below w.heap.size w w'))
    case atStart => exact ⟨(y390), (0), zF, H', ⟨Nat.le_refl _⟩, ⟨zR HO392.out⟩, ⟨zB⟩⟩
    case round =>
     clear H'
     try clear p2
     try clear c3
     try clear c5
     try clear c9
     try clear p2
     obtain ⟨x6_2, x7_2, rfl, HA, HK2, HO_6, HB⟩ := hrel
     cases gk with
     | zero => exact absurd HA.out (by simp [spec_ShearPoints.l0])
     | succ k2 =>
      have H := HA.out
      clear HA
      simp only [spec_ShearPoints.l0] at H
      by_cases c14 : x7_2 < (l0.length : Int)
      ·rw [if_pos c14] at H
       have c14b0 : decide (x7_2 < (l0.length : Int)) = true := decide_eq_true c14
       clear c14
       by_cases c15 : 0 ≤ x7_2
       ·rw [if_pos c15] at H
        have c15b0 : decide (0 ≤ x7_2) = true := decide_eq_true c15
        clear c15
        replace H := Option.bind_eq_some_iff.mp H
        obtain ⟨t397, A160, H⟩ := H
        replace H : (if t397 = true then (if x6_2.length < 8796093022208 then (spec_ShearPoints.l0 k2 l0 a1 (x6_2 ++ [(⟨(rd_T36 l0 x7_2).f0, wrap64 (((rd_T36 l0 x7_2).f1) + (wrap64 (a1 * ((rd_T36 l0 x7_2).f0))))⟩ : S36)]) (wrap64 (x7_2 + 1))) else (none)) else (some ((([] : List (S36))), false))) = some (r1, r2) := H
        have A16 := Aside0.mk A160
        clear A160
        by_cases c17 : t397 = true
        ·subst c17
         have H1 : (if x6_2.length < 8796093022208 then (spec_ShearPoints.l0 k2 l0 a1 (x6_2 ++ [(⟨(rd_T36 l0 x7_2).f0, wrap64 (((rd_T36 l0 x7_2).f1) + (wrap64 (a1 * ((rd_T36 l0 x7_2).f0))))⟩ : S36)]) (wrap64 (x7_2 + 1))) else (none)) = some (r1, r2) := by rw [if_pos rfl] at H; exact H
         clear H
         have H := H1
         clear H1
         by_cases c18 : x6_2.length < 8796093022208
         ·rw [if_pos c18] at H
          have LMc18 := Aside0.mk c18
          clear c18
          obtain ⟨y398, hy398⟩ : ∃ y_ : List (S36), y_ = (x6_2 ++ [(⟨(rd_T36 l0 x7_2).f0, wrap64 (((rd_T36 l0 x7_2).f1) + (wrap64 (a1 * ((rd_T36 l0 x7_2).f0))))⟩ : S36)]) := ⟨_, rfl⟩
          replace H : (spec_ShearPoints.l0 k2 l0 a1 y398 (wrap64 (x7_2 + 1))) = some (r1, r2) := by first | (rw [hy398]; with_reducible exact H) | (have H2_ := (Option.bind_some _ _).symm.trans H; rw [hy398]; with_reducible exact H2_) | (have H2_ := (Option.bind_some _ _).symm.trans H; with_reducible exact H2_) | with_reducible exact H | (rw [hy398]; exact H) | exact H
          have Ny398 := Aside0.mk hy398
          clear hy398
          have H' := Aside0.mk H
          clear H
          try go_wp2
          have n0_ := Aside0.mk (Kd.R_drew HO_6.out)
          have n1_ := Aside0.mk (below_drew1 HB.out)
          clear HO_6
          clear HB
          have HO_6 := n0_
          have HB := n1_
          clear n0_ n1_
          have p393 : 0 ≤ (x7_2 : Int) := zA
          have q393 : x7_2 < (l0.length : Int) := zA
          obtain ⟨ad393, e393, hx393_0, hx393_1⟩ := at_T36 HR0.out x7_2 p393 q393
          have hw393_1 := hx393_1
          have hw393_0 := hx393_0
          cases e393
          replace hx393_0 := (HB.out.cell (World.block_lt_of_cell? w _ hx393_0)).trans hx393_0
          replace hx393_1 := (HB.out.cell (World.block_lt_of_cell? w _ hx393_1)).trans hx393_1
          replace p393 := eq_true p393
          replace q393 := eq_true q393
          have p394 : 0 ≤ (x7_2 : Int) := zA
          have q394 : x7_2 < (l0.length : Int) := zA
          obtain ⟨ad394, e394, hx394_0, hx394_1⟩ := at_T36 HR0.out x7_2 p394 q394
          have hw394_1 := hx394_1
          have hw394_0 := hx394_0
          obtain rfl : ad393 = ad394 := (by injection e394)
          replace hx394_0 := (HB.out.cell (World.block_lt_of_cell? w _ hx394_0)).trans hx394_0
          replace hx394_1 := (HB.out.cell (World.block_lt_of_cell? w _ hx394_1)).trans hx394_1
          replace p394 := eq_true p394
          replace q394 := eq_true q394
          have p395 : 0 ≤ (x7_2 : Int) := zA
          have q395 : x7_2 < (l0.length : Int) := zA
          obtain ⟨ad395, e395, hx395_0, hx395_1⟩ := at_T36 HR0.out x7_2 p395 q395
          have hw395_1 := hx395_1
          have hw395_0 := hx395_0
          obtain rfl : ad393 = ad395 := (by injection e395)
          replace hx395_0 := (HB.out.cell (World.block_lt_of_cell? w _ hx395_0)).trans hx395_0
          replace hx395_1 := (HB.out.cell (World.block_lt_of_cell? w _ hx395_1)).trans hx395_1
          replace p395 := eq_true p395
          replace q395 := eq_true q395
          refine start_ (n := 21) (S := fun w' => w'.cell? (ad393.add ((x7_2).toNat * 2)) = some (.int .i64 ((rd_T36 l0 x7_2).f0)) ∧ w'.cell? ⟨(ad393.add ((x7_2).toNat * 2)).block, (ad393.add ((x7_2).toNat * 2)).off + 1, none⟩ = some (.int .i64 ((rd_T36 l0 x7_2).f1)) ∧ w'.cell? (ad393.add ((x7_2).toNat * 2)) = some (.int .i64 ((rd_T36 l0 x7_2).f0)) ∧ w'.cell? ⟨(ad393.add ((x7_2).toNat * 2)).block, (ad393.add ((x7_2).toNat * 2)).off + 1, none⟩ = some (.int .i64 ((rd_T36 l0 x7_2).f1)) ∧ w'.cell? (ad393.add ((x7_2).toNat * 2)) = some (.int .i64 ((rd_T36 l0 x7_2).f0)) ∧ w'.cell? ⟨(ad393.add ((x7_2).toNat * 2)).block, (ad393.add ((x7_2).toNat * 2)).off + 1, none⟩ = some (.int .i64 ((rd_T36 l0 x7_2).f1))) (ds := []) #[false, false, false, false, false, false, false, false, false, false, false, false, false, false, false, false, false, false, false, false, false] (by kernel_rfl) rfl rfl ⟨((HB.out.cell (World.block_lt_of_cell? w _ hw393_0)).trans hw393_0), ((HB.out.cell (World.block_lt_of_cell? w _ hw393_1)).trans hw393_1), ((HB.out.cell (World.block_lt_of_cell? w _ hw394_0)).trans hw394_0), ((HB.out.cell (World.block_lt_of_cell? w _ hw394_1)).trans hw394_1), ((HB.out.cell (World.block_lt_of_cell? w _ hw395_0)).trans hw395_0), ((HB.out.cell (World.block_lt_of_cell? w _ hw395_1)).trans hw395_1)⟩ (fun hHeld => ?_); refine with_tabW spec_ShearPoints.tab7 spec_ShearPoints.bits7 (fun HT_ HW_ => ?_)
          generalize wr.drew = w19 at HO_6 HB hx393_0 hx393_1 hx394_0 hx394_1 hx395_0 hx395_1 hHeld ⊢
          refine zP 0 (some 25) rfl rfl ?_
          refine zP 1 (some 26) rfl rfl ?_
          refine zP 2 (some 27) rfl rfl ?_
          refine zP 3 (some 28) rfl rfl ?_
          refine zP 5 (some 30) rfl rfl ?_
          refine zP 6 (some 31) rfl rfl ?_
          refine zP 7 (some 32) rfl rfl ?_
          refine zP 8 (some 33) rfl rfl ?_
          refine zP 10 (some 35) rfl rfl ?_
          refine zP 11 (some 36) rfl rfl ?_
          refine zP 12 (some 37) rfl rfl ?_
          refine zP 13 (some 38) rfl rfl ?_
          refine zP 14 (some 39) rfl rfl ?_
          refine take_ (i := 4) (N := some 29) (v := ?_) (a' := ?_) #[true, true, true, true, true, true, true, true, true, false, true, true, true, true, true, false, false, false, false, false, false] rfl rfl (take_ofW HT_.out HW_.out (by kernel_rfl)) (fun _ _ _ h => h) (Or.inl ⟨by rfl, ?_⟩) hHeld ?_ ?_
          rotate_left
          ·rintro w' ⟨s0, s1, s2, s3, s4, s5⟩
           go_simp
           with_reducible rfl
          rotate_left
          ·simp only [Act.put, List.setIfInBounds_toArray, List.set_cons_zero, List.set_cons_succ, i64_w, i32_w]
           rfl
          refine take_ (i := 9) (N := some 34) (v := ?_) (a' := ?_) #[true, true, true, true, true, true, true, true, true, true, true, true, true, true, true, false, false, false, false, false, false] rfl rfl (take_ofW HT_.out HW_.out (by kernel_rfl)) (fun _ _ _ h => h) (Or.inl ⟨by rfl, ?_⟩) hHeld ?_ ?_
          rotate_left
          ·rintro w' ⟨s0, s1, s2, s3, s4, s5⟩
           go_simp
           with_reducible rfl
          rotate_left
          ·simp only [Act.put, List.setIfInBounds_toArray, List.set_cons_zero, List.set_cons_succ, i64_w, i32_w]
           rfl
          refine take_ (i := 15) (N := some 40) (v := ?_) (a' := ?_) #[true, true, true, true, true, true, true, true, true, true, true, true, true, true, true, true, false, false, false, false, false] rfl rfl (take_ofW HT_.out HW_.out (by kernel_rfl)) (fun _ _ _ h => h) (Or.inl ⟨by rfl, ?_⟩) hHeld ?_ ?_
          rotate_left
          ·rintro w' ⟨s0, s1, s2, s3, s4, s5⟩
           go_simp
           with_reducible rfl
          rotate_left
          ·simp only [Act.put, List.setIfInBounds_toArray, List.set_cons_zero, List.set_cons_succ, i64_w, i32_w]
           rfl
          refine zP 16 (some 41) rfl rfl ?_
          refine zP 17 (some 42) rfl rfl ?_
          refine zP 18 (some 43) rfl rfl ?_
          refine one_ (i := 19) (N := some 8) #[true, true, true, true, true, true, true, true, true, true, true, true, true, true, true, true, true, true, true, true, false] rfl rfl (one_of HT_.out (by kernel_rfl)) (by decide) (fun K hK => ?_)
          refine box_step ?hg (N := 8) ?hd (cs := #[.int .i64 0, .int .i64 0]) (t := 36) ?hr ?_; (case hd => rfl); (case hg => rfl); (case hr => first | (go_simp; done) | (go_simp; rfl))
          intro gb396 hg w20 hbox hb
          have n0_ := Aside0.mk (Kd.R_below (Kd.R_elderB (zR HO_6.out) gb396 (Nat.le_of_eq hg.symm)) hb)
          have n1_ := Aside0.mk (below_step zB hb)
          have n2_ := Aside0.mk (hbox)
          have n3_ := Aside0.mk ((by rw [hg]; exact (below_size zB) : w.heap.size ≤ gb396))
          have n4_ := Aside0.mk ((by rw [hg]; exact (below_size zB) : w.heap.size ≤ gb396))
          clear HO_6
          clear HB
          have HO_6 := n0_
          have HB := n1_
          have BK396 := n2_
          have GW396 := n3_
          have GE396 := n4_
          clear n0_ n1_ n2_ n3_ n4_
          clear hb hbox hg
          refine hK.out _ _ ⟨((HB.out.cell (World.block_lt_of_cell? w _ hw393_0)).trans hw393_0), ((HB.out.cell (World.block_lt_of_cell? w _ hw393_1)).trans hw393_1), ((HB.out.cell (World.block_lt_of_cell? w _ hw394_0)).trans hw394_0), ((HB.out.cell (World.block_lt_of_cell? w _ hw394_1)).trans hw394_1), ((HB.out.cell (World.block_lt_of_cell? w _ hw395_0)).trans hw395_0), ((HB.out.cell (World.block_lt_of_cell? w _ hw395_1)).trans hw395_1)⟩ (fun hHeld => ?_)
          clear hK K
          refine norm_ (a' := ?_) ?_ ?_
          rotate_left
          ·show Act.put _ (some 8) _ = _
           simp only [Act.put, List.setIfInBounds_toArray, List.set_cons_zero, List.set_cons_succ, i64_w, i32_w]
           rfl
          refine one_ (i := 20) (N := none) #[true, true, true, true, true, true, true, true, true, true, true, true, true, true, true, true, true, true, true, true, true] rfl rfl (one_of HT_.out (by kernel_rfl)) (by decide) (fun K hK => ?_)
          have hs21 : w20.cell? ⟨gb396, 0, none⟩ = some (.int .i64 0) := (blk_cell BK396.out 0).trans rfl
          have hfs21 := blk_frozen BK396.out 0
          have hs22 : w20.cell? ⟨gb396, 1, none⟩ = some (.int .i64 0) := (blk_cell BK396.out 1).trans rfl
          have hfs22 := blk_frozen BK396.out 1
          refine skip_ (w1 := ?_) (by rfl) rfl ?_ ?_
          rotate_left
          ·go_simp
           rfl
          refine hK.out _ _ ⟨((cell_far (p := ⟨gb396, _, none⟩) (by first | exact Nat.ne_of_lt (Nat.lt_of_lt_of_le (by have := World.block_lt_of_cell? _ _ hw393_0; first | rwa [add_block] at this | exact this) GW396.out) | (rw [add_block]; exact Nat.ne_of_lt (Nat.lt_of_lt_of_le (by have := World.block_lt_of_cell? _ _ hw393_0; first | rwa [add_block] at this | exact this) GW396.out)) | (show (Addr.add _ _).block ≠ _; rw [add_block]; exact Nat.ne_of_lt (Nat.lt_of_lt_of_le (by have := World.block_lt_of_cell? _ _ hw393_0; first | rwa [add_block] at this | exact this) GW396.out)) | (dsimp only; exact Nat.ne_of_lt (Nat.lt_of_lt_of_le (by have := World.block_lt_of_cell? _ _ hw393_0; first | rwa [add_block] at this | exact this) GW396.out))) _).trans (((cell_far (p := ⟨gb396, _, none⟩) (by first | exact Nat.ne_of_lt (Nat.lt_of_lt_of_le (by have := World.block_lt_of_cell? _ _ hw393_0; first | rwa [add_block] at this | exact this) GW396.out) | (rw [add_block]; exact Nat.ne_of_lt (Nat.lt_of_lt_of_le (by have := World.block_lt_of_cell? _ _ hw393_0; first | rwa [add_block] at this | exact this) GW396.out)) | (show (Addr.add _ _).block ≠ _; rw [add_block]; exact Nat.ne_of_lt (Nat.lt_of_lt_of_le (by have := World.block_lt_of_cell? _ _ hw393_0; first | rwa [add_block] at this | exact this) GW396.out)) | (dsimp only; exact Nat.ne_of_lt (Nat.lt_of_lt_of_le (by have := World.block_lt_of_cell? _ _ hw393_0; first | rwa [add_block] at this | exact this) GW396.out))) _).trans (hHeld.1)))), ((cell_far (p := ⟨gb396, _, none⟩) (by first | exact Nat.ne_of_lt (Nat.lt_of_lt_of_le (by have := World.block_lt_of_cell? _ _ hw393_1; first | rwa [add_block] at this | exact this) GW396.out) | (rw [add_block]; exact Nat.ne_of_lt (Nat.lt_of_lt_of_le (by have := World.block_lt_of_cell? _ _ hw393_1; first | rwa [add_block] at this | exact this) GW396.out)) | (show (Addr.add _ _).block ≠ _; rw [add_block]; exact Nat.ne_of_lt (Nat.lt_of_lt_of_le (by have := World.block_lt_of_cell? _ _ hw393_1; first | rwa [add_block] at this | exact this) GW396.out)) | (dsimp only; exact Nat.ne_of_lt (Nat.lt_of_lt_of_le (by have := World.block_lt_of_cell? _ _ hw393_1; first | rwa [add_block] at this | exact this) GW396.out))) _).trans (((cell_far (p := ⟨gb396, _, none⟩) (by first | exact Nat.ne_of_lt (Nat.lt_of_lt_of_le (by have := World.block_lt_of_cell? _ _ hw393_1; first | rwa [add_block] at this | exact this) GW396.out) | (rw [add_block]; exact Nat.ne_of_lt (Nat.lt_of_lt_of_le (by have := World.block_lt_of_cell? _ _ hw393_1; first | rwa [add_block] at this | exact this) GW396.out)) | (show (Addr.add _ _).block ≠ _; rw [add_block]; exact Nat.ne_of_lt (Nat.lt_of_lt_of_le (by have := World.block_lt_of_cell? _ _ hw393_1; first | rwa [add_block] at this | exact this) GW396.out)) | (dsimp only; exact Nat.ne_of_lt (Nat.lt_of_lt_of_le (by have := World.block_lt_of_cell? _ _ hw393_1; first | rwa [add_block] at this | exact this) GW396.out))) _).trans (hHeld.2.1)))), ((cell_far (p := ⟨gb396, _, none⟩) (by first | exact Nat.ne_of_lt (Nat.lt_of_lt_of_le (by have := World.block_lt_of_cell? _ _ hw394_0; first | rwa [add_block] at this | exact this) GW396.out) | (rw [add_block]; exact Nat.ne_of_lt (Nat.lt_of_lt_of_le (by have := World.block_lt_of_cell? _ _ hw394_0; first | rwa [add_block] at this | exact this) GW396.out)) | (show (Addr.add _ _).block ≠ _; rw [add_block]; exact Nat.ne_of_lt (Nat.lt_of_lt_of_le (by have := World.block_lt_of_cell? _ _ hw394_0; first | rwa [add_block] at this | exact this) GW396.out)) | (dsimp only; exact Nat.ne_of_lt (Nat.lt_of_lt_of_le (by have := World.block_lt_of_cell? _ _ hw394_0; first | rwa [add_block] at this | exact this) GW396.out))) _).trans (((cell_far (p := ⟨gb396, _, none⟩) (by first | exact Nat.ne_of_lt (Nat.lt_of_lt_of_le (by have := World.block_lt_of_cell? _ _ hw394_0; first | rwa [add_block] at this | exact this) GW396.out) | (rw [add_block]; exact Nat.ne_of_lt (Nat.lt_of_lt_of_le (by have := World.block_lt_of_cell? _ _ hw394_0; first | rwa [add_block] at this | exact this) GW396.out)) | (show (Addr.add _ _).block ≠ _; rw [add_block]; exact Nat.ne_of_lt (Nat.lt_of_lt_of_le (by have := World.block_lt_of_cell? _ _ hw394_0; first | rwa [add_block] at this | exact this) GW396.out)) | (dsimp only; exact Nat.ne_of_lt (Nat.lt_of_lt_of_le (by have := World.block_lt_of_cell? _ _ hw394_0; first | rwa [add_block] at this | exact this) GW396.out))) _).trans (hHeld.2.2.1)))), ((cell_far (p := ⟨gb396, _, none⟩) (by first | exact Nat.ne_of_lt (Nat.lt_of_lt_of_le (by have := World.block_lt_of_cell? _ _ hw394_1; first | rwa [add_block] at this | exact this) GW396.out) | (rw [add_block]; exact Nat.ne_of_lt (Nat.lt_of_lt_of_le (by have := World.block_lt_of_cell? _ _ hw394_1; first | rwa [add_block] at this | exact this) GW396.out)) | (show (Addr.add _ _).block ≠ _; rw [add_block]; exact Nat.ne_of_lt (Nat.lt_of_lt_of_le (by have := World.block_lt_of_cell? _ _ hw394_1; first | rwa [add_block] at this | exact this) GW396.out)) | (dsimp only; exact Nat.ne_of_lt (Nat.lt_of_lt_of_le (by have := World.block_lt_of_cell? _ _ hw394_1; first | rwa [add_block] at this | exact this) GW396.out))) _).trans (((cell_far (p := ⟨gb396, _, none⟩) (by first | exact Nat.ne_of_lt (Nat.lt_of_lt_of_le (by have := World.block_lt_of_cell? _ _ hw394_1; first | rwa [add_block] at this | exact this) GW396.out) | (rw [add_block]; exact Nat.ne_of_lt (Nat.lt_of_lt_of_le (by have := World.block_lt_of_cell? _ _ hw394_1; first | rwa [add_block] at this | exact this) GW396.out)) | (show (Addr.add _ _).block ≠ _; rw [add_block]; exact Nat.ne_of_lt (Nat.lt_of_lt_of_le (by have := World.block_lt_of_cell? _ _ hw394_1; first | rwa [add_block] at this | exact this) GW396.out)) | (dsimp only; exact Nat.ne_of_lt (Nat.lt_of_lt_of_le (by have := World.block_lt_of_cell? _ _ hw394_1; first | rwa [add_block] at this | exact this) GW396.out))) _).trans (hHeld.2.2.2.1)))), ((cell_far (p := ⟨gb396, _, none⟩) (by first | exact Nat.ne_of_lt (Nat.lt_of_lt_of_le (by have := World.block_lt_of_cell? _ _ hw395_0; first | rwa [add_block] at this | exact this) GW396.out) | (rw [add_block]; exact Nat.ne_of_lt (Nat.lt_of_lt_of_le (by have := World.block_lt_of_cell? _ _ hw395_0; first | rwa [add_block] at this | exact this) GW396.out)) | (show (Addr.add _ _).block ≠ _; rw [add_block]; exact Nat.ne_of_lt (Nat.lt_of_lt_of_le (by have := World.block_lt_of_cell? _ _ hw395_0; first | rwa [add_block] at this | exact this) GW396.out)) | (dsimp only; exact Nat.ne_of_lt (Nat.lt_of_lt_of_le (by have := World.block_lt_of_cell? _ _ hw395_0; first | rwa [add_block] at this | exact this) GW396.out))) _).trans (((cell_far (p := ⟨gb396, _, none⟩) (by first | exact Nat.ne_of_lt (Nat.lt_of_lt_of_le (by have := World.block_lt_of_cell? _ _ hw395_0; first | rwa [add_block] at this | exact this) GW396.out) | (rw [add_block]; exact Nat.ne_of_lt (Nat.lt_of_lt_of_le (by have := World.block_lt_of_cell? _ _ hw395_0; first | rwa [add_block] at this | exact this) GW396.out)) | (show (Addr.add _ _).block ≠ _; rw [add_block]; exact Nat.ne_of_lt (Nat.lt_of_lt_of_le (by have := World.block_lt_of_cell? _ _ hw395_0; first | rwa [add_block] at this | exact this) GW396.out)) | (dsimp only; exact Nat.ne_of_lt (Nat.lt_of_lt_of_le (by have := World.block_lt_of_cell? _ _ hw395_0; first | rwa [add_block] at this | exact this) GW396.out))) _).trans (hHeld.2.2.2.2.1)))), ((cell_far (p := ⟨gb396, _, none⟩) (by first | exact Nat.ne_of_lt (Nat.lt_of_lt_of_le (by have := World.block_lt_of_cell? _ _ hw395_1; first | rwa [add_block] at this | exact this) GW396.out) | (rw [add_block]; exact Nat.ne_of_lt (Nat.lt_of_lt_of_le (by have := World.block_lt_of_cell? _ _ hw395_1; first | rwa [add_block] at this | exact this) GW396.out)) | (show (Addr.add _ _).block ≠ _; rw [add_block]; exact Nat.ne_of_lt (Nat.lt_of_lt_of_le (by have := World.block_lt_of_cell? _ _ hw395_1; first | rwa [add_block] at this | exact this) GW396.out)) | (dsimp only; exact Nat.ne_of_lt (Nat.lt_of_lt_of_le (by have := World.block_lt_of_cell? _ _ hw395_1; first | rwa [add_block] at this | exact this) GW396.out))) _).trans (((cell_far (p := ⟨gb396, _, none⟩) (by first | exact Nat.ne_of_lt (Nat.lt_of_lt_of_le (by have := World.block_lt_of_cell? _ _ hw395_1; first | rwa [add_block] at this | exact this) GW396.out) | (rw [add_block]; exact Nat.ne_of_lt (Nat.lt_of_lt_of_le (by have := World.block_lt_of_cell? _ _ hw395_1; first | rwa [add_block] at this | exact this) GW396.out)) | (show (Addr.add _ _).block ≠ _; rw [add_block]; exact Nat.ne_of_lt (Nat.lt_of_lt_of_le (by have := World.block_lt_of_cell? _ _ hw395_1; first | rwa [add_block] at this | exact this) GW396.out)) | (dsimp only; exact Nat.ne_of_lt (Nat.lt_of_lt_of_le (by have := World.block_lt_of_cell? _ _ hw395_1; first | rwa [add_block] at this | exact this) GW396.out))) _).trans (hHeld.2.2.2.2.2))))⟩ (fun hHeld => ?_)
          clear hK K
          refine done_ (done_of HT_.out (by kernel_rfl)) ?_
          have hcz23_0 : w20.cell? ⟨gb396, 0, none⟩ = some (.int .i64 0) := (blk_cell BK396.out 0).trans rfl
          have hcz23_1 : w20.cell? ⟨gb396, 1, none⟩ = some (.int .i64 0) := (blk_cell BK396.out 1).trans rfl
          have hfz23_0 := blk_frozen BK396.out 0
          have hfz23_1 := blk_frozen BK396.out 1
          try go_wp2_with (first | ((with_reducible refine gate_callee (f := 48) rfl ?_); refine goesL_ (some 45) rfl rfl Try.func48 (by kernel_rfl) rfl #[.agg #[.int .i64 ((rd_T36 l0 x7_2).f0), .int .i64 (wrap64 (((rd_T36 l0 x7_2).f1) + (wrap64 (a1 * ((rd_T36 l0 x7_2).f0)))))], .int .i64 50] rfl zM ?_; (with_reducible refine (spec_l2Fits.calls ((rd_T36 l0 x7_2).f0) (wrap64 (((rd_T36 l0 x7_2).f1) + (wrap64 (a1 * ((rd_T36 l0 x7_2).f0))))) 50 true _ A16.out).mono ?_); rintro e w24 ⟨rfl, hb⟩; refine ⟨_, rfl, ?_⟩; replace HO_6 := Aside0.mk (Kd.R_below (by (with_reducible repeat (first | apply Kd.R_alloc | apply Kd.R_drewN | apply Kd.R_drew)); exact (Kd.R_mono (Kd.R_far (p := ⟨gb396, 1, none⟩) (Kd.R_far (p := ⟨gb396, 0, none⟩) (Kd.R_mono HO_6.out (fun k_ hk => (⟨hk, hk.2⟩ : _ ∧ k_ ≠ gb396))) (fun _ hk => hk.2) (.int .i64 ((rd_T36 l0 x7_2).f0))) (fun _ hk => hk.2) (.int .i64 (wrap64 (((rd_T36 l0 x7_2).f1) + (wrap64 (a1 * ((rd_T36 l0 x7_2).f0))))))) (fun _ h_ => h_.1))) hb); replace BK396 := Aside0.mk (blk_below (g := gb396) (o := .cells #[.int .i64 ((rd_T36 l0 x7_2).f0), .int .i64 (wrap64 (((rd_T36 l0 x7_2).f1) + (wrap64 (a1 * ((rd_T36 l0 x7_2).f0)))))] 36 (0, 0)) (by (with_reducible repeat (first | refine blk_drewN ?_ _ | refine blk_drew ?_ | refine blk_alloc ?_ _)); refine blk_put (cs := #[.int .i64 ((rd_T36 l0 x7_2).f0), .int .i64 0]) ?_ 1 _ rfl; (with_reducible repeat (first | refine blk_drewN ?_ _ | refine blk_drew ?_ | refine blk_alloc ?_ _)); refine blk_put (cs := #[.int .i64 0, .int .i64 0]) ?_ 0 _ rfl; (with_reducible repeat (first | refine blk_drewN ?_ _ | refine blk_drew ?_ | refine blk_alloc ?_ _)); exact BK396.out) hb); replace HB := Aside0.mk (below_step (zG GE396.out) hb); (try clear hb); have hcz25_0 : w24.cell? ⟨gb396, 0, none⟩ = some (.int .i64 ((rd_T36 l0 x7_2).f0)) := (blk_cell BK396.out 0).trans rfl; have hcz25_1 : w24.cell? ⟨gb396, 1, none⟩ = some (.int .i64 (wrap64 (((rd_T36 l0 x7_2).f1) + (wrap64 (a1 * ((rd_T36 l0 x7_2).f0)))))) := (blk_cell BK396.out 1).trans rfl; have hfz25_0 := blk_frozen BK396.out 0; have hfz25_1 := blk_frozen BK396.out 1) | ((with_reducible refine gate_builtin (b := .append) (xs := #[.tmp 48, .tmp 50]) rfl ?_); at_builtin; refine Kd.R_append k36 (w0 := w) w.heap.size rfl (.tmp 48) (.tmp 50) 30 36 (.agg #[(.int .i64 0), (.int .i64 0)]) 16 rfl Try.underlying30 info36 rfl (by decide) (by omega) u6 x6_2 (⟨(rd_T36 l0 x7_2).f0, wrap64 (((rd_T36 l0 x7_2).f1) + (wrap64 (a1 * ((rd_T36 l0 x7_2).f0))))⟩ : S36) [.int .i64 ((rd_T36 l0 x7_2).f0), .int .i64 (wrap64 (((rd_T36 l0 x7_2).f1) + (wrap64 (a1 * ((rd_T36 l0 x7_2).f0)))))] (fun k_ => k_ ≠ gb396) (fun _ => False) rfl rfl ?aP (fun _ hk => hk.elim) ?aF ?aO ?aB ?aS ?aL ?_; (case aP => exact k36_mkM _ _ _ (⟨(rd_T36 l0 x7_2).f0, wrap64 (((rd_T36 l0 x7_2).f1) + (wrap64 (a1 * ((rd_T36 l0 x7_2).f0))))⟩ : S36)); (case aB => exact (zG GE396.out)); (case aF => exact (fun k_ hk => Kd.freshB (g := gb396) (o := .cells #[.int .i64 ((rd_T36 l0 x7_2).f0), .int .i64 (wrap64 (((rd_T36 l0 x7_2).f1) + (wrap64 (a1 * ((rd_T36 l0 x7_2).f0)))))] 36 (0, 0)) (zK BK396.out) k_ hk)); (case aO => exact (by (with_reducible repeat (first | apply Kd.R_alloc | apply Kd.R_drewN | apply Kd.R_drew)); exact Kd.R_mono HO_6.out (fun _ hk => hk.2))); (case aS => exact (below_size (zG GE396.out))); (case aL => have := LMc18.out; omega); intro v399 w26 ho hb hg hat; rw [← Ny398.out] at ho; have n0_ := Aside0.mk (blk_grown (g := gb396) (o := .cells #[.int .i64 ((rd_T36 l0 x7_2).f0), .int .i64 (wrap64 (((rd_T36 l0 x7_2).f1) + (wrap64 (a1 * ((rd_T36 l0 x7_2).f0)))))] 36 (0, 0)) (zK BK396.out) hg (Kd.R_away HO_6.out (fun _ hk => hk.2))); have n1_ := Aside0.mk (hb); have n2_ := Aside0.mk (ho); clear BK396; clear HB; clear HO_6; have BK396 := n0_; have HB := n1_; have HO400 := n2_; clear n0_ n1_ n2_; clear ho hb hg hat))
          go_roundg k2
          case measure => have := HJ2.out; have := HK2.out; omega
          case rel => exact ⟨(y398), (wrap64 (x7_2 + 1)), zF, H', ⟨by have := HJ2.out; have := HK2.out; omega⟩, ⟨by (with_reducible repeat (first | apply Kd.R_alloc | apply Kd.R_drewN | apply Kd.R_drew)); exact Kd.R_mono HO400.out (fun _ hk => trivial)⟩, ⟨zG GE396.out⟩⟩
         ·rw [if_neg c18] at H
          exact absurd H (by simp)
        ·replace c17 := Bool.eq_false_iff.mpr c17
         subst c17
         have H1 : (some ((([] : List (S36))), false)) = some (r1, r2) := by rw [if_neg (show ¬ (false = true) by decide)] at H; exact H
         clear H
         have H := H1
         clear H1
         obtain ⟨y401, hy401⟩ : ∃ y_ : List (S36), y_ = (([] : List (S36))) := ⟨_, rfl⟩
         replace H : (some (y401, false)) = some (r1, r2) := by first | (rw [hy401]; with_reducible exact H) | (have H2_ := (Option.bind_some _ _).symm.trans H; rw [hy401]; with_reducible exact H2_) | (have H2_ := (Option.bind_some _ _).symm.trans H; with_reducible exact H2_) | with_reducible exact H | (rw [hy401]; exact H) | exact H
         have Ny401 := Aside0.mk hy401
         clear hy401
         simp only [Option.some.injEq, Prod.mk.injEq] at H
         obtain ⟨rfl, rfl⟩ := H
         try go_wp2
         have n0_ := Aside0.mk (Kd.R_drew HO_6.out)
         have n1_ := Aside0.mk (below_drew1 HB.out)
         clear HO_6
         clear HB
         have HO_6 := n0_
         have HB := n1_
         clear n0_ n1_
         have p393 : 0 ≤ (x7_2 : Int) := zA
         have q393 : x7_2 < (l0.length : Int) := zA
         obtain ⟨ad393, e393, hx393_0, hx393_1⟩ := at_T36 HR0.out x7_2 p393 q393
         have hw393_1 := hx393_1
         have hw393_0 := hx393_0
         cases e393
         replace hx393_0 := (HB.out.cell (World.block_lt_of_cell? w _ hx393_0)).trans hx393_0
         replace hx393_1 := (HB.out.cell (World.block_lt_of_cell? w _ hx393_1)).trans hx393_1
         replace p393 := eq_true p393
         replace q393 := eq_true q393
         have p394 : 0 ≤ (x7_2 : Int) := zA
         have q394 : x7_2 < (l0.length : Int) := zA
         obtain ⟨ad394, e394, hx394_0, hx394_1⟩ := at_T36 HR0.out x7_2 p394 q394
         have hw394_1 := hx394_1
         have hw394_0 := hx394_0
         obtain rfl : ad393 = ad394 := (by injection e394)
         replace hx394_0 := (HB.out.cell (World.block_lt_of_cell? w _ hx394_0)).trans hx394_0
         replace hx394_1 := (HB.out.cell (World.block_lt_of_cell? w _ hx394_1)).trans hx394_1
         replace p394 := eq_true p394
         replace q394 := eq_true q394
         have p395 : 0 ≤ (x7_2 : Int) := zA
         have q395 : x7_2 < (l0.length : Int) := zA
         obtain ⟨ad395, e395, hx395_0, hx395_1⟩ := at_T36 HR0.out x7_2 p395 q395
         have hw395_1 := hx395_1
         have hw395_0 := hx395_0
         obtain rfl : ad393 = ad395 := (by injection e395)
         replace hx395_0 := (HB.out.cell (World.block_lt_of_cell? w _ hx395_0)).trans hx395_0
         replace hx395_1 := (HB.out.cell (World.block_lt_of_cell? w _ hx395_1)).trans hx395_1
         replace p395 := eq_true p395
         replace q395 := eq_true q395
         refine start_ (n := 21) (S := fun w' => w'.cell? (ad393.add ((x7_2).toNat * 2)) = some (.int .i64 ((rd_T36 l0 x7_2).f0)) ∧ w'.cell? ⟨(ad393.add ((x7_2).toNat * 2)).block, (ad393.add ((x7_2).toNat * 2)).off + 1, none⟩ = some (.int .i64 ((rd_T36 l0 x7_2).f1)) ∧ w'.cell? (ad393.add ((x7_2).toNat * 2)) = some (.int .i64 ((rd_T36 l0 x7_2).f0)) ∧ w'.cell? ⟨(ad393.add ((x7_2).toNat * 2)).block, (ad393.add ((x7_2).toNat * 2)).off + 1, none⟩ = some (.int .i64 ((rd_T36 l0 x7_2).f1)) ∧ w'.cell? (ad393.add ((x7_2).toNat * 2)) = some (.int .i64 ((rd_T36 l0 x7_2).f0)) ∧ w'.cell? ⟨(ad393.add ((x7_2).toNat * 2)).block, (ad393.add ((x7_2).toNat * 2)).off + 1, none⟩ = some (.int .i64 ((rd_T36 l0 x7_2).f1))) (ds := []) #[false, false, false, false, false, false, false, false, false, false, false, false, false, false, false, false, false, false, false, false, false] (by kernel_rfl) rfl rfl ⟨((HB.out.cell (World.block_lt_of_cell? w _ hw393_0)).trans hw393_0), ((HB.out.cell (World.block_lt_of_cell? w _ hw393_1)).trans hw393_1), ((HB.out.cell (World.block_lt_of_cell? w _ hw394_0)).trans hw394_0), ((HB.out.cell (World.block_lt_of_cell? w _ hw394_1)).trans hw394_1), ((HB.out.cell (World.block_lt_of_cell? w _ hw395_0)).trans hw395_0), ((HB.out.cell (World.block_lt_of_cell? w _ hw395_1)).trans hw395_1)⟩ (fun hHeld => ?_); refine with_tabW spec_ShearPoints.tab7 spec_ShearPoints.bits7 (fun HT_ HW_ => ?_)
         generalize wr.drew = w27 at HO_6 HB hx393_0 hx393_1 hx394_0 hx394_1 hx395_0 hx395_1 hHeld ⊢
         refine zP 0 (some 25) rfl rfl ?_
         refine zP 1 (some 26) rfl rfl ?_
         refine zP 2 (some 27) rfl rfl ?_
         refine zP 3 (some 28) rfl rfl ?_
         refine zP 5 (some 30) rfl rfl ?_
         refine zP 6 (some 31) rfl rfl ?_
         refine zP 7 (some 32) rfl rfl ?_
         refine zP 8 (some 33) rfl rfl ?_
         refine zP 10 (some 35) rfl rfl ?_
         refine zP 11 (some 36) rfl rfl ?_
         refine zP 12 (some 37) rfl rfl ?_
         refine zP 13 (some 38) rfl rfl ?_
         refine zP 14 (some 39) rfl rfl ?_
         refine take_ (i := 4) (N := some 29) (v := ?_) (a' := ?_) #[true, true, true, true, true, true, true, true, true, false, true, true, true, true, true, false, false, false, false, false, false] rfl rfl (take_ofW HT_.out HW_.out (by kernel_rfl)) (fun _ _ _ h => h) (Or.inl ⟨by rfl, ?_⟩) hHeld ?_ ?_
         rotate_left
         ·rintro w' ⟨s0, s1, s2, s3, s4, s5⟩
          go_simp
          with_reducible rfl
         rotate_left
         ·simp only [Act.put, List.setIfInBounds_toArray, List.set_cons_zero, List.set_cons_succ, i64_w, i32_w]
          rfl
         refine take_ (i := 9) (N := some 34) (v := ?_) (a' := ?_) #[true, true, true, true, true, true, true, true, true, true, true, true, true, true, true, false, false, false, false, false, false] rfl rfl (take_ofW HT_.out HW_.out (by kernel_rfl)) (fun _ _ _ h => h) (Or.inl ⟨by rfl, ?_⟩) hHeld ?_ ?_
         rotate_left
         ·rintro w' ⟨s0, s1, s2, s3, s4, s5⟩
          go_simp
          with_reducible rfl
         rotate_left
         ·simp only [Act.put, List.setIfInBounds_toArray, List.set_cons_zero, List.set_cons_succ, i64_w, i32_w]
          rfl
         refine take_ (i := 15) (N := some 40) (v := ?_) (a' := ?_) #[true, true, true, true, true, true, true, true, true, true, true, true, true, true, true, true, false, false, false, false, false] rfl rfl (take_ofW HT_.out HW_.out (by kernel_rfl)) (fun _ _ _ h => h) (Or.inl ⟨by rfl, ?_⟩) hHeld ?_ ?_
         rotate_left
         ·rintro w' ⟨s0, s1, s2, s3, s4, s5⟩
          go_simp
          with_reducible rfl
         rotate_left
         ·simp only [Act.put, List.setIfInBounds_toArray, List.set_cons_zero, List.set_cons_succ, i64_w, i32_w]
          rfl
         refine zP 16 (some 41) rfl rfl ?_
         refine zP 17 (some 42) rfl rfl ?_
         refine zP 18 (some 43) rfl rfl ?_
         refine one_ (i := 19) (N := some 8) #[true, true, true, true, true, true, true, true, true, true, true, true, true, true, true, true, true, true, true, true, false] rfl rfl (one_of HT_.out (by kernel_rfl)) (by decide) (fun K hK => ?_)
         refine box_step ?hg (N := 8) ?hd (cs := #[.int .i64 0, .int .i64 0]) (t := 36) ?hr ?_; (case hd => rfl); (case hg => rfl); (case hr => first | (go_simp; done) | (go_simp; rfl))
         intro gb396 hg w28 hbox hb
         have n0_ := Aside0.mk (Kd.R_below (Kd.R_elderB (zR HO_6.out) gb396 (Nat.le_of_eq hg.symm)) hb)
         have n1_ := Aside0.mk (below_step zB hb)
         have n2_ := Aside0.mk (hbox)
         have n3_ := Aside0.mk ((by rw [hg]; exact (below_size zB) : w.heap.size ≤ gb396))
         have n4_ := Aside0.mk ((by rw [hg]; exact (below_size zB) : w.heap.size ≤ gb396))
         clear HO_6
         clear HB
         have HO_6 := n0_
         have HB := n1_
         have BK396 := n2_
         have GW396 := n3_
         have GE396 := n4_
         clear n0_ n1_ n2_ n3_ n4_
         clear hb hbox hg
         refine hK.out _ _ ⟨((HB.out.cell (World.block_lt_of_cell? w _ hw393_0)).trans hw393_0), ((HB.out.cell (World.block_lt_of_cell? w _ hw393_1)).trans hw393_1), ((HB.out.cell (World.block_lt_of_cell? w _ hw394_0)).trans hw394_0), ((HB.out.cell (World.block_lt_of_cell? w _ hw394_1)).trans hw394_1), ((HB.out.cell (World.block_lt_of_cell? w _ hw395_0)).trans hw395_0), ((HB.out.cell (World.block_lt_of_cell? w _ hw395_1)).trans hw395_1)⟩ (fun hHeld => ?_)
         clear hK K
         refine norm_ (a' := ?_) ?_ ?_
         rotate_left
         ·show Act.put _ (some 8) _ = _
          simp only [Act.put, List.setIfInBounds_toArray, List.set_cons_zero, List.set_cons_succ, i64_w, i32_w]
          rfl
         refine one_ (i := 20) (N := none) #[true, true, true, true, true, true, true, true, true, true, true, true, true, true, true, true, true, true, true, true, true] rfl rfl (one_of HT_.out (by kernel_rfl)) (by decide) (fun K hK => ?_)
         have hs29 : w28.cell? ⟨gb396, 0, none⟩ = some (.int .i64 0) := (blk_cell BK396.out 0).trans rfl
         have hfs29 := blk_frozen BK396.out 0
         have hs30 : w28.cell? ⟨gb396, 1, none⟩ = some (.int .i64 0) := (blk_cell BK396.out 1).trans rfl
         have hfs30 := blk_frozen BK396.out 1
         refine skip_ (w1 := ?_) (by rfl) rfl ?_ ?_
         rotate_left
         ·go_simp
          rfl
         refine hK.out _ _ ⟨((cell_far (p := ⟨gb396, _, none⟩) (by first | exact Nat.ne_of_lt (Nat.lt_of_lt_of_le (by have := World.block_lt_of_cell? _ _ hw393_0; first | rwa [add_block] at this | exact this) GW396.out) | (rw [add_block]; exact Nat.ne_of_lt (Nat.lt_of_lt_of_le (by have := World.block_lt_of_cell? _ _ hw393_0; first | rwa [add_block] at this | exact this) GW396.out)) | (show (Addr.add _ _).block ≠ _; rw [add_block]; exact Nat.ne_of_lt (Nat.lt_of_lt_of_le (by have := World.block_lt_of_cell? _ _ hw393_0; first | rwa [add_block] at this | exact this) GW396.out)) | (dsimp only; exact Nat.ne_of_lt (Nat.lt_of_lt_of_le (by have := World.block_lt_of_cell? _ _ hw393_0; first | rwa [add_block] at this | exact this) GW396.out))) _).trans (((cell_far (p := ⟨gb396, _, none⟩) (by first | exact Nat.ne_of_lt (Nat.lt_of_lt_of_le (by have := World.block_lt_of_cell? _ _ hw393_0; first | rwa [add_block] at this | exact this) GW396.out) | (rw [add_block]; exact Nat.ne_of_lt (Nat.lt_of_lt_of_le (by have := World.block_lt_of_cell? _ _ hw393_0; first | rwa [add_block] at this | exact this) GW396.out)) | (show (Addr.add _ _).block ≠ _; rw [add_block]; exact Nat.ne_of_lt (Nat.lt_of_lt_of_le (by have := World.block_lt_of_cell? _ _ hw393_0; first | rwa [add_block] at this | exact this) GW396.out)) | (dsimp only; exact Nat.ne_of_lt (Nat.lt_of_lt_of_le (by have := World.block_lt_of_cell? _ _ hw393_0; first | rwa [add_block] at this | exact this) GW396.out))) _).trans (hHeld.1)))), ((cell_far (p := ⟨gb396, _, none⟩) (by first | exact Nat.ne_of_lt (Nat.lt_of_lt_of_le (by have := World.block_lt_of_cell? _ _ hw393_1; first | rwa [add_block] at this | exact this) GW396.out) | (rw [add_block]; exact Nat.ne_of_lt (Nat.lt_of_lt_of_le (by have := World.block_lt_of_cell? _ _ hw393_1; first | rwa [add_block] at this | exact this) GW396.out)) | (show (Addr.add _ _).block ≠ _; rw [add_block]; exact Nat.ne_of_lt (Nat.lt_of_lt_of_le (by have := World.block_lt_of_cell? _ _ hw393_1; first | rwa [add_block] at this | exact this) GW396.out)) | (dsimp only; exact Nat.ne_of_lt (Nat.lt_of_lt_of_le (by have := World.block_lt_of_cell? _ _ hw393_1; first | rwa [add_block] at this | exact this) GW396.out))) _).trans (((cell_far (p := ⟨gb396, _, none⟩) (by first | exact Nat.ne_of_lt (Nat.lt_of_lt_of_le (by have := World.block_lt_of_cell? _ _ hw393_1; first | rwa [add_block] at this | exact this) GW396.out) | (rw [add_block]; exact Nat.ne_of_lt (Nat.lt_of_lt_of_le (by have := World.block_lt_of_cell? _ _ hw393_1; first | rwa [add_block] at this | exact this) GW396.out)) | (show (Addr.add _ _).block ≠ _; rw [add_block]; exact Nat.ne_of_lt (Nat.lt_of_lt_of_le (by have := World.block_lt_of_cell? _ _ hw393_1; first | rwa [add_block] at this | exact this) GW396.out)) | (dsimp only; exact Nat.ne_of_lt (Nat.lt_of_lt_of_le (by have := World.block_lt_of_cell? _ _ hw393_1; first | rwa [add_block] at this | exact this) GW396.out))) _).trans (hHeld.2.1)))), ((cell_far (p := ⟨gb396, _, none⟩) (by first | exact Nat.ne_of_lt (Nat.lt_of_lt_of_le (by have := World.block_lt_of_cell? _ _ hw394_0; first | rwa [add_block] at this | exact this) GW396.out) | (rw [add_block]; exact Nat.ne_of_lt (Nat.lt_of_lt_of_le (by have := World.block_lt_of_cell? _ _ hw394_0; first | rwa [add_block] at this | exact this) GW396.out)) | (show (Addr.add _ _).block ≠ _; rw [add_block]; exact Nat.ne_of_lt (Nat.lt_of_lt_of_le (by have := World.block_lt_of_cell? _ _ hw394_0; first | rwa [add_block] at this | exact this) GW396.out)) | (dsimp only; exact Nat.ne_of_lt (Nat.lt_of_lt_of_le (by have := World.block_lt_of_cell? _ _ hw394_0; first | rwa [add_block] at this | exact this) GW396.out))) _).trans (((cell_far (p := ⟨gb396, _, none⟩) (by first | exact Nat.ne_of_lt (Nat.lt_of_lt_of_le (by have := World.block_lt_of_cell? _ _ hw394_0; first | rwa [add_block] at this | exact this) GW396.out) | (rw [add_block]; exact Nat.ne_of_lt (Nat.lt_of_lt_of_le (by have := World.block_lt_of_cell? _ _ hw394_0; first | rwa [add_block] at this | exact this) GW396.out)) | (show (Addr.add _ _).block ≠ _; rw [add_block]; exact Nat.ne_of_lt (Nat.lt_of_lt_of_le (by have := World.block_lt_of_cell? _ _ hw394_0; first | rwa [add_block] at this | exact this) GW396.out)) | (dsimp only; exact Nat.ne_of_lt (Nat.lt_of_lt_of_le (by have := World.block_lt_of_cell? _ _ hw394_0; first | rwa [add_block] at this | exact this) GW396.out))) _).trans (hHeld.2.2.1)))), ((cell_far (p := ⟨gb396, _, none⟩) (by first | exact Nat.ne_of_lt (Nat.lt_of_lt_of_le (by have := World.block_lt_of_cell? _ _ hw394_1; first | rwa [add_block] at this | exact this) GW396.out) | (rw [add_block]; exact Nat.ne_of_lt (Nat.lt_of_lt_of_le (by have := World.block_lt_of_cell? _ _ hw394_1; first | rwa [add_block] at this | exact this) GW396.out)) | (show (Addr.add _ _).block ≠ _; rw [add_block]; exact Nat.ne_of_lt (Nat.lt_of_lt_of_le (by have := World.block_lt_of_cell? _ _ hw394_1; first | rwa [add_block] at this | exact this) GW396.out)) | (dsimp only; exact Nat.ne_of_lt (Nat.lt_of_lt_of_le (by have := World.block_lt_of_cell? _ _ hw394_1; first | rwa [add_block] at this | exact this) GW396.out))) _).trans (((cell_far (p := ⟨gb396, _, none⟩) (by first | exact Nat.ne_of_lt (Nat.lt_of_lt_of_le (by have := World.block_lt_of_cell? _ _ hw394_1; first | rwa [add_block] at this | exact this) GW396.out) | (rw [add_block]; exact Nat.ne_of_lt (Nat.lt_of_lt_of_le (by have := World.block_lt_of_cell? _ _ hw394_1; first | rwa [add_block] at this | exact this) GW396.out)) | (show (Addr.add _ _).block ≠ _; rw [add_block]; exact Nat.ne_of_lt (Nat.lt_of_lt_of_le (by have := World.block_lt_of_cell? _ _ hw394_1; first | rwa [add_block] at this | exact this) GW396.out)) | (dsimp only; exact Nat.ne_of_lt (Nat.lt_of_lt_of_le (by have := World.block_lt_of_cell? _ _ hw394_1; first | rwa [add_block] at this | exact this) GW396.out))) _).trans (hHeld.2.2.2.1)))), ((cell_far (p := ⟨gb396, _, none⟩) (by first | exact Nat.ne_of_lt (Nat.lt_of_lt_of_le (by have := World.block_lt_of_cell? _ _ hw395_0; first | rwa [add_block] at this | exact this) GW396.out) | (rw [add_block]; exact Nat.ne_of_lt (Nat.lt_of_lt_of_le (by have := World.block_lt_of_cell? _ _ hw395_0; first | rwa [add_block] at this | exact this) GW396.out)) | (show (Addr.add _ _).block ≠ _; rw [add_block]; exact Nat.ne_of_lt (Nat.lt_of_lt_of_le (by have := World.block_lt_of_cell? _ _ hw395_0; first | rwa [add_block] at this | exact this) GW396.out)) | (dsimp only; exact Nat.ne_of_lt (Nat.lt_of_lt_of_le (by have := World.block_lt_of_cell? _ _ hw395_0; first | rwa [add_block] at this | exact this) GW396.out))) _).trans (((cell_far (p := ⟨gb396, _, none⟩) (by first | exact Nat.ne_of_lt (Nat.lt_of_lt_of_le (by have := World.block_lt_of_cell? _ _ hw395_0; first | rwa [add_block] at this | exact this) GW396.out) | (rw [add_block]; exact Nat.ne_of_lt (Nat.lt_of_lt_of_le (by have := World.block_lt_of_cell? _ _ hw395_0; first | rwa [add_block] at this | exact this) GW396.out)) | (show (Addr.add _ _).block ≠ _; rw [add_block]; exact Nat.ne_of_lt (Nat.lt_of_lt_of_le (by have := World.block_lt_of_cell? _ _ hw395_0; first | rwa [add_block] at this | exact this) GW396.out)) | (dsimp only; exact Nat.ne_of_lt (Nat.lt_of_lt_of_le (by have := World.block_lt_of_cell? _ _ hw395_0; first | rwa [add_block] at this | exact this) GW396.out))) _).trans (hHeld.2.2.2.2.1)))), ((cell_far (p := ⟨gb396, _, none⟩) (by first | exact Nat.ne_of_lt (Nat.lt_of_lt_of_le (by have := World.block_lt_of_cell? _ _ hw395_1; first | rwa [add_block] at this | exact this) GW396.out) | (rw [add_block]; exact Nat.ne_of_lt (Nat.lt_of_lt_of_le (by have := World.block_lt_of_cell? _ _ hw395_1; first | rwa [add_block] at this | exact this) GW396.out)) | (show (Addr.add _ _).block ≠ _; rw [add_block]; exact Nat.ne_of_lt (Nat.lt_of_lt_of_le (by have := World.block_lt_of_cell? _ _ hw395_1; first | rwa [add_block] at this | exact this) GW396.out)) | (dsimp only; exact Nat.ne_of_lt (Nat.lt_of_lt_of_le (by have := World.block_lt_of_cell? _ _ hw395_1; first | rwa [add_block] at this | exact this) GW396.out))) _).trans (((cell_far (p := ⟨gb396, _, none⟩) (by first | exact Nat.ne_of_lt (Nat.lt_of_lt_of_le (by have := World.block_lt_of_cell? _ _ hw395_1; first | rwa [add_block] at this | exact this) GW396.out) | (rw [add_block]; exact Nat.ne_of_lt (Nat.lt_of_lt_of_le (by have := World.block_lt_of_cell? _ _ hw395_1; first | rwa [add_block] at this | exact this) GW396.out)) | (show (Addr.add _ _).block ≠ _; rw [add_block]; exact Nat.ne_of_lt (Nat.lt_of_lt_of_le (by have := World.block_lt_of_cell? _ _ hw395_1; first | rwa [add_block] at this | exact this) GW396.out)) | (dsimp only; exact Nat.ne_of_lt (Nat.lt_of_lt_of_le (by have := World.block_lt_of_cell? _ _ hw395_1; first | rwa [add_block] at this | exact this) GW396.out))) _).trans (hHeld.2.2.2.2.2))))⟩ (fun hHeld => ?_)
         clear hK K
         refine done_ (done_of HT_.out (by kernel_rfl)) ?_
         have hcz31_0 : w28.cell? ⟨gb396, 0, none⟩ = some (.int .i64 0) := (blk_cell BK396.out 0).trans rfl
         have hcz31_1 : w28.cell? ⟨gb396, 1, none⟩ = some (.int .i64 0) := (blk_cell BK396.out 1).trans rfl
         have hfz31_0 := blk_frozen BK396.out 0
         have hfz31_1 := blk_frozen BK396.out 1
         try go_wp2_with (first | ((with_reducible refine gate_callee (f := 48) rfl ?_); refine goesL_ (some 45) rfl rfl Try.func48 (by kernel_rfl) rfl #[.agg #[.int .i64 ((rd_T36 l0 x7_2).f0), .int .i64 (wrap64 (((rd_T36 l0 x7_2).f1) + (wrap64 (a1 * ((rd_T36 l0 x7_2).f0)))))], .int .i64 50] rfl zM ?_; (with_reducible refine (spec_l2Fits.calls ((rd_T36 l0 x7_2).f0) (wrap64 (((rd_T36 l0 x7_2).f1) + (wrap64 (a1 * ((rd_T36 l0 x7_2).f0))))) 50 false _ A16.out).mono ?_); rintro e w32 ⟨rfl, hb⟩; refine ⟨_, rfl, ?_⟩; replace HO_6 := Aside0.mk (Kd.R_below (by (with_reducible repeat (first | apply Kd.R_alloc | apply Kd.R_drewN | apply Kd.R_drew)); exact (Kd.R_mono (Kd.R_far (p := ⟨gb396, 1, none⟩) (Kd.R_far (p := ⟨gb396, 0, none⟩) (Kd.R_mono HO_6.out (fun k_ hk => (⟨hk, hk.2⟩ : _ ∧ k_ ≠ gb396))) (fun _ hk => hk.2) (.int .i64 ((rd_T36 l0 x7_2).f0))) (fun _ hk => hk.2) (.int .i64 (wrap64 (((rd_T36 l0 x7_2).f1) + (wrap64 (a1 * ((rd_T36 l0 x7_2).f0))))))) (fun _ h_ => h_.1))) hb); replace BK396 := Aside0.mk (blk_below (g := gb396) (o := .cells #[.int .i64 ((rd_T36 l0 x7_2).f0), .int .i64 (wrap64 (((rd_T36 l0 x7_2).f1) + (wrap64 (a1 * ((rd_T36 l0 x7_2).f0)))))] 36 (0, 0)) (by (with_reducible repeat (first | refine blk_drewN ?_ _ | refine blk_drew ?_ | refine blk_alloc ?_ _)); refine blk_put (cs := #[.int .i64 ((rd_T36 l0 x7_2).f0), .int .i64 0]) ?_ 1 _ rfl; (with_reducible repeat (first | refine blk_drewN ?_ _ | refine blk_drew ?_ | refine blk_alloc ?_ _)); refine blk_put (cs := #[.int .i64 0, .int .i64 0]) ?_ 0 _ rfl; (with_reducible repeat (first | refine blk_drewN ?_ _ | refine blk_drew ?_ | refine blk_alloc ?_ _)); exact BK396.out) hb); replace HB := Aside0.mk (below_step (zG GE396.out) hb); (try clear hb)) | ((with_reducible refine gate_dst (N := 47) rfl ?_); refine Kd.R_lit k36 _ 36 ?hg (N := 47) ?hd (xs := ([] : List (S36))) (inner := []) (ok := fun _ => True) (okp := fun _ => True) ?hr ?hp (fun _ hk => hk) trivial (Below.refl _ _) (Nat.le_refl _) (by simp) ?_; (case hd => rfl); (case hg => rfl); (case hr => first | (go_simp; done) | (go_simp; rfl)); (case hp => exact (Reps.none _ _)); intro v402 w33 ho34 hb hg_ hnew_; clear hg_ hnew_; (first | rw [← Ny401.out] at ho34 | (simp only [Int.reduceToNat] at ho34; rw [← Ny401.out] at ho34)); have n0_ := Aside0.mk (Kd.R_elder' (zR HO_6.out) (Kd.R_base ho34) hb); have n1_ := Aside0.mk (Kd.R_lower (Kd.R_newB (Kd.R_new' ho34 (Kd.R_lt (zR HO_6.out))) (g := gb396) (o := .cells #[.int .i64 ((rd_T36 l0 x7_2).f0), .int .i64 (wrap64 (((rd_T36 l0 x7_2).f1) + (wrap64 (a1 * ((rd_T36 l0 x7_2).f0)))))] 36 (0, 0)) (zK BK396.out)) (below_size (zG GE396.out))); have n2_ := Aside0.mk (blk_below (g := gb396) (o := .cells #[.int .i64 ((rd_T36 l0 x7_2).f0), .int .i64 (wrap64 (((rd_T36 l0 x7_2).f1) + (wrap64 (a1 * ((rd_T36 l0 x7_2).f0)))))] 36 (0, 0)) (zK BK396.out) hb); have n3_ := Aside0.mk (below_step (zG GE396.out) hb); clear HO_6; clear BK396; clear HB; have HO_6 := n0_; have HO403 := n1_; have BK396 := n2_; have HB := n3_; clear n0_ n1_ n2_ n3_; clear hb ho34))
         go_ret2
         exact ⟨_, zE, by (with_reducible repeat (first | apply Kd.R_alloc | apply Kd.R_drewN | apply Kd.R_drew)); exact Kd.R_mono HO403.out (fun _ hk => trivial), zG GE396.out⟩
       ·rw [if_neg c15] at H
        exact absurd H (by simp)
      ·rw [if_neg c14] at H
       have c14b0 : decide (x7_2 < (l0.length : Int)) = false := decide_eq_false c14
       clear c14
       simp only [Option.some.injEq, Prod.mk.injEq] at H
       obtain ⟨rfl, rfl⟩ := H
       go_wp2
       go_ret2
       exact ⟨_, zE, zR HO_6.out, zB⟩
/-! ### impl_isFar: function 60 -/
def impl_isFar.f (a0 : Int) (a1 : Int) : Option (Bool) := if a0 < (wrap64 (-a1)) then (some true) else (some (decide (a0 > a1)))
set_option maxHeartbeats 8000000 in
set_option maxRecDepth 100000 in
theorem impl_isFar.calls (a0 : Int) (a1 : Int) (r : Bool) (w : World) (h : impl_isFar.f a0 a1 = some r) :
  Calls Try.prog 60 #[.int .i64 a0, .int .i64 a1] w fun e w' => e = .returned (.bool r) ∧ Drawn0 w w' := by
 have H : (if a0 < (wrap64 (-a1)) then (some true) else (some (decide (a0 > a1)))) = some r := h
 clear h
 by_cases c3 : a0 < (wrap64 (-a1))
 ·rw [if_pos c3] at H
  have c3b0 : decide (a0 < (wrap64 (-a1))) = true := decide_eq_true c3
  clear c3
  obtain rfl := Option.some.inj H
  go_enter Try.func60, Try.ntmps60
  go_wp2
  go_ret
  exact ⟨by first | rfl | (simp; done) | (simp [*]; done), by repeat (first | exact Drawn0.refl _ | apply Drawn0.step)⟩
 ·rw [if_neg c3] at H
  have c3b0 : decide (a0 < (wrap64 (-a1))) = false := decide_eq_false c3
  clear c3
  obtain rfl := Option.some.inj H
  go_enter Try.func60, Try.ntmps60
  go_wp2
  go_ret
  exact ⟨by first | rfl | (simp; done) | (simp [*]; done), by repeat (first | exact Drawn0.refl _ | apply Drawn0.step)⟩
/-! ### impl_ShearPoints: function 37 -/
mutual
def impl_ShearPoints.j0 : Nat → List (S36) → Int → Bool → Option ((List (S36)) × Bool)
 | 0, _, _, _ => none
 | k + 1, x0, x1, x15 => if x15 = true then (some (([] : List (S36)), false)) else (impl_ShearPoints.l0 k x1 ([] : List (S36)) x0 (x0.length : Int) 0)
def impl_ShearPoints.l0 : Nat → Int → List (S36) → List (S36) → Int → Int → Option ((List (S36)) × Bool)
 | 0, _, _, _, _, _ => none
 | k + 1, x1, x6, x16, x17, x18 => if x18 < x17 then (if 0 ≤ x18 then (if x18 < (x16.length : Int) then (if x6.length < 8796093022208 then (impl_ShearPoints.l0 k x1 (x6 ++ [(⟨(rd_T36 x16 x18).f0, wrap64 (((rd_T36 x16 x18).f1) + (wrap64 (x1 * ((rd_T36 x16 x18).f0))))⟩ : S36)]) x16 x17 (wrap64 (x18 + 1))) else (none)) else (none)) else (none)) else ((impl_areNear.f 50 x6).bind fun t411 => (if t411 = true then (some (x6, true)) else (some (([] : List (S36)), false))))
end
def impl_ShearPoints.f (k : Nat) (l0 : List (S36)) (a1 : Int) : Option ((List (S36)) × Bool) := (impl_ArePoints.f k l0).bind fun t404 => (if t404 = true then ((impl_isFar.f a1 100).bind fun t405 => (impl_ShearPoints.j0 k l0 a1 t405)) else (impl_ShearPoints.j0 k l0 a1 true))
theorem impl_ShearPoints.mono_l : ∀ k, (∀ y0 y1 y2, LeO (impl_ShearPoints.j0 k y0 y1 y2) (impl_ShearPoints.j0 (k + 1) y0 y1 y2)) ∧ (∀ y0 y1 y2 y3 y4, LeO (impl_ShearPoints.l0 k y0 y1 y2 y3 y4) (impl_ShearPoints.l0 (k + 1) y0 y1 y2 y3 y4))
 | 0 => ⟨fun _ _ _ r h => by simp [impl_ShearPoints.j0] at h, fun _ _ _ _ _ r h => by simp [impl_ShearPoints.l0] at h⟩
 | k + 1 => by
  obtain ⟨ih0, ih1⟩ := impl_ShearPoints.mono_l k
  refine ⟨?_, ?_⟩ <;> intros <;> (first | unfold impl_ShearPoints.j0 | unfold impl_ShearPoints.l0) <;> repeat' first
  | (with_reducible exact ih0 _ _ _)
  | (with_reducible exact ih1 _ _ _ _ _)
  | (with_reducible exact impl_ArePoints.mono _ _)
  | (with_reducible exact LeO.refl _)
  | (with_reducible exact LeO.none _)
  | (with_reducible refine LeO.ite ?_ ?_)
  | (with_reducible refine LeO.bind ?_ (fun _ => ?_))
  | exact ih0 _ _ _
  | exact ih1 _ _ _ _ _
  | exact impl_ArePoints.mono _ _
  | exact LeO.none _
  | refine LeO.ite ?_ ?_
  | refine LeO.bind ?_ (fun _ => ?_)
theorem impl_ShearPoints.mono : ∀ a0 a1 k, LeO (impl_ShearPoints.f k a0 a1) (impl_ShearPoints.f (k + 1) a0 a1) := by
 intro a0 a1 k
 obtain ⟨ih0, ih1⟩ := impl_ShearPoints.mono_l k
 unfold impl_ShearPoints.f
 repeat' first
   | (with_reducible exact ih0 _ _ _)
   | (with_reducible exact ih1 _ _ _ _ _)
   | (with_reducible exact impl_ArePoints.mono _ _)
   | (with_reducible exact LeO.refl _)
   | (with_reducible exact LeO.none _)
   | (with_reducible refine LeO.ite ?_ ?_)
   | (with_reducible refine LeO.bind ?_ (fun _ => ?_))
   | exact ih0 _ _ _
   | exact ih1 _ _ _ _ _
   | exact impl_ArePoints.mono _ _
   | exact LeO.none _
   | refine LeO.ite ?_ ?_
   | refine LeO.bind ?_ (fun _ => ?_)
set_option maxHeartbeats 8000000 in
set_option maxRecDepth 100000 in
theorem impl_ShearPoints.calls (k : Nat) (A0 : Option Addr) (c0 : Nat) (l0 : List (S36)) (a1 : Int) (r1 : List (S36)) (r2 : Bool) (w : World) (hr0 : Kd.C k36 w A0 l0.length l0) (hc0 : l0.length ≤ c0) (h : impl_ShearPoints.f k l0 a1 = some (r1, r2)) :
  Calls Try.prog 37 #[.slice A0 l0.length c0, .int .i64 a1] w fun e w' => ∃ v0_ : Value, e = .returned (.tuple #[v0_, .bool r2]) ∧ Kd.R k36 36 w' w.heap.size (fun _ => True) v0_ r1 ∧ Below w.heap.size w w' := by
 have hu36 := Try.underlying36
 have HR0 := Aside0.mk hr0
 have HC0 := Aside0.mk hc0
 clear hr0 hc0
 have HB := Aside0.mk (Below.refl w.heap.size w)
 have H : ((impl_ArePoints.f k l0).bind fun t404 => (if t404 = true then ((impl_isFar.f a1 100).bind fun t405 => (impl_ShearPoints.j0 k l0 a1 t405)) else (impl_ShearPoints.j0 k l0 a1 true))) = some (r1, r2) := h
 clear h
 have HC3 := Aside0.mk H
 clear H
 go_enter Try.func37, Try.ntmps37
 go_upto_region 1 with (fail)
 go_cut [15] (fun v15 wc => ∃ (kq : Nat) (x15_2 : Bool), v15 = .bool x15_2 ∧ Aside0 (impl_ShearPoints.j0 kq l0 a1 x15_2 = some (r1, r2)) ∧ Aside0 (kq ≤ k) ∧ Aside0 (Below w.heap.size w wc))
 case first =>
  have H := HC3.out
  clear HC3
  replace H := Option.bind_eq_some_iff.mp H
  obtain ⟨t404, A40, H⟩ := H
  replace H : (if t404 = true then ((impl_isFar.f a1 100).bind fun t405 => (impl_ShearPoints.j0 k l0 a1 t405)) else (impl_ShearPoints.j0 k l0 a1 true)) = some (r1, r2) := H
  have A4 := Aside0.mk A40
  clear A40
  by_cases c5 : t404 = true
  ·subst c5
   have H1 : ((impl_isFar.f a1 100).bind fun t405 => (impl_ShearPoints.j0 k l0 a1 t405)) = some (r1, r2) := by rw [if_pos rfl] at H; exact H
   clear H
   have H := H1
   clear H1
   replace H := Option.bind_eq_some_iff.mp H
   obtain ⟨t405, A60, H⟩ := H
   replace H : (impl_ShearPoints.j0 k l0 a1 t405) = some (r1, r2) := H
   have A6 := Aside0.mk A60
   clear A60
   have H' := Aside0.mk H
   clear H
   go_wp2_with (first | ((with_reducible refine gate_callee (f := 35) rfl ?_); refine goesL_ (some 10) rfl rfl Try.func35 (by kernel_rfl) rfl #[.slice A0 l0.length c0] rfl zM ?_; (with_reducible refine (impl_ArePoints.calls k _ _ l0 true _ ?side1 ?side2 A4.out).mono ?_); (case side1 => repeat (first | exact (Kd.C_below HR0.out HB.out) | (with_reducible refine Kd.C_alloc ?_ _) | (with_reducible refine Kd.C_drewN ?_ _) | (with_reducible refine Kd.C_drew ?_))); (case side2 => exact HC0.out); rintro e w7 ⟨rfl, hb⟩; refine ⟨_, rfl, ?_⟩; replace HB := Aside0.mk (below_step zB hb); (try clear hb)) | (go_at_call 60; (with_reducible refine (impl_isFar.calls a1 100 t405 _ A6.out).mono ?_); rintro e w' ⟨rfl, ⟨nd, rfl⟩⟩))
   go_meet
   case rel => exact ⟨_, (t405), zF, H', ⟨by first | omega | exact Nat.le_refl _⟩, ⟨zB⟩⟩
  ·replace c5 := Bool.eq_false_iff.mpr c5
   subst c5
   have H1 : (impl_ShearPoints.j0 k l0 a1 true) = some (r1, r2) := by rw [if_neg (show ¬ (false = true) by decide)] at H; exact H
   clear H
   have H := H1
   clear H1
   have H' := Aside0.mk H
   clear H
   go_wp2_with (first | ((with_reducible refine gate_callee (f := 35) rfl ?_); refine goesL_ (some 10) rfl rfl Try.func35 (by kernel_rfl) rfl #[.slice A0 l0.length c0] rfl zM ?_; (with_reducible refine (impl_ArePoints.calls k _ _ l0 false _ ?side1 ?side2 A4.out).mono ?_); (case side1 => repeat (first | exact (Kd.C_below HR0.out HB.out) | (with_reducible refine Kd.C_alloc ?_ _) | (with_reducible refine Kd.C_drewN ?_ _) | (with_reducible refine Kd.C_drew ?_))); (case side2 => exact HC0.out); rintro e w8 ⟨rfl, hb⟩; refine ⟨_, rfl, ?_⟩; replace HB := Aside0.mk (below_step zB hb); (try clear hb)))
   go_meet
   case rel => exact ⟨_, (true), zF, H', ⟨by first | omega | exact Nat.le_refl _⟩, ⟨zB⟩⟩
 case rest =>
  clear HC3
  try clear p2
  try clear c3
  try clear c5
  obtain ⟨kq, x15_2, rfl, HA, HJ2, HB⟩ := hcut
  cases kq with
  | zero => exact absurd HA.out (by simp [impl_ShearPoints.j0])
  | succ kj2 =>
   have H := HA.out
   clear HA
   simp only [impl_ShearPoints.j0] at H
   by_cases c9 : x15_2 = true
   ·subst c9
    have H1 : (some (([] : List (S36)), false)) = some (r1, r2) := by rw [if_pos rfl] at H; exact H
    clear H
    have H := H1
    clear H1
    simp only [Option.some.injEq, Prod.mk.injEq] at H
    obtain ⟨rfl, rfl⟩ := H
    go_wp2
    go_ret2
    exact ⟨_, zE, by first | exact Kd.R_nil _ _ _ _ _ | exact Kd.N_nil _ _ _ _ _ | exact Kd.V_nil _ _ _ _ _ | exact Kd.Q_nil _ _ _ _ _ | exact Kd.S_nil _ _ _ _ _, zB⟩
   ·replace c9 := Bool.eq_false_iff.mpr c9
    subst c9
    have H1 : (impl_ShearPoints.l0 kj2 a1 ([] : List (S36)) l0 (l0.length : Int) 0) = some (r1, r2) := by rw [if_neg (show ¬ (false = true) by decide)] at H; exact H
    clear H
    have H := H1
    clear H1
    have H' := Aside0.mk H
    clear H
    go_wp2
    go_loopg [6, 18] kj2 (fun kq v6 v18 w' => ∃ (x6_2 : List (S36)) (x18_2 : Int), v18 = .int .i64 x18_2 ∧ Aside0 (impl_ShearPoints.l0 kq a1 x6_2 l0 (l0.length : Int) x18_2 = some (r1, r2)) ∧ Aside0 (kq ≤ kj2) ∧ Aside0 (Kd.R k36 36 w' w.heap.size (fun _ => True) v6 x6_2) ∧ Aside0 (Below w.heap.size w w'))
    case atStart => exact ⟨(([] : List (S36))), (0), zF, H', ⟨Nat.le_refl _⟩, ⟨by first | exact Kd.R_nil _ _ _ _ _ | exact Kd.N_nil _ _ _ _ _ | exact Kd.V_nil _ _ _ _ _ | exact Kd.Q_nil _ _ _ _ _ | exact Kd.S_nil _ _ _ _ _⟩, ⟨zB⟩⟩
    case round =>
     clear H'
     try clear p2
     try clear c3
     try clear c5
     try clear c9
     try clear p2
     obtain ⟨x6_2, x18_2, rfl, HA, HK2, HO_6, HB⟩ := hrel
     cases gk with
     | zero => exact absurd HA.out (by simp [impl_ShearPoints.l0])
     | succ k2 =>
      have H := HA.out
      clear HA
      simp only [impl_ShearPoints.l0] at H
      by_cases c10 : x18_2 < (l0.length : Int)
      ·rw [if_pos c10] at H
       have c10b0 : decide (x18_2 < (l0.length : Int)) = true := decide_eq_true c10
       clear c10
       by_cases c11 : 0 ≤ x18_2
       ·rw [if_pos c11] at H
        have c11b0 : decide (0 ≤ x18_2) = true := decide_eq_true c11
        clear c11
        by_cases c12 : x18_2 < (l0.length : Int)
        ·rw [if_pos c12] at H
         have c12b0 : decide (x18_2 < (l0.length : Int)) = true := decide_eq_true c12
         clear c12
         by_cases c13 : x6_2.length < 8796093022208
         ·rw [if_pos c13] at H
          have LMc13 := Aside0.mk c13
          clear c13
          obtain ⟨y408, hy408⟩ : ∃ y_ : List (S36), y_ = (x6_2 ++ [(⟨(rd_T36 l0 x18_2).f0, wrap64 (((rd_T36 l0 x18_2).f1) + (wrap64 (a1 * ((rd_T36 l0 x18_2).f0))))⟩ : S36)]) := ⟨_, rfl⟩
          replace H : (impl_ShearPoints.l0 k2 a1 y408 l0 (l0.length : Int) (wrap64 (x18_2 + 1))) = some (r1, r2) := by first | (rw [hy408]; with_reducible exact H) | (have H2_ := (Option.bind_some _ _).symm.trans H; rw [hy408]; with_reducible exact H2_) | (have H2_ := (Option.bind_some _ _).symm.trans H; with_reducible exact H2_) | with_reducible exact H | (rw [hy408]; exact H) | exact H
          have Ny408 := Aside0.mk hy408
          clear hy408
          have H' := Aside0.mk H
          clear H
          have p406 : 0 ≤ (x18_2 : Int) := zA
          have q406 : x18_2 < (l0.length : Int) := zA
          obtain ⟨ad406, e406, hx406_0, hx406_1⟩ := at_T36 HR0.out x18_2 p406 q406
          cases e406
          replace hx406_0 := (HB.out.cell (World.block_lt_of_cell? w _ hx406_0)).trans hx406_0
          replace hx406_1 := (HB.out.cell (World.block_lt_of_cell? w _ hx406_1)).trans hx406_1
          replace p406 := eq_true p406
          replace q406 := eq_true q406
          go_wp2_with (first | ((with_reducible refine gate_dst (N := 8) rfl ?_); refine box_event ?hg (N := 8) ?hd (cs := #[.int .i64 0, .int .i64 0]) (t := 36) ?hr ?_; (case hd => rfl); (case hg => rfl); (case hr => first | (go_simp; done) | (go_simp; rfl)); intro gb407 hg w14 hbox hb; replace HO_6 := Aside0.mk (Kd.R_below (Kd.R_elderB (zR HO_6.out) gb407 (Nat.le_of_eq hg.symm)) hb); have BK407 := Aside0.mk (hbox); have GW407 := Aside0.mk ((by rw [hg]; exact (below_size zB) : w.heap.size ≤ gb407)); have GE407 := Aside0.mk ((by rw [hg]; exact (below_size zB) : w.heap.size ≤ gb407)); replace HB := Aside0.mk (below_step zB hb); clear hb hbox hg; have hcz15_0 : w14.cell? ⟨gb407, 0, none⟩ = some (.int .i64 0) := (blk_cell BK407.out 0).trans rfl; have hcz15_1 : w14.cell? ⟨gb407, 1, none⟩ = some (.int .i64 0) := (blk_cell BK407.out 1).trans rfl; have hfz15_0 := blk_frozen BK407.out 0; have hfz15_1 := blk_frozen BK407.out 1) | ((with_reducible refine gate_builtin (b := .append) (xs := #[.tmp 22, .tmp 33]) rfl ?_); at_builtin; refine Kd.R_append k36 (w0 := w) w.heap.size rfl (.tmp 22) (.tmp 33) 30 36 (.agg #[(.int .i64 0), (.int .i64 0)]) 16 rfl Try.underlying30 info36 rfl (by decide) (by omega) u6 x6_2 (⟨(rd_T36 l0 x18_2).f0, wrap64 (((rd_T36 l0 x18_2).f1) + (wrap64 (a1 * ((rd_T36 l0 x18_2).f0))))⟩ : S36) [.int .i64 ((rd_T36 l0 x18_2).f0), .int .i64 (wrap64 (((rd_T36 l0 x18_2).f1) + (wrap64 (a1 * ((rd_T36 l0 x18_2).f0)))))] (fun k_ => k_ ≠ gb407) (fun _ => False) rfl (by first | (go_simp; done) | (go_simp; rfl)) ?aP (fun _ hk => hk.elim) ?aF ?aO ?aB ?aS ?aL ?_; (case aP => exact k36_mkM _ _ _ (⟨(rd_T36 l0 x18_2).f0, wrap64 (((rd_T36 l0 x18_2).f1) + (wrap64 (a1 * ((rd_T36 l0 x18_2).f0))))⟩ : S36)); (case aB => exact (zG GE407.out)); (case aF => exact (fun k_ hk => Kd.freshB (g := gb407) (o := .cells #[.int .i64 ((rd_T36 l0 x18_2).f0), .int .i64 ((rd_T36 l0 x18_2).f1)] 36 (0, 0)) (by (with_reducible repeat (first | refine blk_drewN ?_ _ | refine blk_drew ?_ | refine blk_alloc ?_ _)); refine blk_put (cs := #[.int .i64 ((rd_T36 l0 x18_2).f0), .int .i64 0]) ?_ 1 _ rfl; (with_reducible repeat (first | refine blk_drewN ?_ _ | refine blk_drew ?_ | refine blk_alloc ?_ _)); refine blk_put (cs := #[.int .i64 0, .int .i64 0]) ?_ 0 _ rfl; (with_reducible repeat (first | refine blk_drewN ?_ _ | refine blk_drew ?_ | refine blk_alloc ?_ _)); exact BK407.out) k_ hk)); (case aO => exact (by (with_reducible repeat (first | apply Kd.R_alloc | apply Kd.R_drewN | apply Kd.R_drew)); exact Kd.R_mono (Kd.R_far (p := ⟨gb407, 1, none⟩) (Kd.R_far (p := ⟨gb407, 0, none⟩) (Kd.R_mono HO_6.out (fun k_ hk => (⟨hk, hk.2⟩ : _ ∧ k_ ≠ gb407))) (fun _ hk => hk.2) (.int .i64 ((rd_T36 l0 x18_2).f0))) (fun _ hk => hk.2) (.int .i64 ((rd_T36 l0 x18_2).f1))) (fun _ hk => hk.1.2))); (case aS => exact (below_size (zG GE407.out))); (case aL => have := LMc13.out; omega); intro v409 w16 ho hb hg hat; rw [← Ny408.out] at ho; have n0_ := Aside0.mk (blk_grown (g := gb407) (o := .cells #[.int .i64 ((rd_T36 l0 x18_2).f0), .int .i64 ((rd_T36 l0 x18_2).f1)] 36 (0, 0)) (by (with_reducible repeat (first | refine blk_drewN ?_ _ | refine blk_drew ?_ | refine blk_alloc ?_ _)); refine blk_put (cs := #[.int .i64 ((rd_T36 l0 x18_2).f0), .int .i64 0]) ?_ 1 _ rfl; (with_reducible repeat (first | refine blk_drewN ?_ _ | refine blk_drew ?_ | refine blk_alloc ?_ _)); refine blk_put (cs := #[.int .i64 0, .int .i64 0]) ?_ 0 _ rfl; (with_reducible repeat (first | refine blk_drewN ?_ _ | refine blk_drew ?_ | refine blk_alloc ?_ _)); exact BK407.out) hg (Kd.R_away HO_6.out (fun _ hk => hk.2))); have n1_ := Aside0.mk (hb); have n2_ := Aside0.mk (ho); clear BK407; clear HB; clear HO_6; have BK407 := n0_; have HB := n1_; have HO410 := n2_; clear n0_ n1_ n2_; clear ho hb hg hat))
          go_roundg k2
          case measure => have := HJ2.out; have := HK2.out; omega
          case rel => exact ⟨(y408), (wrap64 (x18_2 + 1)), zF, H', ⟨by have := HJ2.out; have := HK2.out; omega⟩, ⟨by (with_reducible repeat (first | apply Kd.R_alloc | apply Kd.R_drewN | apply Kd.R_drew)); exact Kd.R_mono HO410.out (fun _ hk => trivial)⟩, ⟨zG GE407.out⟩⟩
         ·rw [if_neg c13] at H
          exact absurd H (by simp)
        ·rw [if_neg c12] at H
         exact absurd H (by simp)
       ·rw [if_neg c11] at H
        exact absurd H (by simp)
      ·rw [if_neg c10] at H
       have c10b0 : decide (x18_2 < (l0.length : Int)) = false := decide_eq_false c10
       clear c10
       replace H := Option.bind_eq_some_iff.mp H
       obtain ⟨t411, A170, H⟩ := H
       replace H : (if t411 = true then (some (x6_2, true)) else (some (([] : List (S36)), false))) = some (r1, r2) := H
       have A17 := Aside0.mk A170
       clear A170
       by_cases c18 : t411 = true
       ·subst c18
        have H1 : (some (x6_2, true)) = some (r1, r2) := by rw [if_pos rfl] at H; exact H
        clear H
        have H := H1
        clear H1
        simp only [Option.some.injEq, Prod.mk.injEq] at H
        obtain ⟨rfl, rfl⟩ := H
        obtain ⟨Ao19, co19, eo19⟩ := Kd.R_slice HO_6.out
        subst eo19
        go_wp2_with (first | ((with_reducible refine gate_callee (f := 52) rfl ?_); refine goesL_ (some 37) rfl rfl Try.func52 (by kernel_rfl) rfl #[.int .i64 50, .slice Ao19 x6_2.length co19] rfl zM ?_; (with_reducible refine (impl_areNear.calls 50 _ _ x6_2 true _ ?side1 ?side2 A17.out).mono ?_); (case side1 => repeat (first | exact (Kd.R_reads' HO_6.out).2.2 | (with_reducible refine Kd.C_alloc ?_ _) | (with_reducible refine Kd.C_drewN ?_ _) | (with_reducible refine Kd.C_drew ?_))); (case side2 => exact (Kd.R_reads' HO_6.out).2.1); rintro e w20 ⟨rfl, hb⟩; refine ⟨_, rfl, ?_⟩; replace HO_6 := Aside0.mk (Kd.R_below (zR HO_6.out) hb); replace HB := Aside0.mk (below_step zB hb); (try clear hb)))
        go_ret2
        exact ⟨_, zE, zR HO_6.out, zB⟩
       ·replace c18 := Bool.eq_false_iff.mpr c18
        subst c18
        have H1 : (some (([] : List (S36)), false)) = some (r1, r2) := by rw [if_neg (show ¬ (false = true) by decide)] at H; exact H
        clear H
        have H := H1
        clear H1
        simp only [Option.some.injEq, Prod.mk.injEq] at H
        obtain ⟨rfl, rfl⟩ := H
        obtain ⟨Ao21, co21, eo21⟩ := Kd.R_slice HO_6.out
        subst eo21
        go_wp2_with (first | ((with_reducible refine gate_callee (f := 52) rfl ?_); refine goesL_ (some 37) rfl rfl Try.func52 (by kernel_rfl) rfl #[.int .i64 50, .slice Ao21 x6_2.length co21] rfl zM ?_; (with_reducible refine (impl_areNear.calls 50 _ _ x6_2 false _ ?side1 ?side2 A17.out).mono ?_); (case side1 => repeat (first | exact (Kd.R_reads' HO_6.out).2.2 | (with_reducible refine Kd.C_alloc ?_ _) | (with_reducible refine Kd.C_drewN ?_ _) | (with_reducible refine Kd.C_drew ?_))); (case side2 => exact (Kd.R_reads' HO_6.out).2.1); rintro e w22 ⟨rfl, hb⟩; refine ⟨_, rfl, ?_⟩; replace HO_6 := Aside0.mk (Kd.R_below (zR HO_6.out) hb); replace HB := Aside0.mk (below_step zB hb); (try clear hb)))
        go_ret2
        exact ⟨_, zE, by first | exact Kd.R_nil _ _ _ _ _ | exact Kd.N_nil _ _ _ _ _ | exact Kd.V_nil _ _ _ _ _ | exact Kd.Q_nil _ _ _ _ _ | exact Kd.S_nil _ _ _ _ _, zB⟩
/-! ### laws_markPointS: function 38 -/
def laws_markPointS.l0 : Nat → List (S36) → Int → Int → Option (Int × (List (S36)))
 | 0, _, _, _ => none
 | k + 1, x0, x1, x5 => if x5 < (x0.length : Int) then (if 0 ≤ x5 then ((some (x0.set (x5 : Int).toNat (⟨x1, (rd_T36 x0 x5).f1⟩ : S36) : List (S36))).bind fun y412 => (laws_markPointS.l0 k (y412.set (x5 : Int).toNat (⟨(rd_T36 y412 x5).f0, wrap64 (x1 + 1)⟩ : S36)) (wrap64 ((wrap64 (x1 + 1)) + 1)) (wrap64 (x5 + 1)))) else (none)) else (some (x1, x0))
def laws_markPointS.f (k : Nat) (l0 : List (S36)) (a1 : Int) : Option (Int × (List (S36))) := laws_markPointS.l0 k l0 a1 0
theorem laws_markPointS.mono_l : ∀ k, (∀ y0 y1 y2, LeO (laws_markPointS.l0 k y0 y1 y2) (laws_markPointS.l0 (k + 1) y0 y1 y2))
 | 0 => fun _ _ _ r h => by simp [laws_markPointS.l0] at h
 | k + 1 => by
  have ih0 := laws_markPointS.mono_l k
  ·intro y0 y1 y2
   unfold laws_markPointS.l0
   repeat' first
   | (with_reducible exact ih0 _ _ _)
   | (with_reducible exact LeO.refl _)
   | (with_reducible exact LeO.none _)
   | (with_reducible refine LeO.ite ?_ ?_)
   | (with_reducible refine LeO.bind ?_ (fun _ => ?_))
   | exact ih0 _ _ _
   | exact LeO.none _
   | refine LeO.ite ?_ ?_
   | refine LeO.bind ?_ (fun _ => ?_)
theorem laws_markPointS.mono : ∀ a0 a1 k, LeO (laws_markPointS.f k a0 a1) (laws_markPointS.f (k + 1) a0 a1) := by
 intro a0 a1 k
 have ih0 := laws_markPointS.mono_l k
 unfold laws_markPointS.f
 repeat' first
   | (with_reducible exact ih0 _ _ _)
   | (with_reducible exact LeO.refl _)
   | (with_reducible exact LeO.none _)
   | (with_reducible refine LeO.ite ?_ ?_)
   | (with_reducible refine LeO.bind ?_ (fun _ => ?_))
   | exact ih0 _ _ _
   | exact LeO.none _
   | refine LeO.ite ?_ ?_
   | refine LeO.bind ?_ (fun _ => ?_)
set_option maxHeartbeats 8000000 in
set_option maxRecDepth 100000 in
theorem laws_markPointS.calls (k : Nat) (P0_ : Nat → Prop) (u9000_ : Value) (l0 : List (S36)) (a1 : Int) (r1 : Int) (r2 : List (S36)) (w0 w : World) (hB : Below w0.heap.size w0 w) (ho0 : Kd.R k36 36 w w0.heap.size P0_ u9000_ l0) (h : laws_markPointS.f k l0 a1 = some (r1, r2)) :
  Calls Try.prog 38 #[u9000_, .int .i64 a1] w fun e w' => e = .returned (.int .i64 r1) ∧ Kd.R k36 36 w' w0.heap.size (fun k_ => (P0_ k_ ∨ w.heap.size ≤ k_)) u9000_ r2 ∧ Below w0.heap.size w0 w' ∧ Kept w w' (fun k_ => P0_ k_) := by
 have HO0 := Aside0.mk (show Kd.R k36 36 w w0.heap.size (fun k_ => (P0_ k_ ∨ w.heap.size ≤ k_)) u9000_ l0 from Kd.R_mono ho0 (fun k_ hk => (.inl hk)))
 have HK := Aside0.mk (Kept.refl w (fun k_ => P0_ k_))
 have HW0 := Aside0.mk hB.size
 have HB := Aside0.mk hB
 clear hB
 have H : (laws_markPointS.l0 k l0 a1 0) = some (r1, r2) := h
 clear h
 have H' := Aside0.mk H
 clear H
 go_enter Try.func38, Try.ntmps38
 go_wp2
 go_loopg [1, 5] k (fun kq v1 v5 w' => ∃ (x0_1 : List (S36)) (x1_1 : Int) (x5_1 : Int), v1 = .int .i64 x1_1 ∧ v5 = .int .i64 x5_1 ∧ Aside0 (laws_markPointS.l0 kq x0_1 x1_1 x5_1 = some (r1, r2)) ∧ Aside0 (kq ≤ k) ∧ Aside0 (Kd.R k36 36 w' w0.heap.size (fun k_ => (P0_ k_ ∨ w.heap.size ≤ k_)) u9000_ x0_1) ∧ Aside0 (Kept w w' (fun k_ => P0_ k_)) ∧ Aside0 (Below w0.heap.size w0 w'))
 case atStart => exact ⟨(l0), (a1), (0), zF, zF, H', ⟨Nat.le_refl _⟩, ⟨zR HO0.out⟩, ⟨by repeat (first | (with_reducible first | exact HK.out | apply Kept.alloc | apply Kept.drewN | apply Kept.drew) | exact HK.out)⟩, ⟨zB⟩⟩
 case round =>
  clear H'
  try clear p2
  obtain ⟨x0_1, x1_1, x5_1, rfl, rfl, HA, HK1, HO_0, HK, HB⟩ := hrel
  cases gk with
  | zero => exact absurd HA.out (by simp [laws_markPointS.l0])
  | succ k1 =>
   have H := HA.out
   clear HA
   simp only [laws_markPointS.l0] at H
   by_cases c3 : x5_1 < (x0_1.length : Int)
   ·rw [if_pos c3] at H
    have c3b0 : decide (x5_1 < (x0_1.length : Int)) = true := decide_eq_true c3
    clear c3
    by_cases c4 : 0 ≤ x5_1
    ·rw [if_pos c4] at H
     have c4b0 : decide (0 ≤ x5_1) = true := decide_eq_true c4
     clear c4
     obtain ⟨y412, hy412⟩ : ∃ y_ : List (S36), y_ = (x0_1.set (x5_1 : Int).toNat (⟨x1_1, (rd_T36 x0_1 x5_1).f1⟩ : S36)) := ⟨_, rfl⟩
     replace H : (laws_markPointS.l0 k1 (y412.set (x5_1 : Int).toNat (⟨(rd_T36 y412 x5_1).f0, wrap64 (x1_1 + 1)⟩ : S36)) (wrap64 ((wrap64 (x1_1 + 1)) + 1)) (wrap64 (x5_1 + 1))) = some (r1, r2) := by first | (rw [hy412]; with_reducible exact H) | (have H2_ := (Option.bind_some _ _).symm.trans H; rw [hy412]; with_reducible exact H2_) | (have H2_ := (Option.bind_some _ _).symm.trans H; with_reducible exact H2_) | with_reducible exact H | (rw [hy412]; exact H) | exact H
     have Ny412 := Aside0.mk hy412
     clear hy412
     obtain ⟨y413, hy413⟩ : ∃ y_ : List (S36), y_ = (y412.set (x5_1 : Int).toNat (⟨(rd_T36 y412 x5_1).f0, wrap64 (x1_1 + 1)⟩ : S36)) := ⟨_, rfl⟩
     replace H : (laws_markPointS.l0 k1 y413 (wrap64 ((wrap64 (x1_1 + 1)) + 1)) (wrap64 (x5_1 + 1))) = some (r1, r2) := by first | (rw [hy413]; with_reducible exact H) | (have H2_ := (Option.bind_some _ _).symm.trans H; rw [hy413]; with_reducible exact H2_) | (have H2_ := (Option.bind_some _ _).symm.trans H; with_reducible exact H2_) | with_reducible exact H | (rw [hy413]; exact H) | exact H
     have Ny413 := Aside0.mk hy413
     clear hy413
     have H' := Aside0.mk H
     clear H
     obtain ⟨Ao7, co7, eo7⟩ := Kd.R_slice HO_0.out
     subst eo7
     have p5 : 0 ≤ (x5_1 : Int) := zA
     have q5 : (x5_1 : Int) < ((x0_1.length : Int) : Int) := zA
     obtain ⟨go5, co5, eo5, gb5, gl5, cl5, HG5⟩ := Kd.R_form HO_0.out (by omega)
     (first | cases eo5 | (injection eo5 with ea_ en_ ec_; (first | subst ea_ | (injection ea_ with ea_; subst ea_)); subst ec_; clear en_))
     have GB5 := Aside0.mk gb5
     have GG5 := Aside0.mk HG5
     clear gb5 gl5 HG5
     have HMgo5 := Aside0.mk (show (P0_ go5 ∨ w.heap.size ≤ go5) from (HO_0.out.1 _ rfl))
     obtain ⟨ce5, hcl5, hM5, hcc5, hfr5⟩ := Kd.R_elem HO_0.out z36 (x5_1 : Int) p5 q5
     obtain rfl := k36_openM hM5
     have hx5_0 : wr.cell? ⟨go5, (x5_1 : Int).toNat * 2, none⟩ = some (.int .i64 ((rd_T36 x0_1 x5_1).f0)) := hcc5 0 _ rfl
     have hx5_1 : wr.cell? ⟨go5, (x5_1 : Int).toNat * 2 + 1, none⟩ = some (.int .i64 ((rd_T36 x0_1 x5_1).f1)) := hcc5 1 _ rfl
     have hf5_0 : wr.frozen? ⟨go5, (x5_1 : Int).toNat * 2, none⟩ = false := hfr5 0
     have hf5_1 : wr.frozen? ⟨go5, (x5_1 : Int).toNat * 2 + 1, none⟩ = false := hfr5 1
     clear hcl5 hcc5 hfr5 hM5
     replace p5 := eq_true p5
     replace q5 := eq_true q5
     have HX8 := Aside0.mk (show Kd.R k36 36 wr w0.heap.size (fun k_ => (P0_ k_ ∨ w.heap.size ≤ k_)) (.slice (some ⟨go5, 0, none⟩) x0_1.length co7) x0_1 from (zR HO_0.out))
     obtain ⟨ce8, hcl8, hM8, hcc8, hfr8⟩ := Kd.R_elem HX8.out z36 (x5_1 : Int) (zA) (by have h_ : (x5_1 : Int) < ((x0_1.length : Int) : Int) := zA; first | exact h_ | (have e_ := (Kd.R_reads' HO_0.out).1; omega) | simpa using h_)
     obtain rfl := k36_openM hM8
     have HP8 := Kd.R_seg HX8.out (x5_1 : Int) (zA) (by have h_ : (x5_1 : Int) < ((x0_1.length : Int) : Int) := zA; first | exact h_ | (have e_ := (Kd.R_reads' HO_0.out).1; omega) | simpa using h_) (seg := [.int .i64 x1_1]) (j := 0) hcl8 hcc8 (show 1 ≤ 2 from by decide) (x' := (⟨x1_1, (rd_T36 x0_1 x5_1).f1⟩ : S36)) (k36_mkM _ _ _ (⟨x1_1, (rd_T36 x0_1 x5_1).f1⟩ : S36) ) (fun _ hk => hk)
     have hx8_0 := hcc8 0 _ rfl
     (try simp only [show (k36).sz = 2 from rfl, Nat.mul_one, Nat.add_zero] at hx8_0)
     have hf8_0 := hfr8 0
     (try simp only [show (k36).sz = 2 from rfl, Nat.mul_one, Nat.add_zero] at hf8_0)
     clear hcl8 hcc8 hfr8 hM8
     go_wp2_with (first | ((with_reducible refine gate_store (t := 3) (p := 16) rfl ?_); refine store_event (t := 3) (p := 16) (v := ?vo_w9) (w1 := (wr.setCell ⟨go5, (x5_1 : Int).toNat * 2, none⟩ (.int .i64 x1_1))) ?hg ?ho ?hn ?hr ?_; (case ho => rfl); (case hg => rfl); (case hn => rfl); (case hr => first | (go_simp; done) | (go_simp; rfl)); intro w9 hw; have hg : wr.grownBy w9 (some go5) := (by rw [hw]; exact HP8.2); have hp_ : Kd.R k36 36 w9 w0.heap.size (fun k_ => (P0_ k_ ∨ w.heap.size ≤ k_)) (.slice (some ⟨go5, 0, none⟩) x0_1.length co7) y412 := (by rw [hw, Ny412.out]; exact HP8.1); clear HP8; have n0_ := Aside0.mk (hp_); have n1_ := Aside0.mk ((by rw [hw]; exact below_set (HB.out) GB5.out : Below w0.heap.size w0 w9)); have n2_ := Aside0.mk (Kept.of_grown (S := (fun k_ => P0_ k_)) hg (by repeat (first | (with_reducible first | exact HK.out | apply Kept.alloc | apply Kept.drewN | apply Kept.drew) | exact HK.out)) (fun k_ e_ => (HO_0.out.1 k_ e_))); clear HO_0; clear HB; clear HK; have HO_0 := n0_; have HB := n1_; have HK := n2_; clear n0_ n1_ n2_; clear hg hw hp_; have p6 : 0 ≤ (x5_1 : Int) := zA; have q6 : (x5_1 : Int) < ((x0_1.length : Int) : Int) := zA; obtain ⟨ce6, hcl6, hM6, hcc6, hfr6⟩ := Kd.R_elem HO_0.out z36 (x5_1 : Int) p6 q6; obtain rfl := k36_openM hM6; have hx6_0 : w9.cell? ⟨go5, (x5_1 : Int).toNat * 2, none⟩ = some (.int .i64 ((rd_T36 y412 x5_1).f0)) := hcc6 0 _ rfl; have hx6_1 : w9.cell? ⟨go5, (x5_1 : Int).toNat * 2 + 1, none⟩ = some (.int .i64 ((rd_T36 y412 x5_1).f1)) := hcc6 1 _ rfl; have hf6_0 : w9.frozen? ⟨go5, (x5_1 : Int).toNat * 2, none⟩ = false := hfr6 0; have hf6_1 : w9.frozen? ⟨go5, (x5_1 : Int).toNat * 2 + 1, none⟩ = false := hfr6 1; clear hcl6 hcc6 hfr6 hM6; replace p6 := eq_true p6; replace q6 := eq_true q6; have HX10 := Aside0.mk (show Kd.R k36 36 w9 w0.heap.size (fun k_ => (P0_ k_ ∨ w.heap.size ≤ k_)) (.slice (some ⟨go5, 0, none⟩) x0_1.length co7) y412 from (zR HO_0.out)); obtain ⟨ce10, hcl10, hM10, hcc10, hfr10⟩ := Kd.R_elem HX10.out z36 (x5_1 : Int) (zA) (by have h_ : (x5_1 : Int) < ((x0_1.length : Int) : Int) := zA; first | exact h_ | (have e_ := (Kd.R_reads' HO_0.out).1; omega) | simpa using h_); obtain rfl := k36_openM hM10; have HP10 := Kd.R_seg HX10.out (x5_1 : Int) (zA) (by have h_ : (x5_1 : Int) < ((x0_1.length : Int) : Int) := zA; first | exact h_ | (have e_ := (Kd.R_reads' HO_0.out).1; omega) | simpa using h_) (seg := [.int .i64 (wrap64 (x1_1 + 1))]) (j := 1) hcl10 hcc10 (show 2 ≤ 2 from by decide) (x' := (⟨(rd_T36 y412 x5_1).f0, wrap64 (x1_1 + 1)⟩ : S36)) (k36_mkM _ _ _ (⟨(rd_T36 y412 x5_1).f0, wrap64 (x1_1 + 1)⟩ : S36) ) (fun _ hk => hk); have hx10_1 := hcc10 1 _ rfl; (try simp only [show (k36).sz = 2 from rfl, Nat.mul_one, Nat.add_zero] at hx10_1); have hf10_1 := hfr10 1; (try simp only [show (k36).sz = 2 from rfl, Nat.mul_one, Nat.add_zero] at hf10_1); clear hcl10 hcc10 hfr10 hM10) | ((with_reducible refine gate_store (t := 3) (p := 23) rfl ?_); refine store_event (t := 3) (p := 23) (v := ?vo_w11) (w1 := (w9.setCell ⟨go5, (x5_1 : Int).toNat * 2 + 1, none⟩ (.int .i64 (wrap64 (x1_1 + 1))))) ?hg ?ho ?hn ?hr ?_; (case ho => rfl); (case hg => rfl); (case hn => rfl); (case hr => first | (go_simp; done) | (go_simp; rfl)); intro w11 hw; have hg : w9.grownBy w11 (some go5) := (by rw [hw]; exact HP10.2); have hp_ : Kd.R k36 36 w11 w0.heap.size (fun k_ => (P0_ k_ ∨ w.heap.size ≤ k_)) (.slice (some ⟨go5, 0, none⟩) x0_1.length co7) y413 := (by rw [hw, Ny413.out]; exact HP10.1); clear HP10; have n0_ := Aside0.mk (hp_); have n1_ := Aside0.mk ((by rw [hw]; exact below_set (HB.out) GB5.out : Below w0.heap.size w0 w11)); have n2_ := Aside0.mk (Kept.of_grown (S := (fun k_ => P0_ k_)) hg (by repeat (first | (with_reducible first | exact HK.out | apply Kept.alloc | apply Kept.drewN | apply Kept.drew) | exact HK.out)) (fun k_ e_ => (HO_0.out.1 k_ e_))); clear HO_0; clear HB; clear HK; have HO_0 := n0_; have HB := n1_; have HK := n2_; clear n0_ n1_ n2_; clear hg hw hp_))
     go_roundg k1
     case measure => have := HK1.out; omega
     case rel => exact ⟨(y413), (wrap64 ((wrap64 (x1_1 + 1)) + 1)), (wrap64 (x5_1 + 1)), zF, zF, H', ⟨by have := HK1.out; omega⟩, ⟨zR HO_0.out⟩, ⟨by repeat (first | (with_reducible first | exact HK.out | apply Kept.alloc | apply Kept.drewN | apply Kept.drew) | exact HK.out)⟩, ⟨zB⟩⟩
    ·rw [if_neg c4] at H
     exact absurd H (by simp)
   ·rw [if_neg c3] at H
    have c3b0 : decide (x5_1 < (x0_1.length : Int)) = false := decide_eq_false c3
    clear c3
    simp only [Option.some.injEq, Prod.mk.injEq] at H
    obtain ⟨rfl, rfl⟩ := H
    obtain ⟨Ao12, co12, eo12⟩ := Kd.R_slice HO_0.out
    subst eo12
    go_wp2
    go_ret
    exact ⟨zE, zR HO_0.out, zB, by repeat (first | (with_reducible first | exact HK.out | apply Kept.alloc | apply Kept.drewN | apply Kept.drew) | exact HK.out)⟩
/-! ### laws_heldPointS: function 39 -/
def laws_heldPointS.l0 : Nat → List (S36) → Int → Int → Option (Int)
 | 0, _, _, _ => none
 | k + 1, x0, x1, x5 => if x5 < (x0.length : Int) then (if 0 ≤ x5 then (if ((rd_T36 x0 x5).f0) = x1 then (if ((rd_T36 x0 x5).f1) = (wrap64 (x1 + 1)) then (laws_heldPointS.l0 k x0 (wrap64 ((wrap64 (x1 + 1)) + 1)) (wrap64 (x5 + 1))) else (some (-1))) else (some (-1))) else (none)) else (some x1)
def laws_heldPointS.f (k : Nat) (l0 : List (S36)) (a1 : Int) : Option (Int) := laws_heldPointS.l0 k l0 a1 0
theorem laws_heldPointS.mono_l : ∀ k, (∀ y0 y1 y2, LeO (laws_heldPointS.l0 k y0 y1 y2) (laws_heldPointS.l0 (k + 1) y0 y1 y2))
 | 0 => fun _ _ _ r h => by simp [laws_heldPointS.l0] at h
 | k + 1 => by
  have ih0 := laws_heldPointS.mono_l k
  ·intro y0 y1 y2
   unfold laws_heldPointS.l0
   repeat' first
   | (with_reducible exact ih0 _ _ _)
   | (with_reducible exact LeO.refl _)
   | (with_reducible exact LeO.none _)
   | (with_reducible refine LeO.ite ?_ ?_)
   | (with_reducible refine LeO.bind ?_ (fun _ => ?_))
   | exact ih0 _ _ _
   | exact LeO.none _
   | refine LeO.ite ?_ ?_
   | refine LeO.bind ?_ (fun _ => ?_)
theorem laws_heldPointS.mono : ∀ a0 a1 k, LeO (laws_heldPointS.f k a0 a1) (laws_heldPointS.f (k + 1) a0 a1) := by
 intro a0 a1 k
 have ih0 := laws_heldPointS.mono_l k
 unfold laws_heldPointS.f
 repeat' first
   | (with_reducible exact ih0 _ _ _)
   | (with_reducible exact LeO.refl _)
   | (with_reducible exact LeO.none _)
   | (with_reducible refine LeO.ite ?_ ?_)
   | (with_reducible refine LeO.bind ?_ (fun _ => ?_))
   | exact ih0 _ _ _
   | exact LeO.none _
   | refine LeO.ite ?_ ?_
   | refine LeO.bind ?_ (fun _ => ?_)
set_option maxHeartbeats 8000000 in
set_option maxRecDepth 100000 in
theorem laws_heldPointS.calls (k : Nat) (A0 : Option Addr) (c0 : Nat) (l0 : List (S36)) (a1 : Int) (r : Int) (w : World) (hr0 : Kd.C k36 w A0 l0.length l0) (hc0 : l0.length ≤ c0) (h : laws_heldPointS.f k l0 a1 = some r) :
  Calls Try.prog 39 #[.slice A0 l0.length c0, .int .i64 a1] w fun e w' => e = .returned (.int .i64 r) ∧ Drawn0 w w' := by
 have HR0 := Aside0.mk hr0
 have HC0 := Aside0.mk hc0
 clear hr0 hc0
 have H : (laws_heldPointS.l0 k l0 a1 0) = some r := h
 clear h
 have H' := Aside0.mk H
 clear H
 go_enter Try.func39, Try.ntmps39
 go_wp2
 go_loopg [1, 5] k (fun kq v1 v5 w' => ∃ (x1_1 : Int) (x5_1 : Int), v1 = .int .i64 x1_1 ∧ v5 = .int .i64 x5_1 ∧ Aside0 (laws_heldPointS.l0 kq l0 x1_1 x5_1 = some r) ∧ Aside0 (kq ≤ k) ∧ Drawn0 w w')
 case atStart => exact ⟨(a1), (0), zF, zF, H', ⟨Nat.le_refl _⟩, by repeat (first | exact Drawn0.refl _ | apply Drawn0.step)⟩
 case round =>
  clear H'
  try clear p2
  obtain ⟨x1_1, x5_1, rfl, rfl, HA, HK1, ⟨m1, rfl⟩⟩ := hrel
  cases gk with
  | zero => exact absurd HA.out (by simp [laws_heldPointS.l0])
  | succ k1 =>
   have H := HA.out
   clear HA
   simp only [laws_heldPointS.l0] at H
   by_cases c3 : x5_1 < (l0.length : Int)
   ·rw [if_pos c3] at H
    have c3b0 : decide (x5_1 < (l0.length : Int)) = true := decide_eq_true c3
    clear c3
    by_cases c4 : 0 ≤ x5_1
    ·rw [if_pos c4] at H
     have c4b0 : decide (0 ≤ x5_1) = true := decide_eq_true c4
     clear c4
     by_cases c5 : ((rd_T36 l0 x5_1).f0) = x1_1
     ·rw [if_pos c5] at H
      have c5b0 : (((rd_T36 l0 x5_1).f0) == x1_1) = true := beq_iff_eq.mpr c5
      have c5b1 : (((rd_T36 l0 x5_1).f0) != x1_1) = false := bne_eq_false_iff_eq.mpr c5
      clear c5
      by_cases c6 : ((rd_T36 l0 x5_1).f1) = (wrap64 (x1_1 + 1))
      ·rw [if_pos c6] at H
       have c6b0 : (((rd_T36 l0 x5_1).f1) == (wrap64 (x1_1 + 1))) = true := beq_iff_eq.mpr c6
       have c6b1 : (((rd_T36 l0 x5_1).f1) != (wrap64 (x1_1 + 1))) = false := bne_eq_false_iff_eq.mpr c6
       clear c6
       have H' := Aside0.mk H
       clear H
       have p414 : 0 ≤ (x5_1 : Int) := zA
       have q414 : x5_1 < (l0.length : Int) := zA
       obtain ⟨ad414, e414, hx414_0, hx414_1⟩ := at_T36 HR0.out x5_1 p414 q414
       cases e414
       replace p414 := eq_true p414
       replace q414 := eq_true q414
       have p415 : 0 ≤ (x5_1 : Int) := zA
       have q415 : x5_1 < (l0.length : Int) := zA
       obtain ⟨ad415, e415, hx415_0, hx415_1⟩ := at_T36 HR0.out x5_1 p415 q415
       obtain rfl : ad414 = ad415 := (by injection e415)
       replace p415 := eq_true p415
       replace q415 := eq_true q415
       go_wp2
       go_roundg k1
       case measure => have := HK1.out; omega
       case rel => exact ⟨(wrap64 ((wrap64 (x1_1 + 1)) + 1)), (wrap64 (x5_1 + 1)), zF, zF, H', ⟨by have := HK1.out; omega⟩, by repeat (first | exact Drawn0.refl _ | apply Drawn0.step)⟩
      ·rw [if_neg c6] at H
       have c6b0 : (((rd_T36 l0 x5_1).f1) == (wrap64 (x1_1 + 1))) = false := beq_eq_false_iff_ne.mpr c6
       have c6b1 : (((rd_T36 l0 x5_1).f1) != (wrap64 (x1_1 + 1))) = true := bne_iff_ne.mpr c6
       obtain rfl := Option.some.inj H
       have p414 : 0 ≤ (x5_1 : Int) := zA
       have q414 : x5_1 < (l0.length : Int) := zA
       obtain ⟨ad414, e414, hx414_0, hx414_1⟩ := at_T36 HR0.out x5_1 p414 q414
       cases e414
       replace p414 := eq_true p414
       replace q414 := eq_true q414
       have p415 : 0 ≤ (x5_1 : Int) := zA
       have q415 : x5_1 < (l0.length : Int) := zA
       obtain ⟨ad415, e415, hx415_0, hx415_1⟩ := at_T36 HR0.out x5_1 p415 q415
       obtain rfl : ad414 = ad415 := (by injection e415)
       replace p415 := eq_true p415
       replace q415 := eq_true q415
       go_wp2
       go_ret
       exact ⟨by first | rfl | (simp; done) | (simp [*]; done), by repeat (first | exact Drawn0.refl _ | apply Drawn0.step)⟩
     ·rw [if_neg c5] at H
      have c5b0 : (((rd_T36 l0 x5_1).f0) == x1_1) = false := beq_eq_false_iff_ne.mpr c5
      have c5b1 : (((rd_T36 l0 x5_1).f0) != x1_1) = true := bne_iff_ne.mpr c5
      obtain rfl := Option.some.inj H
      have p414 : 0 ≤ (x5_1 : Int) := zA
      have q414 : x5_1 < (l0.length : Int) := zA
      obtain ⟨ad414, e414, hx414_0, hx414_1⟩ := at_T36 HR0.out x5_1 p414 q414
      cases e414
      replace p414 := eq_true p414
      replace q414 := eq_true q414
      go_wp2
      go_ret
      exact ⟨by first | rfl | (simp; done) | (simp [*]; done), by repeat (first | exact Drawn0.refl _ | apply Drawn0.step)⟩
    ·rw [if_neg c4] at H
     exact absurd H (by simp)
   ·rw [if_neg c3] at H
    have c3b0 : decide (x5_1 < (l0.length : Int)) = false := decide_eq_false c3
    clear c3
    obtain rfl := Option.some.inj H
    go_wp2
    go_ret
    exact ⟨by first | rfl | (simp; done) | (simp [*]; done), by repeat (first | exact Drawn0.refl _ | apply Drawn0.step)⟩
/-! ### laws_FnExactShearPoints: function 10 -/
mutual
def laws_FnExactShearPoints.j0 : Nat → List (S34) → Int → List (S36) → Bool → List (S36) → List (S36) → Bool → Bool → Option (Bool)
 | 0, _, _, _, _, _, _, _, _ => none
 | k + 1, x0, x1, x6, x7, x8, x9, x10, x44 => if x44 = true then (some false) else ((laws_toPointS.f k x0).bind fun t432 => ((laws_eqPointS.f k x8 t432).bind fun t435 => (if t435 = true then ((laws_markPointS.f k x8 1).bind fun bt436 => (if bt436.1 < 0 then (laws_FnExactShearPoints.j1 k x0 x1 x6 x7 x9 true) else ((laws_eqPointS.f k x9 x6).bind fun t438 => (if t438 = true then (laws_FnExactShearPoints.j1 k x0 x1 x6 x7 x9 (x10 != x7)) else (laws_FnExactShearPoints.j1 k x0 x1 x6 x7 x9 true))))) else (some false))))
def laws_FnExactShearPoints.j1 : Nat → List (S34) → Int → List (S36) → Bool → List (S36) → Bool → Option (Bool)
 | 0, _, _, _, _, _, _ => none
 | k + 1, x0, x1, x6, x7, x9, x65 => if x65 = true then (some false) else ((laws_markPointS.f k x9 1).bind fun bt439 => ((laws_heldPointS.f k bt439.2 1).bind fun t441 => (if t441 < 0 then (some false) else (if t441 = bt439.1 then ((laws_toPointS.f k x0).bind fun t442 => ((impl_ShearPoints.f k t442 x1).bind fun bt445 => ((laws_eqPointS.f k bt445.1 x6).bind fun t449 => (if t449 = true then (laws_FnExactShearPoints.j2 k bt439.2 bt439.1 (bt445.2 != x7)) else (laws_FnExactShearPoints.j2 k bt439.2 bt439.1 true))))) else (some false)))))
def laws_FnExactShearPoints.j2 : Nat → List (S36) → Int → Bool → Option (Bool)
 | 0, _, _, _ => none
 | k + 1, x9, x12, x92 => if x92 = true then (some false) else ((laws_heldPointS.f k x9 1).bind fun t450 => (if t450 < 0 then (some false) else (if t450 = x12 then (some true) else (some false))))
end
def laws_FnExactShearPoints.f (k : Nat) (l0 : List (S34)) (a1 : Int) : Option (Bool) := (laws_szPointS.f l0 1048576).bind fun t416 => (if t416 < 0 then (some true) else ((laws_toPointS.f k l0).bind fun t417 => ((spec_ShearPoints.f k t417 a1).bind fun bt420 => ((laws_toPointS.f k l0).bind fun t424 => ((impl_ShearPoints.f k t424 a1).bind fun bt427 => ((laws_eqPointS.f k bt427.1 bt420.1).bind fun t431 => (if t431 = true then (laws_FnExactShearPoints.j0 k l0 a1 bt420.1 bt420.2 t424 bt427.1 bt427.2 (bt427.2 != bt420.2)) else (laws_FnExactShearPoints.j0 k l0 a1 bt420.1 bt420.2 t424 bt427.1 bt427.2 true))))))))
theorem laws_FnExactShearPoints.mono_l : ∀ k, (∀ y0 y1 y2 y3 y4 y5 y6 y7, LeO (laws_FnExactShearPoints.j0 k y0 y1 y2 y3 y4 y5 y6 y7) (laws_FnExactShearPoints.j0 (k + 1) y0 y1 y2 y3 y4 y5 y6 y7)) ∧ (∀ y0 y1 y2 y3 y4 y5, LeO (laws_FnExactShearPoints.j1 k y0 y1 y2 y3 y4 y5) (laws_FnExactShearPoints.j1 (k + 1) y0 y1 y2 y3 y4 y5)) ∧ (∀ y0 y1 y2, LeO (laws_FnExactShearPoints.j2 k y0 y1 y2) (laws_FnExactShearPoints.j2 (k + 1) y0 y1 y2))
 | 0 => ⟨fun _ _ _ _ _ _ _ _ r h => by simp [laws_FnExactShearPoints.j0] at h, fun _ _ _ _ _ _ r h => by simp [laws_FnExactShearPoints.j1] at h, fun _ _ _ r h => by simp [laws_FnExactShearPoints.j2] at h⟩
 | k + 1 => by
  obtain ⟨ih0, ih1, ih2⟩ := laws_FnExactShearPoints.mono_l k
  refine ⟨?_, ?_, ?_⟩ <;> intros <;> (first | unfold laws_FnExactShearPoints.j0 | unfold laws_FnExactShearPoints.j1 | unfold laws_FnExactShearPoints.j2) <;> repeat' first
  | (with_reducible exact ih0 _ _ _ _ _ _ _ _)
  | (with_reducible exact ih1 _ _ _ _ _ _)
  | (with_reducible exact ih2 _ _ _)
  | (with_reducible exact impl_ShearPoints.mono _ _ _)
  | (with_reducible exact laws_eqPointS.mono _ _ _)
  | (with_reducible exact laws_heldPointS.mono _ _ _)
  | (with_reducible exact laws_markPointS.mono _ _ _)
  | (with_reducible exact laws_toPointS.mono _ _)
  | (with_reducible exact spec_ShearPoints.mono _ _ _)
  | (with_reducible exact LeO.refl _)
  | (with_reducible exact LeO.none _)
  | (with_reducible refine LeO.ite ?_ ?_)
  | (with_reducible refine LeO.bind ?_ (fun _ => ?_))
  | exact ih0 _ _ _ _ _ _ _ _
  | exact ih1 _ _ _ _ _ _
  | exact ih2 _ _ _
  | exact impl_ShearPoints.mono _ _ _
  | exact laws_eqPointS.mono _ _ _
  | exact laws_heldPointS.mono _ _ _
  | exact laws_markPointS.mono _ _ _
  | exact laws_toPointS.mono _ _
  | exact spec_ShearPoints.mono _ _ _
  | exact LeO.none _
  | refine LeO.ite ?_ ?_
  | refine LeO.bind ?_ (fun _ => ?_)
theorem laws_FnExactShearPoints.mono : ∀ a0 a1 k, LeO (laws_FnExactShearPoints.f k a0 a1) (laws_FnExactShearPoints.f (k + 1) a0 a1) := by
 intro a0 a1 k
 obtain ⟨ih0, ih1, ih2⟩ := laws_FnExactShearPoints.mono_l k
 unfold laws_FnExactShearPoints.f
 repeat' first
   | (with_reducible exact ih0 _ _ _ _ _ _ _ _)
   | (with_reducible exact ih1 _ _ _ _ _ _)
   | (with_reducible exact ih2 _ _ _)
   | (with_reducible exact impl_ShearPoints.mono _ _ _)
   | (with_reducible exact laws_eqPointS.mono _ _ _)
   | (with_reducible exact laws_heldPointS.mono _ _ _)
   | (with_reducible exact laws_markPointS.mono _ _ _)
   | (with_reducible exact laws_toPointS.mono _ _)
   | (with_reducible exact spec_ShearPoints.mono _ _ _)
   | (with_reducible exact LeO.refl _)
   | (with_reducible exact LeO.none _)
   | (with_reducible refine LeO.ite ?_ ?_)
   | (with_reducible refine LeO.bind ?_ (fun _ => ?_))
   | exact ih0 _ _ _ _ _ _ _ _
   | exact ih1 _ _ _ _ _ _
   | exact ih2 _ _ _
   | exact impl_ShearPoints.mono _ _ _
   | exact laws_eqPointS.mono _ _ _
   | exact laws_heldPointS.mono _ _ _
   | exact laws_markPointS.mono _ _ _
   | exact laws_toPointS.mono _ _
   | exact spec_ShearPoints.mono _ _ _
   | exact LeO.none _
   | refine LeO.ite ?_ ?_
   | refine LeO.bind ?_ (fun _ => ?_)
set_option maxHeartbeats 8000000 in
set_option maxRecDepth 100000 in
theorem laws_FnExactShearPoints.calls (k : Nat) (A0 : Option Addr) (c0 : Nat) (l0 : List (S34)) (a1 : Int) (r : Bool) (w : World) (hr0 : Kd.C k34 w A0 l0.length l0) (hc0 : l0.length ≤ c0) (h : laws_FnExactShearPoints.f k l0 a1 = some r) (hr_ : r = true) :
  Calls Try.prog 10 #[.slice A0 l0.length c0, .int .i64 a1] w fun e w' => e = .returned (.bool r) ∧ Below w.heap.size w w' := by
 have HR0 := Aside0.mk hr0
 have HC0 := Aside0.mk hc0
 clear hr0 hc0
 have HB := Aside0.mk (Below.refl w.heap.size w)
 have H : ((laws_szPointS.f l0 1048576).bind fun t416 => (if t416 < 0 then (some true) else ((laws_toPointS.f k l0).bind fun t417 => ((spec_ShearPoints.f k t417 a1).bind fun bt420 => ((laws_toPointS.f k l0).bind fun t424 => ((impl_ShearPoints.f k t424 a1).bind fun bt427 => ((laws_eqPointS.f k bt427.1 bt420.1).bind fun t431 => (if t431 = true then (laws_FnExactShearPoints.j0 k l0 a1 bt420.1 bt420.2 t424 bt427.1 bt427.2 (bt427.2 != bt420.2)) else (laws_FnExactShearPoints.j0 k l0 a1 bt420.1 bt420.2 t424 bt427.1 bt427.2 true))))))))) = some r := h
 clear h
 replace H := Option.bind_eq_some_iff.mp H
 obtain ⟨t416, A30, H⟩ := H
 replace H : (if t416 < 0 then (some true) else ((laws_toPointS.f k l0).bind fun t417 => ((spec_ShearPoints.f k t417 a1).bind fun bt420 => ((laws_toPointS.f k l0).bind fun t424 => ((impl_ShearPoints.f k t424 a1).bind fun bt427 => ((laws_eqPointS.f k bt427.1 bt420.1).bind fun t431 => (if t431 = true then (laws_FnExactShearPoints.j0 k l0 a1 bt420.1 bt420.2 t424 bt427.1 bt427.2 (bt427.2 != bt420.2)) else (laws_FnExactShearPoints.j0 k l0 a1 bt420.1 bt420.2 t424 bt427.1 bt427.2 true)))))))) = some r := H
 have A3 := Aside0.mk A30
 clear A30
 by_cases c4 : t416 < 0
 ·rw [if_pos c4] at H
  have c4b0 : decide (t416 < 0) = true := decide_eq_true c4
  clear c4
  obtain rfl := Option.some.inj H
  go_enter Try.func10, Try.ntmps10
  go_wp2_with (first | ((with_reducible refine gate_callee (f := 18) rfl ?_); refine goesL_ (some 18) rfl rfl Try.func18 (by kernel_rfl) rfl #[.slice A0 l0.length c0, .int .i64 1048576] rfl zM ?_; (with_reducible refine (laws_szPointS.calls _ _ l0 1048576 t416 _ ?side1 ?side2 A3.out).mono ?_); (case side1 => repeat (first | exact HR0.out | (with_reducible refine Kd.C_alloc ?_ _) | (with_reducible refine Kd.C_drewN ?_ _) | (with_reducible refine Kd.C_drew ?_))); (case side2 => exact HC0.out); rintro e w' ⟨rfl, ⟨nd, rfl⟩⟩; refine ⟨_, rfl, ?_⟩))
  go_ret
  exact ⟨zE, zB⟩
 ·rw [if_neg c4] at H
  have c4b0 : decide (t416 < 0) = false := decide_eq_false c4
  clear c4
  replace H := Option.bind_eq_some_iff.mp H
  obtain ⟨t417, A50, H⟩ := H
  replace H : ((spec_ShearPoints.f k t417 a1).bind fun bt420 => ((laws_toPointS.f k l0).bind fun t424 => ((impl_ShearPoints.f k t424 a1).bind fun bt427 => ((laws_eqPointS.f k bt427.1 bt420.1).bind fun t431 => (if t431 = true then (laws_FnExactShearPoints.j0 k l0 a1 bt420.1 bt420.2 t424 bt427.1 bt427.2 (bt427.2 != bt420.2)) else (laws_FnExactShearPoints.j0 k l0 a1 bt420.1 bt420.2 t424 bt427.1 bt427.2 true)))))) = some r := H
  have A5 := Aside0.mk A50
  clear A50
  replace H := Option.bind_eq_some_iff.mp H
  obtain ⟨⟨t420, t421⟩, A60, H⟩ := H
  replace H : ((laws_toPointS.f k l0).bind fun t424 => ((impl_ShearPoints.f k t424 a1).bind fun bt427 => ((laws_eqPointS.f k bt427.1 t420).bind fun t431 => (if t431 = true then (laws_FnExactShearPoints.j0 k l0 a1 t420 t421 t424 bt427.1 bt427.2 (bt427.2 != t421)) else (laws_FnExactShearPoints.j0 k l0 a1 t420 t421 t424 bt427.1 bt427.2 true))))) = some r := H
  have A6 := Aside0.mk A60
  clear A60
  replace H := Option.bind_eq_some_iff.mp H
  obtain ⟨t424, A70, H⟩ := H
  replace H : ((impl_ShearPoints.f k t424 a1).bind fun bt427 => ((laws_eqPointS.f k bt427.1 t420).bind fun t431 => (if t431 = true then (laws_FnExactShearPoints.j0 k l0 a1 t420 t421 t424 bt427.1 bt427.2 (bt427.2 != t421)) else (laws_FnExactShearPoints.j0 k l0 a1 t420 t421 t424 bt427.1 bt427.2 true)))) = some r := H
  have A7 := Aside0.mk A70
  clear A70
  replace H := Option.bind_eq_some_iff.mp H
  obtain ⟨⟨t427, t428⟩, A80, H⟩ := H
  replace H : ((laws_eqPointS.f k t427 t420).bind fun t431 => (if t431 = true then (laws_FnExactShearPoints.j0 k l0 a1 t420 t421 t424 t427 t428 (t428 != t421)) else (laws_FnExactShearPoints.j0 k l0 a1 t420 t421 t424 t427 t428 true))) = some r := H
  have A8 := Aside0.mk A80
  clear A80
  have HC9 := Aside0.mk H
  clear H
  go_enter Try.func10, Try.ntmps10
  go_upto_region 8 with (first | ((with_reducible refine gate_callee (f := 18) rfl ?_); refine goesL_ (some 18) rfl rfl Try.func18 (by kernel_rfl) rfl #[.slice A0 l0.length c0, .int .i64 1048576] rfl zM ?_; (with_reducible refine (laws_szPointS.calls _ _ l0 1048576 t416 _ ?side1 ?side2 A3.out).mono ?_); (case side1 => repeat (first | exact HR0.out | (with_reducible refine Kd.C_alloc ?_ _) | (with_reducible refine Kd.C_drewN ?_ _) | (with_reducible refine Kd.C_drew ?_))); (case side2 => exact HC0.out); rintro e w' ⟨rfl, ⟨nd, rfl⟩⟩; refine ⟨_, rfl, ?_⟩) | ((with_reducible refine gate_callee (f := 20) rfl ?_); refine goesL_ (some 23) rfl rfl Try.func20 (by kernel_rfl) rfl #[.slice A0 l0.length c0] rfl zM ?_; (with_reducible refine (laws_toPointS.calls k _ _ l0 t417 _ ?side1 ?side2 A5.out).mono ?_); (case side1 => repeat (first | exact HR0.out | (with_reducible refine Kd.C_alloc ?_ _) | (with_reducible refine Kd.C_drewN ?_ _) | (with_reducible refine Kd.C_drew ?_))); (case side2 => exact HC0.out); rintro e w10 ⟨v418, rfl, ho0, hb⟩; refine ⟨_, rfl, ?_⟩; have HO419 := Aside0.mk (Kd.R_lower ho0 (below_size zB)); replace HB := Aside0.mk (below_step zB hb); (try clear hb); (try clear ho0); obtain ⟨Ao11, co11, eo11⟩ := Kd.R_slice HO419.out; subst eo11) | ((with_reducible refine gate_callee (f := 36) rfl ?_); refine goesL_ (some 25) rfl rfl Try.func36 (by kernel_rfl) rfl #[.slice Ao11 t417.length co11, .int .i64 a1] rfl zM ?_; (with_reducible refine (spec_ShearPoints.calls k _ _ t417 a1 t420 t421 _ ?side1 ?side2 A6.out).mono ?_); (case side1 => repeat (first | exact (Kd.R_reads' HO419.out).2.2 | (with_reducible refine Kd.C_alloc ?_ _) | (with_reducible refine Kd.C_drewN ?_ _) | (with_reducible refine Kd.C_drew ?_))); (case side2 => exact (Kd.R_reads' HO419.out).2.1); rintro e w12 ⟨v422, rfl, ho0, hb⟩; refine ⟨_, rfl, ?_⟩; have n0_ := Aside0.mk (Kd.R_elder' (zR HO419.out) (Kd.R_base ho0) hb); have n1_ := Aside0.mk (Kd.R_lower (Kd.R_new' ho0 (Kd.R_lt (zR HO419.out))) (below_size zB)); have n2_ := Aside0.mk (below_step zB hb); clear HO419; clear HB; have HO419 := n0_; have HO423 := n1_; have HB := n2_; clear n0_ n1_ n2_; (try clear hb); (try clear ho0)) | ((with_reducible refine gate_callee (f := 20) rfl ?_); refine goesL_ (some 29) rfl rfl Try.func20 (by kernel_rfl) rfl #[.slice A0 l0.length c0] rfl zM ?_; (with_reducible refine (laws_toPointS.calls k _ _ l0 t424 _ ?side1 ?side2 A7.out).mono ?_); (case side1 => repeat (first | exact (Kd.C_below HR0.out HB.out) | (with_reducible refine Kd.C_alloc ?_ _) | (with_reducible refine Kd.C_drewN ?_ _) | (with_reducible refine Kd.C_drew ?_))); (case side2 => exact HC0.out); rintro e w13 ⟨v425, rfl, ho0, hb⟩; refine ⟨_, rfl, ?_⟩; have n0_ := Aside0.mk (Kd.R_elder' (zR HO419.out) (Kd.R_base ho0) hb); have n1_ := Aside0.mk (Kd.R_elder' (zR HO423.out) (Kd.R_base ho0) hb); have n2_ := Aside0.mk (Kd.R_lower (Kd.R_new' (Kd.R_new' ho0 (Kd.R_lt (zR HO419.out))) (Kd.R_lt (zR HO423.out))) (below_size zB)); have n3_ := Aside0.mk (below_step zB hb); clear HO419; clear HO423; clear HB; have HO419 := n0_; have HO423 := n1_; have HO426 := n2_; have HB := n3_; clear n0_ n1_ n2_ n3_; (try clear hb); (try clear ho0); obtain ⟨Ao14, co14, eo14⟩ := Kd.R_slice HO426.out; subst eo14) | ((with_reducible refine gate_callee (f := 37) rfl ?_); refine goesL_ (some 33) rfl rfl Try.func37 (by kernel_rfl) rfl #[.slice Ao14 t424.length co14, .int .i64 a1] rfl zM ?_; (with_reducible refine (impl_ShearPoints.calls k _ _ t424 a1 t427 t428 _ ?side1 ?side2 A8.out).mono ?_); (case side1 => repeat (first | exact (Kd.R_reads' HO426.out).2.2 | (with_reducible refine Kd.C_alloc ?_ _) | (with_reducible refine Kd.C_drewN ?_ _) | (with_reducible refine Kd.C_drew ?_))); (case side2 => exact (Kd.R_reads' HO426.out).2.1); rintro e w15 ⟨v429, rfl, ho0, hb⟩; refine ⟨_, rfl, ?_⟩; have n0_ := Aside0.mk (Kd.R_elder' (zR HO419.out) (Kd.R_base ho0) hb); have n1_ := Aside0.mk (Kd.R_elder' (zR HO423.out) (Kd.R_base ho0) hb); have n2_ := Aside0.mk (Kd.R_elder' (zR HO426.out) (Kd.R_base ho0) hb); have n3_ := Aside0.mk (Kd.R_lower (Kd.R_new' (Kd.R_new' (Kd.R_new' ho0 (Kd.R_lt (zR HO419.out))) (Kd.R_lt (zR HO423.out))) (Kd.R_lt (zR HO426.out))) (below_size zB)); have n4_ := Aside0.mk (below_step zB hb); clear HO419; clear HO423; clear HO426; clear HB; have HO419 := n0_; have HO423 := n1_; have HO426 := n2_; have HO430 := n3_; have HB := n4_; clear n0_ n1_ n2_ n3_ n4_; (try clear hb); (try clear ho0)))
  (try simp only [Act.put, List.setIfInBounds_toArray, List.set_cons_zero, List.set_cons_succ])
  go_cut [44] (fun v44 wc => ∃ (kq : Nat) (x44_8 : Bool), v44 = .bool x44_8 ∧ Aside0 (laws_FnExactShearPoints.j0 kq l0 a1 t420 t421 t424 t427 t428 x44_8 = some r) ∧ Aside0 (kq ≤ k) ∧ Aside0 (Kd.R k36 36 wc w.heap.size (fun k_ => some k_ ≠ ((.slice Ao14 t424.length co14) : Value).ownBlock ∧ some k_ ≠ (v429 : Value).ownBlock) v422 t420) ∧ Aside0 (Kd.R k36 36 wc w.heap.size (fun k_ => some k_ ≠ (v422 : Value).ownBlock ∧ some k_ ≠ (v429 : Value).ownBlock) (.slice Ao14 t424.length co14) t424) ∧ Aside0 (Kd.R k36 36 wc w.heap.size (fun k_ => some k_ ≠ (v422 : Value).ownBlock ∧ some k_ ≠ ((.slice Ao14 t424.length co14) : Value).ownBlock) v429 t427) ∧ Aside0 (Below w.heap.size w wc))
  case first =>
   have H := HC9.out
   clear HC9
   replace H := Option.bind_eq_some_iff.mp H
   obtain ⟨t431, A160, H⟩ := H
   replace H : (if t431 = true then (laws_FnExactShearPoints.j0 k l0 a1 t420 t421 t424 t427 t428 (t428 != t421)) else (laws_FnExactShearPoints.j0 k l0 a1 t420 t421 t424 t427 t428 true)) = some r := H
   have A16 := Aside0.mk A160
   clear A160
   by_cases c17 : t431 = true
   ·subst c17
    have H1 : (laws_FnExactShearPoints.j0 k l0 a1 t420 t421 t424 t427 t428 (t428 != t421)) = some r := by rw [if_pos rfl] at H; exact H
    clear H
    have H := H1
    clear H1
    have H' := Aside0.mk H
    clear H
    obtain ⟨Ao18, co18, eo18⟩ := Kd.R_slice HO430.out
    subst eo18
    obtain ⟨Ao19, co19, eo19⟩ := Kd.R_slice HO423.out
    subst eo19
    go_wp2_with (first | ((with_reducible refine gate_callee (f := 22) rfl ?_); refine goesL_ (some 38) rfl rfl Try.func22 (by kernel_rfl) rfl #[.slice Ao18 t427.length co18, .slice Ao19 t420.length co19] rfl zM ?_; (with_reducible refine (laws_eqPointS.calls k _ _ t427 _ _ t420 true _ ?side1 ?side2 ?side3 ?side4 A16.out).mono ?_); (case side1 => repeat (first | exact (Kd.R_reads' HO430.out).2.2 | (with_reducible refine Kd.C_alloc ?_ _) | (with_reducible refine Kd.C_drewN ?_ _) | (with_reducible refine Kd.C_drew ?_))); (case side2 => exact (Kd.R_reads' HO430.out).2.1); (case side3 => repeat (first | exact (Kd.R_reads' HO423.out).2.2 | (with_reducible refine Kd.C_alloc ?_ _) | (with_reducible refine Kd.C_drewN ?_ _) | (with_reducible refine Kd.C_drew ?_))); (case side4 => exact (Kd.R_reads' HO423.out).2.1); rintro e w20 ⟨rfl, hb⟩; refine ⟨_, rfl, ?_⟩; replace HO419 := Aside0.mk (Kd.R_below (zR HO419.out) hb); replace HO423 := Aside0.mk (Kd.R_below (zR HO423.out) hb); replace HO426 := Aside0.mk (Kd.R_below (zR HO426.out) hb); replace HO430 := Aside0.mk (Kd.R_below (zR HO430.out) hb); replace HB := Aside0.mk (below_step zB hb); (try clear hb)))
    go_meet
    case rel => exact ⟨_, ((t428 != t421)), zF, H', ⟨by first | omega | exact Nat.le_refl _⟩, ⟨by (with_reducible repeat (first | apply Kd.R_alloc | apply Kd.R_drewN | apply Kd.R_drew)); exact Kd.R_mono HO423.out (fun _ hk => ⟨hk.1.2, hk.2⟩)⟩, ⟨by (with_reducible repeat (first | apply Kd.R_alloc | apply Kd.R_drewN | apply Kd.R_drew)); exact Kd.R_mono HO426.out (fun _ hk => ⟨hk.1.2, hk.2⟩)⟩, ⟨by (with_reducible repeat (first | apply Kd.R_alloc | apply Kd.R_drewN | apply Kd.R_drew)); exact Kd.R_mono HO430.out (fun _ hk => ⟨hk.1.2, hk.2⟩)⟩, ⟨zB⟩⟩
   ·replace c17 := Bool.eq_false_iff.mpr c17
    subst c17
    have H1 : (laws_FnExactShearPoints.j0 k l0 a1 t420 t421 t424 t427 t428 true) = some r := by rw [if_neg (show ¬ (false = true) by decide)] at H; exact H
    clear H
    have H := H1
    clear H1
    have H' := Aside0.mk H
    clear H
    obtain ⟨Ao21, co21, eo21⟩ := Kd.R_slice HO430.out
    subst eo21
    obtain ⟨Ao22, co22, eo22⟩ := Kd.R_slice HO423.out
    subst eo22
    go_wp2_with (first | ((with_reducible refine gate_callee (f := 22) rfl ?_); refine goesL_ (some 38) rfl rfl Try.func22 (by kernel_rfl) rfl #[.slice Ao21 t427.length co21, .slice Ao22 t420.length co22] rfl zM ?_; (with_reducible refine (laws_eqPointS.calls k _ _ t427 _ _ t420 false _ ?side1 ?side2 ?side3 ?side4 A16.out).mono ?_); (case side1 => repeat (first | exact (Kd.R_reads' HO430.out).2.2 | (with_reducible refine Kd.C_alloc ?_ _) | (with_reducible refine Kd.C_drewN ?_ _) | (with_reducible refine Kd.C_drew ?_))); (case side2 => exact (Kd.R_reads' HO430.out).2.1); (case side3 => repeat (first | exact (Kd.R_reads' HO423.out).2.2 | (with_reducible refine Kd.C_alloc ?_ _) | (with_reducible refine Kd.C_drewN ?_ _) | (with_reducible refine Kd.C_drew ?_))); (case side4 => exact (Kd.R_reads' HO423.out).2.1); rintro e w23 ⟨rfl, hb⟩; refine ⟨_, rfl, ?_⟩; replace HO419 := Aside0.mk (Kd.R_below (zR HO419.out) hb); replace HO423 := Aside0.mk (Kd.R_below (zR HO423.out) hb); replace HO426 := Aside0.mk (Kd.R_below (zR HO426.out) hb); replace HO430 := Aside0.mk (Kd.R_below (zR HO430.out) hb); replace HB := Aside0.mk (below_step zB hb); (try clear hb)))
    go_meet
    case rel => exact ⟨_, (true), zF, H', ⟨by first | omega | exact Nat.le_refl _⟩, ⟨by (with_reducible repeat (first | apply Kd.R_alloc | apply Kd.R_drewN | apply Kd.R_drew)); exact Kd.R_mono HO423.out (fun _ hk => ⟨hk.1.2, hk.2⟩)⟩, ⟨by (with_reducible repeat (first | apply Kd.R_alloc | apply Kd.R_drewN | apply Kd.R_drew)); exact Kd.R_mono HO426.out (fun _ hk => ⟨hk.1.2, hk.2⟩)⟩, ⟨by (with_reducible repeat (first | apply Kd.R_alloc | apply Kd.R_drewN | apply Kd.R_drew)); exact Kd.R_mono HO430.out (fun _ hk => ⟨hk.1.2, hk.2⟩)⟩, ⟨zB⟩⟩
  case rest =>
   clear HC9
   try clear c1
   try clear c2
   try clear p2
   try clear c3
   try clear c4
   try clear c4b0
   try clear c10
   try clear c17
   try clear c18
   try clear c20
   try clear c22
   obtain ⟨kq, x44_8, rfl, HA, HJ8, HO_6, HO_8, HO_9, HB⟩ := hcut
   cases kq with
   | zero => exact absurd HA.out (by simp [laws_FnExactShearPoints.j0])
   | succ kj8 =>
    have H := HA.out
    clear HA
    simp only [laws_FnExactShearPoints.j0] at H
    by_cases c24 : x44_8 = true
    ·subst c24
     have H1 : (some false) = some r := by rw [if_pos rfl] at H; exact H
     clear H
     have H := H1
     clear H1
     obtain rfl := Option.some.inj H
     cases hr_
    ·replace c24 := Bool.eq_false_iff.mpr c24
     subst c24
     have H1 : ((laws_toPointS.f kj8 l0).bind fun t432 => ((laws_eqPointS.f kj8 t424 t432).bind fun t435 => (if t435 = true then ((laws_markPointS.f kj8 t424 1).bind fun bt436 => (if bt436.1 < 0 then (laws_FnExactShearPoints.j1 kj8 l0 a1 t420 t421 t427 true) else ((laws_eqPointS.f kj8 t427 t420).bind fun t438 => (if t438 = true then (laws_FnExactShearPoints.j1 kj8 l0 a1 t420 t421 t427 (t428 != t421)) else (laws_FnExactShearPoints.j1 kj8 l0 a1 t420 t421 t427 true))))) else (some false)))) = some r := by rw [if_neg (show ¬ (false = true) by decide)] at H; exact H
     clear H
     have H := H1
     clear H1
     replace H := Option.bind_eq_some_iff.mp H
     obtain ⟨t432, A250, H⟩ := H
     replace H : ((laws_eqPointS.f kj8 t424 t432).bind fun t435 => (if t435 = true then ((laws_markPointS.f kj8 t424 1).bind fun bt436 => (if bt436.1 < 0 then (laws_FnExactShearPoints.j1 kj8 l0 a1 t420 t421 t427 true) else ((laws_eqPointS.f kj8 t427 t420).bind fun t438 => (if t438 = true then (laws_FnExactShearPoints.j1 kj8 l0 a1 t420 t421 t427 (t428 != t421)) else (laws_FnExactShearPoints.j1 kj8 l0 a1 t420 t421 t427 true))))) else (some false))) = some r := H
     have A25 := Aside0.mk A250
     clear A250
     replace H := Option.bind_eq_some_iff.mp H
     obtain ⟨t435, A260, H⟩ := H
     replace H : (if t435 = true then ((laws_markPointS.f kj8 t424 1).bind fun bt436 => (if bt436.1 < 0 then (laws_FnExactShearPoints.j1 kj8 l0 a1 t420 t421 t427 true) else ((laws_eqPointS.f kj8 t427 t420).bind fun t438 => (if t438 = true then (laws_FnExactShearPoints.j1 kj8 l0 a1 t420 t421 t427 (t428 != t421)) else (laws_FnExactShearPoints.j1 kj8 l0 a1 t420 t421 t427 true))))) else (some false)) = some r := H
     have A26 := Aside0.mk A260
     clear A260
     by_cases c27 : t435 = true
     ·subst c27
      have H1 : ((laws_markPointS.f kj8 t424 1).bind fun bt436 => (if bt436.1 < 0 then (laws_FnExactShearPoints.j1 kj8 l0 a1 t420 t421 t427 true) else ((laws_eqPointS.f kj8 t427 t420).bind fun t438 => (if t438 = true then (laws_FnExactShearPoints.j1 kj8 l0 a1 t420 t421 t427 (t428 != t421)) else (laws_FnExactShearPoints.j1 kj8 l0 a1 t420 t421 t427 true))))) = some r := by rw [if_pos rfl] at H; exact H
      clear H
      have H := H1
      clear H1
      replace H := Option.bind_eq_some_iff.mp H
      obtain ⟨⟨t436, t437⟩, A280, H⟩ := H
      replace H : (if t436 < 0 then (laws_FnExactShearPoints.j1 kj8 l0 a1 t420 t421 t427 true) else ((laws_eqPointS.f kj8 t427 t420).bind fun t438 => (if t438 = true then (laws_FnExactShearPoints.j1 kj8 l0 a1 t420 t421 t427 (t428 != t421)) else (laws_FnExactShearPoints.j1 kj8 l0 a1 t420 t421 t427 true)))) = some r := H
      have A28 := Aside0.mk A280
      clear A280
      have HC29 := Aside0.mk H
      clear H
      go_upto_region 14 with (first | ((with_reducible refine gate_callee (f := 20) rfl ?_); refine goesL_ (some 47) rfl rfl Try.func20 (by kernel_rfl) rfl #[.slice A0 l0.length c0] rfl zM ?_; (with_reducible refine (laws_toPointS.calls kj8 _ _ l0 t432 _ ?side1 ?side2 A25.out).mono ?_); (case side1 => repeat (first | exact (Kd.C_below HR0.out HB.out) | (with_reducible refine Kd.C_alloc ?_ _) | (with_reducible refine Kd.C_drewN ?_ _) | (with_reducible refine Kd.C_drew ?_))); (case side2 => exact HC0.out); rintro e w30 ⟨v433, rfl, ho0, hb⟩; refine ⟨_, rfl, ?_⟩; have n0_ := Aside0.mk (Kd.R_elder' (zR HO_6.out) (Kd.R_base ho0) hb); have n1_ := Aside0.mk (Kd.R_elder' (zR HO_8.out) (Kd.R_base ho0) hb); have n2_ := Aside0.mk (Kd.R_elder' (zR HO_9.out) (Kd.R_base ho0) hb); have n3_ := Aside0.mk (Kd.R_lower (Kd.R_new' (Kd.R_new' (Kd.R_new' ho0 (Kd.R_lt (zR HO_6.out))) (Kd.R_lt (zR HO_8.out))) (Kd.R_lt (zR HO_9.out))) (below_size zB)); have n4_ := Aside0.mk (below_step zB hb); clear HO_6; clear HO_8; clear HO_9; clear HB; have HO_6 := n0_; have HO_8 := n1_; have HO_9 := n2_; have HO434 := n3_; have HB := n4_; clear n0_ n1_ n2_ n3_ n4_; (try clear hb); (try clear ho0); obtain ⟨Ao31, co31, eo31⟩ := Kd.R_slice HO434.out; subst eo31) | ((with_reducible refine gate_callee (f := 22) rfl ?_); refine goesL_ (some 48) rfl rfl Try.func22 (by kernel_rfl) rfl #[.slice Ao14 t424.length co14, .slice Ao31 t432.length co31] rfl zM ?_; (with_reducible refine (laws_eqPointS.calls kj8 _ _ t424 _ _ t432 true _ ?side1 ?side2 ?side3 ?side4 A26.out).mono ?_); (case side1 => repeat (first | exact (Kd.R_reads' HO_8.out).2.2 | (with_reducible refine Kd.C_alloc ?_ _) | (with_reducible refine Kd.C_drewN ?_ _) | (with_reducible refine Kd.C_drew ?_))); (case side2 => exact (Kd.R_reads' HO_8.out).2.1); (case side3 => repeat (first | exact (Kd.R_reads' HO434.out).2.2 | (with_reducible refine Kd.C_alloc ?_ _) | (with_reducible refine Kd.C_drewN ?_ _) | (with_reducible refine Kd.C_drew ?_))); (case side4 => exact (Kd.R_reads' HO434.out).2.1); rintro e w32 ⟨rfl, hb⟩; refine ⟨_, rfl, ?_⟩; replace HO_6 := Aside0.mk (Kd.R_below (zR HO_6.out) hb); replace HO_8 := Aside0.mk (Kd.R_below (zR HO_8.out) hb); replace HO_9 := Aside0.mk (Kd.R_below (zR HO_9.out) hb); replace HO434 := Aside0.mk (Kd.R_below (zR HO434.out) hb); replace HB := Aside0.mk (below_step zB hb); (try clear hb)) | ((with_reducible refine gate_callee (f := 38) rfl ?_); refine goesL_ (some 52) rfl rfl Try.func38 (by kernel_rfl) rfl #[.slice Ao14 t424.length co14, .int .i64 1] rfl zM ?_; (with_reducible refine (laws_markPointS.calls kj8 (fun k_ => some k_ = (.slice Ao14 t424.length co14 : Value).ownBlock) (.slice Ao14 t424.length co14) t424 1 t436 t437 w _ ?side1 ?side2 A28.out).mono ?_); (case side1 => repeat (first | (with_reducible first | exact HB.out | apply below_alloc | apply pw_below_drewN | apply below_drew1) | exact HB.out)); (case side2 => exact Kd.R_tight rfl HO_8.out); rintro e w33 ⟨rfl, hy0, hb, hkp⟩; refine ⟨_, rfl, ?_⟩; replace HO_6 := Aside0.mk (Kd.R_mono (ok' := fun k_ => some k_ ≠ (.slice Ao14 t424.length co14 : Value).ownBlock ∧ some k_ ≠ (v429 : Value).ownBlock ∧ some k_ ≠ (.slice Ao31 t432.length co31 : Value).ownBlock) (Kd.R_keptB (HO_6.out) hkp (fun k_ hk_ hs_ => (hk_.1.1) hs_)) (fun k_ hk_ => ⟨hk_.1.1.1, hk_.1.1.2, hk_.1.2⟩)); replace HO_8 := Aside0.mk (Kd.R_reok rfl hy0 (fun k_ e_ => HO_8.out.1 k_ e_)); replace HO_9 := Aside0.mk (Kd.R_mono (ok' := fun k_ => some k_ ≠ (v422 : Value).ownBlock ∧ some k_ ≠ (.slice Ao14 t424.length co14 : Value).ownBlock ∧ some k_ ≠ (.slice Ao31 t432.length co31 : Value).ownBlock) (Kd.R_keptB (HO_9.out) hkp (fun k_ hk_ hs_ => (hk_.1.2) hs_)) (fun k_ hk_ => ⟨hk_.1.1.1, hk_.1.1.2, hk_.1.2⟩)); replace HO434 := Aside0.mk (Kd.R_mono (ok' := fun k_ => some k_ ≠ (v422 : Value).ownBlock ∧ some k_ ≠ (.slice Ao14 t424.length co14 : Value).ownBlock ∧ some k_ ≠ (v429 : Value).ownBlock) (Kd.R_keptB (HO434.out) hkp (fun k_ hk_ hs_ => (hk_.1.2) hs_)) (fun k_ hk_ => ⟨hk_.1.1.1.2, hk_.1.1.2, hk_.1.2⟩)); replace HB := Aside0.mk (hb); (try clear hb); (try clear hkp); (try clear hy0)))
      (try simp only [Act.put, List.setIfInBounds_toArray, List.set_cons_zero, List.set_cons_succ])
      go_cut [65] (fun v65 wc => ∃ (kq : Nat) (x65_28 : Bool), v65 = .bool x65_28 ∧ Aside0 (laws_FnExactShearPoints.j1 kq l0 a1 t420 t421 t427 x65_28 = some r) ∧ Aside0 (kq ≤ kj8) ∧ Aside0 (Kd.R k36 36 wc w.heap.size (fun k_ => some k_ ≠ (v429 : Value).ownBlock) v422 t420) ∧ Aside0 (Kd.R k36 36 wc w.heap.size (fun k_ => some k_ ≠ (v422 : Value).ownBlock) v429 t427) ∧ Aside0 (Below w.heap.size w wc))
      case first =>
       have H := HC29.out
       clear HC29
       by_cases c34 : t436 < 0
       ·rw [if_pos c34] at H
        have c34b0 : decide (t436 < 0) = true := decide_eq_true c34
        clear c34
        (first | rw [c34b0] | (simp only [i64_w, i32_w]; rw [c34b0]) | skip)
        have H' := Aside0.mk H
        clear H
        go_wp2
        go_meet
        case rel => exact ⟨_, (true), zF, H', ⟨by have := HJ8.out; first | omega | exact Nat.le_refl _⟩, ⟨by (with_reducible repeat (first | apply Kd.R_alloc | apply Kd.R_drewN | apply Kd.R_drew)); exact Kd.R_mono HO_6.out (fun _ hk => hk.2.1)⟩, ⟨by (with_reducible repeat (first | apply Kd.R_alloc | apply Kd.R_drewN | apply Kd.R_drew)); exact Kd.R_mono HO_9.out (fun _ hk => hk.1)⟩, ⟨zB⟩⟩
       ·rw [if_neg c34] at H
        have c34b0 : decide (t436 < 0) = false := decide_eq_false c34
        clear c34
        (first | rw [c34b0] | (simp only [i64_w, i32_w]; rw [c34b0]) | skip)
        replace H := Option.bind_eq_some_iff.mp H
        obtain ⟨t438, A350, H⟩ := H
        replace H : (if t438 = true then (laws_FnExactShearPoints.j1 kj8 l0 a1 t420 t421 t427 (t428 != t421)) else (laws_FnExactShearPoints.j1 kj8 l0 a1 t420 t421 t427 true)) = some r := H
        have A35 := Aside0.mk A350
        clear A350
        by_cases c36 : t438 = true
        ·subst c36
         have H1 : (laws_FnExactShearPoints.j1 kj8 l0 a1 t420 t421 t427 (t428 != t421)) = some r := by rw [if_pos rfl] at H; exact H
         clear H
         have H := H1
         clear H1
         have H' := Aside0.mk H
         clear H
         obtain ⟨Ao37, co37, eo37⟩ := Kd.R_slice HO_9.out
         subst eo37
         obtain ⟨Ao38, co38, eo38⟩ := Kd.R_slice HO_6.out
         subst eo38
         go_wp2_with (first | (go_at_call 22; (with_reducible refine (laws_eqPointS.calls kj8 _ _ t427 _ _ t420 true _ ?side1 ?side2 ?side3 ?side4 A35.out).mono ?_); (case side1 => repeat (first | exact (Kd.R_reads' HO_9.out).2.2 | (with_reducible refine Kd.C_alloc ?_ _) | (with_reducible refine Kd.C_drewN ?_ _) | (with_reducible refine Kd.C_drew ?_))); (case side2 => exact (Kd.R_reads' HO_9.out).2.1); (case side3 => repeat (first | exact (Kd.R_reads' HO_6.out).2.2 | (with_reducible refine Kd.C_alloc ?_ _) | (with_reducible refine Kd.C_drewN ?_ _) | (with_reducible refine Kd.C_drew ?_))); (case side4 => exact (Kd.R_reads' HO_6.out).2.1); rintro e w39 ⟨rfl, hb⟩; replace HO_6 := Aside0.mk (Kd.R_below (zR HO_6.out) hb); replace HO_8 := Aside0.mk (Kd.R_below (zR HO_8.out) hb); replace HO_9 := Aside0.mk (Kd.R_below (zR HO_9.out) hb); replace HO434 := Aside0.mk (Kd.R_below (zR HO434.out) hb); replace HB := Aside0.mk (below_step zB hb); (try clear hb); (try clear hb2); (try clear hk); (try clear hi)))
         go_meet
         case rel => exact ⟨_, ((t428 != t421)), zF, H', ⟨by have := HJ8.out; first | omega | exact Nat.le_refl _⟩, ⟨by (with_reducible repeat (first | apply Kd.R_alloc | apply Kd.R_drewN | apply Kd.R_drew)); exact Kd.R_mono HO_6.out (fun _ hk => hk.2.1)⟩, ⟨by (with_reducible repeat (first | apply Kd.R_alloc | apply Kd.R_drewN | apply Kd.R_drew)); exact Kd.R_mono HO_9.out (fun _ hk => hk.1)⟩, ⟨zB⟩⟩
        ·replace c36 := Bool.eq_false_iff.mpr c36
         subst c36
         have H1 : (laws_FnExactShearPoints.j1 kj8 l0 a1 t420 t421 t427 true) = some r := by rw [if_neg (show ¬ (false = true) by decide)] at H; exact H
         clear H
         have H := H1
         clear H1
         have H' := Aside0.mk H
         clear H
         obtain ⟨Ao40, co40, eo40⟩ := Kd.R_slice HO_9.out
         subst eo40
         obtain ⟨Ao41, co41, eo41⟩ := Kd.R_slice HO_6.out
         subst eo41
         go_wp2_with (first | (go_at_call 22; (with_reducible refine (laws_eqPointS.calls kj8 _ _ t427 _ _ t420 false _ ?side1 ?side2 ?side3 ?side4 A35.out).mono ?_); (case side1 => repeat (first | exact (Kd.R_reads' HO_9.out).2.2 | (with_reducible refine Kd.C_alloc ?_ _) | (with_reducible refine Kd.C_drewN ?_ _) | (with_reducible refine Kd.C_drew ?_))); (case side2 => exact (Kd.R_reads' HO_9.out).2.1); (case side3 => repeat (first | exact (Kd.R_reads' HO_6.out).2.2 | (with_reducible refine Kd.C_alloc ?_ _) | (with_reducible refine Kd.C_drewN ?_ _) | (with_reducible refine Kd.C_drew ?_))); (case side4 => exact (Kd.R_reads' HO_6.out).2.1); rintro e w42 ⟨rfl, hb⟩; replace HO_6 := Aside0.mk (Kd.R_below (zR HO_6.out) hb); replace HO_8 := Aside0.mk (Kd.R_below (zR HO_8.out) hb); replace HO_9 := Aside0.mk (Kd.R_below (zR HO_9.out) hb); replace HO434 := Aside0.mk (Kd.R_below (zR HO434.out) hb); replace HB := Aside0.mk (below_step zB hb); (try clear hb); (try clear hb2); (try clear hk); (try clear hi)))
         go_meet
         case rel => exact ⟨_, (true), zF, H', ⟨by have := HJ8.out; first | omega | exact Nat.le_refl _⟩, ⟨by (with_reducible repeat (first | apply Kd.R_alloc | apply Kd.R_drewN | apply Kd.R_drew)); exact Kd.R_mono HO_6.out (fun _ hk => hk.2.1)⟩, ⟨by (with_reducible repeat (first | apply Kd.R_alloc | apply Kd.R_drewN | apply Kd.R_drew)); exact Kd.R_mono HO_9.out (fun _ hk => hk.1)⟩, ⟨zB⟩⟩
      case rest =>
       clear HC29
       try clear c1
       try clear c2
       try clear p2
       try clear c3
       try clear c4
       try clear c4b0
       try clear c10
       try clear c17
       try clear c18
       try clear c20
       try clear c22
       try clear c24
       try clear c27
       try clear c34
       try clear c34b0
       try clear c36
       try clear c37
       try clear c38
       try clear p2
       obtain ⟨kq, x65_28, rfl, HA, HJ28, HO_6, HO_9, HB⟩ := hcut
       cases kq with
       | zero => exact absurd HA.out (by simp [laws_FnExactShearPoints.j1])
       | succ kj28 =>
        have H := HA.out
        clear HA
        simp only [laws_FnExactShearPoints.j1] at H
        by_cases c43 : x65_28 = true
        ·subst c43
         have H1 : (some false) = some r := by rw [if_pos rfl] at H; exact H
         clear H
         have H := H1
         clear H1
         obtain rfl := Option.some.inj H
         cases hr_
        ·replace c43 := Bool.eq_false_iff.mpr c43
         subst c43
         have H1 : ((laws_markPointS.f kj28 t427 1).bind fun bt439 => ((laws_heldPointS.f kj28 bt439.2 1).bind fun t441 => (if t441 < 0 then (some false) else (if t441 = bt439.1 then ((laws_toPointS.f kj28 l0).bind fun t442 => ((impl_ShearPoints.f kj28 t442 a1).bind fun bt445 => ((laws_eqPointS.f kj28 bt445.1 t420).bind fun t449 => (if t449 = true then (laws_FnExactShearPoints.j2 kj28 bt439.2 bt439.1 (bt445.2 != t421)) else (laws_FnExactShearPoints.j2 kj28 bt439.2 bt439.1 true))))) else (some false))))) = some r := by rw [if_neg (show ¬ (false = true) by decide)] at H; exact H
         clear H
         have H := H1
         clear H1
         replace H := Option.bind_eq_some_iff.mp H
         obtain ⟨⟨t439, t440⟩, A440, H⟩ := H
         replace H : ((laws_heldPointS.f kj28 t440 1).bind fun t441 => (if t441 < 0 then (some false) else (if t441 = t439 then ((laws_toPointS.f kj28 l0).bind fun t442 => ((impl_ShearPoints.f kj28 t442 a1).bind fun bt445 => ((laws_eqPointS.f kj28 bt445.1 t420).bind fun t449 => (if t449 = true then (laws_FnExactShearPoints.j2 kj28 t440 t439 (bt445.2 != t421)) else (laws_FnExactShearPoints.j2 kj28 t440 t439 true))))) else (some false)))) = some r := H
         have A44 := Aside0.mk A440
         clear A440
         replace H := Option.bind_eq_some_iff.mp H
         obtain ⟨t441, A450, H⟩ := H
         replace H : (if t441 < 0 then (some false) else (if t441 = t439 then ((laws_toPointS.f kj28 l0).bind fun t442 => ((impl_ShearPoints.f kj28 t442 a1).bind fun bt445 => ((laws_eqPointS.f kj28 bt445.1 t420).bind fun t449 => (if t449 = true then (laws_FnExactShearPoints.j2 kj28 t440 t439 (bt445.2 != t421)) else (laws_FnExactShearPoints.j2 kj28 t440 t439 true))))) else (some false))) = some r := H
         have A45 := Aside0.mk A450
         clear A450
         by_cases c46 : t441 < 0
         ·rw [if_pos c46] at H
          have c46b0 : decide (t441 < 0) = true := decide_eq_true c46
          clear c46
          obtain rfl := Option.some.inj H
          cases hr_
         ·rw [if_neg c46] at H
          have c46b0 : decide (t441 < 0) = false := decide_eq_false c46
          clear c46
          by_cases c49 : t441 = t439
          ·rw [if_pos c49] at H
           have c49b0 : (t441 == t439) = true := beq_iff_eq.mpr c49
           have c49b1 : (t441 != t439) = false := bne_eq_false_iff_eq.mpr c49
           clear c49
           replace H := Option.bind_eq_some_iff.mp H
           obtain ⟨t442, A500, H⟩ := H
           replace H : ((impl_ShearPoints.f kj28 t442 a1).bind fun bt445 => ((laws_eqPointS.f kj28 bt445.1 t420).bind fun t449 => (if t449 = true then (laws_FnExactShearPoints.j2 kj28 t440 t439 (bt445.2 != t421)) else (laws_FnExactShearPoints.j2 kj28 t440 t439 true)))) = some r := H
           have A50 := Aside0.mk A500
           clear A500
           replace H := Option.bind_eq_some_iff.mp H
           obtain ⟨⟨t445, t446⟩, A510, H⟩ := H
           replace H : ((laws_eqPointS.f kj28 t445 t420).bind fun t449 => (if t449 = true then (laws_FnExactShearPoints.j2 kj28 t440 t439 (t446 != t421)) else (laws_FnExactShearPoints.j2 kj28 t440 t439 true))) = some r := H
           have A51 := Aside0.mk A510
           clear A510
           have HC52 := Aside0.mk H
           clear H
           obtain ⟨Ao53, co53, eo53⟩ := Kd.R_slice HO_9.out
           subst eo53
           go_upto_region 25 with (first | ((with_reducible refine gate_callee (f := 38) rfl ?_); refine goesL_ (some 68) rfl rfl Try.func38 (by kernel_rfl) rfl #[.slice Ao53 t427.length co53, .int .i64 1] rfl zM ?_; (with_reducible refine (laws_markPointS.calls kj28 (fun k_ => some k_ = (.slice Ao53 t427.length co53 : Value).ownBlock) (.slice Ao53 t427.length co53) t427 1 t439 t440 w _ ?side1 ?side2 A44.out).mono ?_); (case side1 => repeat (first | (with_reducible first | exact HB.out | apply below_alloc | apply pw_below_drewN | apply below_drew1) | exact HB.out)); (case side2 => exact Kd.R_tight rfl HO_9.out); rintro e w54 ⟨rfl, hy0, hb, hkp⟩; refine ⟨_, rfl, ?_⟩; replace HO_6 := Aside0.mk (Kd.R_mono (ok' := fun k_ => some k_ ≠ (.slice Ao53 t427.length co53 : Value).ownBlock) (Kd.R_keptB (HO_6.out) hkp (fun k_ hk_ hs_ => (hk_) hs_)) (fun k_ hk_ => hk_.1)); replace HO_9 := Aside0.mk (Kd.R_reok rfl hy0 (fun k_ e_ => HO_9.out.1 k_ e_)); replace HB := Aside0.mk (hb); (try clear hb); (try clear hkp); (try clear hy0)) | ((with_reducible refine gate_callee (f := 39) rfl ?_); refine goesL_ (some 71) rfl rfl Try.func39 (by kernel_rfl) rfl #[.slice Ao53 t440.length co53, .int .i64 1] rfl (by (try simp only [List.map_toArray, List.map_cons, List.map_nil]); first | done | (rw [show t440.length = t427.length from (Kd.R_reads' HO_9.out).1.symm] <;> rfl) | rfl | (simp only [List.length_drop, List.length_take]; rfl)) ?_; (with_reducible refine (laws_heldPointS.calls kj28 _ _ t440 1 t441 _ ?side1 ?side2 A45.out).mono ?_); (case side1 => repeat (first | exact (Kd.R_reads' HO_9.out).2.2 | (with_reducible refine Kd.C_alloc ?_ _) | (with_reducible refine Kd.C_drewN ?_ _) | (with_reducible refine Kd.C_drew ?_))); (case side2 => rw [show t440.length = t427.length from (Kd.R_reads' HO_9.out).1.symm]; exact (Kd.R_reads' HO_9.out).2.1); rintro e w' ⟨rfl, ⟨nd, rfl⟩⟩; refine ⟨_, rfl, ?_⟩) | ((with_reducible refine gate_callee (f := 20) rfl ?_); refine goesL_ (some 79) rfl rfl Try.func20 (by kernel_rfl) rfl #[.slice A0 l0.length c0] rfl zM ?_; (with_reducible refine (laws_toPointS.calls kj28 _ _ l0 t442 _ ?side1 ?side2 A50.out).mono ?_); (case side1 => repeat (first | exact (Kd.C_below HR0.out zB) | (with_reducible refine Kd.C_alloc ?_ _) | (with_reducible refine Kd.C_drewN ?_ _) | (with_reducible refine Kd.C_drew ?_))); (case side2 => exact HC0.out); rintro e w55 ⟨v443, rfl, ho0, hb⟩; refine ⟨_, rfl, ?_⟩; have n0_ := Aside0.mk (Kd.R_elder' (zR HO_6.out) (Kd.R_base ho0) hb); have n1_ := Aside0.mk (Kd.R_elder' (zR HO_9.out) (Kd.R_base ho0) hb); have n2_ := Aside0.mk (Kd.R_lower (Kd.R_new' (Kd.R_new' ho0 (Kd.R_lt (zR HO_6.out))) (Kd.R_lt (zR HO_9.out))) (below_size zB)); have n3_ := Aside0.mk (below_step zB hb); clear HO_6; clear HO_9; clear HB; have HO_6 := n0_; have HO_9 := n1_; have HO444 := n2_; have HB := n3_; clear n0_ n1_ n2_ n3_; (try clear hb); (try clear ho0); obtain ⟨Ao56, co56, eo56⟩ := Kd.R_slice HO444.out; subst eo56) | ((with_reducible refine gate_callee (f := 37) rfl ?_); refine goesL_ (some 81) rfl rfl Try.func37 (by kernel_rfl) rfl #[.slice Ao56 t442.length co56, .int .i64 a1] rfl zM ?_; (with_reducible refine (impl_ShearPoints.calls kj28 _ _ t442 a1 t445 t446 _ ?side1 ?side2 A51.out).mono ?_); (case side1 => repeat (first | exact (Kd.R_reads' HO444.out).2.2 | (with_reducible refine Kd.C_alloc ?_ _) | (with_reducible refine Kd.C_drewN ?_ _) | (with_reducible refine Kd.C_drew ?_))); (case side2 => exact (Kd.R_reads' HO444.out).2.1); rintro e w57 ⟨v447, rfl, ho0, hb⟩; refine ⟨_, rfl, ?_⟩; have n0_ := Aside0.mk (Kd.R_elder' (zR HO_6.out) (Kd.R_base ho0) hb); have n1_ := Aside0.mk (Kd.R_elder' (zR HO_9.out) (Kd.R_base ho0) hb); have n2_ := Aside0.mk (Kd.R_elder' (zR HO444.out) (Kd.R_base ho0) hb); have n3_ := Aside0.mk (Kd.R_lower (Kd.R_new' (Kd.R_new' (Kd.R_new' ho0 (Kd.R_lt (zR HO_6.out))) (Kd.R_lt (zR HO_9.out))) (Kd.R_lt (zR HO444.out))) (below_size zB)); have n4_ := Aside0.mk (below_step zB hb); clear HO_6; clear HO_9; clear HO444; clear HB; have HO_6 := n0_; have HO_9 := n1_; have HO444 := n2_; have HO448 := n3_; have HB := n4_; clear n0_ n1_ n2_ n3_ n4_; (try clear hb); (try clear ho0)))
           (try simp only [Act.put, List.setIfInBounds_toArray, List.set_cons_zero, List.set_cons_succ])
           go_cut [92] (fun v92 wc => ∃ (kq : Nat) (x92_51 : Bool), v92 = .bool x92_51 ∧ Aside0 (laws_FnExactShearPoints.j2 kq t440 t439 x92_51 = some r) ∧ Aside0 (kq ≤ kj28) ∧ Aside0 (Kd.R k36 36 wc w.heap.size (fun _ => True) (.slice Ao53 t427.length co53) t440) ∧ Aside0 (Below w.heap.size w wc))
           case first =>
            have H := HC52.out
            clear HC52
            replace H := Option.bind_eq_some_iff.mp H
            obtain ⟨t449, A580, H⟩ := H
            replace H : (if t449 = true then (laws_FnExactShearPoints.j2 kj28 t440 t439 (t446 != t421)) else (laws_FnExactShearPoints.j2 kj28 t440 t439 true)) = some r := H
            have A58 := Aside0.mk A580
            clear A580
            by_cases c59 : t449 = true
            ·subst c59
             have H1 : (laws_FnExactShearPoints.j2 kj28 t440 t439 (t446 != t421)) = some r := by rw [if_pos rfl] at H; exact H
             clear H
             have H := H1
             clear H1
             have H' := Aside0.mk H
             clear H
             obtain ⟨Ao60, co60, eo60⟩ := Kd.R_slice HO448.out
             subst eo60
             obtain ⟨Ao61, co61, eo61⟩ := Kd.R_slice HO_6.out
             subst eo61
             go_wp2_with (first | ((with_reducible refine gate_callee (f := 22) rfl ?_); refine goesL_ (some 86) rfl rfl Try.func22 (by kernel_rfl) rfl #[.slice Ao60 t445.length co60, .slice Ao61 t420.length co61] rfl zM ?_; (with_reducible refine (laws_eqPointS.calls kj28 _ _ t445 _ _ t420 true _ ?side1 ?side2 ?side3 ?side4 A58.out).mono ?_); (case side1 => repeat (first | exact (Kd.R_reads' HO448.out).2.2 | (with_reducible refine Kd.C_alloc ?_ _) | (with_reducible refine Kd.C_drewN ?_ _) | (with_reducible refine Kd.C_drew ?_))); (case side2 => exact (Kd.R_reads' HO448.out).2.1); (case side3 => repeat (first | exact (Kd.R_reads' HO_6.out).2.2 | (with_reducible refine Kd.C_alloc ?_ _) | (with_reducible refine Kd.C_drewN ?_ _) | (with_reducible refine Kd.C_drew ?_))); (case side4 => exact (Kd.R_reads' HO_6.out).2.1); rintro e w62 ⟨rfl, hb⟩; refine ⟨_, rfl, ?_⟩; replace HO_6 := Aside0.mk (Kd.R_below (zR HO_6.out) hb); replace HO_9 := Aside0.mk (Kd.R_below (zR HO_9.out) hb); replace HO444 := Aside0.mk (Kd.R_below (zR HO444.out) hb); replace HO448 := Aside0.mk (Kd.R_below (zR HO448.out) hb); replace HB := Aside0.mk (below_step zB hb); (try clear hb)))
             go_meet
             case rel => exact ⟨_, ((t446 != t421)), zF, H', ⟨by have := HJ8.out; have := HJ28.out; first | omega | exact Nat.le_refl _⟩, ⟨by (with_reducible repeat (first | apply Kd.R_alloc | apply Kd.R_drewN | apply Kd.R_drew)); exact Kd.R_mono HO_9.out (fun _ hk => trivial)⟩, ⟨zB⟩⟩
            ·replace c59 := Bool.eq_false_iff.mpr c59
             subst c59
             have H1 : (laws_FnExactShearPoints.j2 kj28 t440 t439 true) = some r := by rw [if_neg (show ¬ (false = true) by decide)] at H; exact H
             clear H
             have H := H1
             clear H1
             have H' := Aside0.mk H
             clear H
             obtain ⟨Ao63, co63, eo63⟩ := Kd.R_slice HO448.out
             subst eo63
             obtain ⟨Ao64, co64, eo64⟩ := Kd.R_slice HO_6.out
             subst eo64
             go_wp2_with (first | ((with_reducible refine gate_callee (f := 22) rfl ?_); refine goesL_ (some 86) rfl rfl Try.func22 (by kernel_rfl) rfl #[.slice Ao63 t445.length co63, .slice Ao64 t420.length co64] rfl zM ?_; (with_reducible refine (laws_eqPointS.calls kj28 _ _ t445 _ _ t420 false _ ?side1 ?side2 ?side3 ?side4 A58.out).mono ?_); (case side1 => repeat (first | exact (Kd.R_reads' HO448.out).2.2 | (with_reducible refine Kd.C_alloc ?_ _) | (with_reducible refine Kd.C_drewN ?_ _) | (with_reducible refine Kd.C_drew ?_))); (case side2 => exact (Kd.R_reads' HO448.out).2.1); (case side3 => repeat (first | exact (Kd.R_reads' HO_6.out).2.2 | (with_reducible refine Kd.C_alloc ?_ _) | (with_reducible refine Kd.C_drewN ?_ _) | (with_reducible refine Kd.C_drew ?_))); (case side4 => exact (Kd.R_reads' HO_6.out).2.1); rintro e w65 ⟨rfl, hb⟩; refine ⟨_, rfl, ?_⟩; replace HO_6 := Aside0.mk (Kd.R_below (zR HO_6.out) hb); replace HO_9 := Aside0.mk (Kd.R_below (zR HO_9.out) hb); replace HO444 := Aside0.mk (Kd.R_below (zR HO444.out) hb); replace HO448 := Aside0.mk (Kd.R_below (zR HO448.out) hb); replace HB := Aside0.mk (below_step zB hb); (try clear hb)))
             go_meet
             case rel => exact ⟨_, (true), zF, H', ⟨by have := HJ8.out; have := HJ28.out; first | omega | exact Nat.le_refl _⟩, ⟨by (with_reducible repeat (first | apply Kd.R_alloc | apply Kd.R_drewN | apply Kd.R_drew)); exact Kd.R_mono HO_9.out (fun _ hk => trivial)⟩, ⟨zB⟩⟩
           case rest =>
            clear HC52
            try clear c1
            try clear c2
            try clear p2
            try clear c3
            try clear c4
            try clear c4b0
            try clear c5
            try clear c10
            try clear c17
            try clear c18
            try clear c20
            try clear c22
            try clear c24
            try clear c27
            try clear c34
            try clear c34b0
            try clear c36
            try clear c37
            try clear c38
            try clear c39
            try clear c43
            try clear c46
            try clear c46b0
            try clear c49
            try clear c49b0
            try clear c49b1
            try clear c59
            try clear p2
            obtain ⟨kq, x92_51, rfl, HA, HJ51, HO_9, HB⟩ := hcut
            have hl9_51 := (Kd.R_reads' HO_9.out).1
            rw [hl9_51] at HO_9
            (try simp only [hl9_51])
            cases kq with
            | zero => exact absurd HA.out (by simp [laws_FnExactShearPoints.j2])
            | succ kj51 =>
             have H := HA.out
             clear HA
             simp only [laws_FnExactShearPoints.j2] at H
             by_cases c66 : x92_51 = true
             ·subst c66
              have H1 : (some false) = some r := by rw [if_pos rfl] at H; exact H
              clear H
              have H := H1
              clear H1
              obtain rfl := Option.some.inj H
              cases hr_
             ·replace c66 := Bool.eq_false_iff.mpr c66
              subst c66
              have H1 : ((laws_heldPointS.f kj51 t440 1).bind fun t450 => (if t450 < 0 then (some false) else (if t450 = t439 then (some true) else (some false)))) = some r := by rw [if_neg (show ¬ (false = true) by decide)] at H; exact H
              clear H
              have H := H1
              clear H1
              replace H := Option.bind_eq_some_iff.mp H
              obtain ⟨t450, A670, H⟩ := H
              replace H : (if t450 < 0 then (some false) else (if t450 = t439 then (some true) else (some false))) = some r := H
              have A67 := Aside0.mk A670
              clear A670
              by_cases c68 : t450 < 0
              ·rw [if_pos c68] at H
               have c68b0 : decide (t450 < 0) = true := decide_eq_true c68
               clear c68
               obtain rfl := Option.some.inj H
               cases hr_
              ·rw [if_neg c68] at H
               have c68b0 : decide (t450 < 0) = false := decide_eq_false c68
               clear c68
               by_cases c69 : t450 = t439
               ·rw [if_pos c69] at H
                have c69b0 : (t450 == t439) = true := beq_iff_eq.mpr c69
                have c69b1 : (t450 != t439) = false := bne_eq_false_iff_eq.mpr c69
                clear c69
                obtain rfl := Option.some.inj H
                go_wp2_with (first | ((with_reducible refine gate_callee (f := 39) rfl ?_); refine goesL_ (some 95) rfl rfl Try.func39 (by kernel_rfl) rfl #[.slice Ao53 t440.length co53, .int .i64 1] rfl zM ?_; (with_reducible refine (laws_heldPointS.calls kj51 _ _ t440 1 t450 _ ?side1 ?side2 A67.out).mono ?_); (case side1 => repeat (first | exact (Kd.R_reads' HO_9.out).2.2 | (with_reducible refine Kd.C_alloc ?_ _) | (with_reducible refine Kd.C_drewN ?_ _) | (with_reducible refine Kd.C_drew ?_))); (case side2 => exact (Kd.R_reads' HO_9.out).2.1); rintro e w' ⟨rfl, ⟨nd, rfl⟩⟩; refine ⟨_, rfl, ?_⟩))
                go_ret
                exact ⟨zE, zB⟩
               ·rw [if_neg c69] at H
                have c69b0 : (t450 == t439) = false := beq_eq_false_iff_ne.mpr c69
                have c69b1 : (t450 != t439) = true := bne_iff_ne.mpr c69
                obtain rfl := Option.some.inj H
                cases hr_
          ·rw [if_neg c49] at H
           have c49b0 : (t441 == t439) = false := beq_eq_false_iff_ne.mpr c49
           have c49b1 : (t441 != t439) = true := bne_iff_ne.mpr c49
           obtain rfl := Option.some.inj H
           cases hr_
     ·replace c27 := Bool.eq_false_iff.mpr c27
      subst c27
      have H1 : (some false) = some r := by rw [if_neg (show ¬ (false = true) by decide)] at H; exact H
      clear H
      have H := H1
      clear H1
      obtain rfl := Option.some.inj H
      cases hr_
end Go.Proofs.Ytikomhkkodhliaa.PX
namespace Go.Proofs.Ytikomhkkodhliaa.M
open Go.RowKit Go.Proofs.YtikomhkkodhliaaW.PrintWords Go.Proofs.Ytikomhkkodhliaa.PX Go.Proofs.Ytikomhkkodhliaa.G
def marksP (n : Nat) : List IP := (List.range n).map fun (i : Nat) => (⟨((2 * i + 1 : Nat) : Int), ((2 * i + 2 : Nat) : Int)⟩ : IP)
theorem marksP_length (n : Nat) : (marksP n).length = n := by simp [marksP]
theorem marksP_succ (n : Nat) : marksP (n + 1) = marksP n ++ [(⟨((2 * n + 1 : Nat) : Int), ((2 * n + 2 : Nat) : Int)⟩ : IP)] := by simp [marksP, List.range_succ]
theorem set_mid {α : Type} (p : List α) (y v : α) (s : List α) : (p ++ y :: s).set p.length v = p ++ v :: s := by
  rw [List.set_append_right _ _ (Nat.le_refl _), Nat.sub_self, List.set_cons_zero]
theorem rd_mid (p : List IP) (y : IP) (s : List IP) : rd_T36 (p ++ y :: s) (p.length : Int) = y := by
  rw [rdIP (by rw [List.length_append, List.length_cons]; omega), List.getElem_append_right (Nat.le_refl _)]
  simp
theorem markP_loop (d : Nat) : ∀ (i : Nat) (suf : List IP), suf.length = d → i + d ≤ 10000000 → Ev (fun k => laws_markPointS.l0 k (marksP i ++ suf) ((2 * i + 1 : Nat) : Int) (i : Int)) (((2 * (i + d) + 1 : Nat) : Int), marksP (i + d)) := by
  induction d with
  | zero =>
    intro i suf hs hb
    obtain rfl : suf = [] := List.eq_nil_of_length_eq_zero hs
    refine ev_step ?_
    simp only [laws_markPointS.l0, List.length_append, marksP_length, List.length_nil]
    refine ev_neg (by omega) (ev_cast (Ev.now _) ?_)
    rw [List.append_nil]
    rfl
  | succ d ih =>
    intro i suf hs hb
    cases suf with
    | nil => cases hs
    | cons y ys =>
      rw [List.length_cons] at hs
      refine ev_step ?_
      simp only [laws_markPointS.l0, List.length_append, marksP_length, List.length_cons]
      refine ev_pos (by omega) (ev_pos (by omega) (ev_call rfl ?_))
      have hi : (i : Int).toNat = (marksP i).length := by rw [marksP_length]; rfl
      have hi' : (i : Int) = ((marksP i).length : Int) := by rw [marksP_length]
      rw [hi, set_mid, show rd_T36 (marksP i ++ (⟨((2 * i + 1 : Nat) : Int), (rd_T36 (marksP i ++ y :: ys) (i : Int)).f1⟩ : IP) :: ys) (i : Int) = (⟨((2 * i + 1 : Nat) : Int), (rd_T36 (marksP i ++ y :: ys) (i : Int)).f1⟩ : IP) from by
        have := rd_mid (marksP i) (⟨((2 * i + 1 : Nat) : Int), (rd_T36 (marksP i ++ y :: ys) (i : Int)).f1⟩ : IP) ys
        rw [← hi'] at this
        exact this, set_mid]
      rw [wrap_id (x := ((2 * i + 1 : Nat) : Int) + 1) (by omega) (by omega), wrap_id (x := ((2 * i + 1 : Nat) : Int) + 1 + 1) (by omega) (by omega), wrap_id (x := (i : Int) + 1) (by omega) (by omega)]
      have e : marksP i ++ (⟨((2 * i + 1 : Nat) : Int), ((2 * i + 1 : Nat) : Int) + 1⟩ : IP) :: ys = marksP (i + 1) ++ ys := by
        rw [marksP_succ, List.append_assoc]
        rfl
      rw [show i + (d + 1) = (i + 1) + d by omega, show ((2 * i + 1 : Nat) : Int) + 1 + 1 = ((2 * (i + 1) + 1 : Nat) : Int) by omega]
      have := ih (i + 1) ys (by omega) (by omega)
      rw [← e] at this
      exact this
theorem markP_ev (l : List IP) (hl : l.length ≤ 10000000) : Ev (fun k => laws_markPointS.f k l 1) (((2 * l.length + 1 : Nat) : Int), marksP l.length) := by
  unfold laws_markPointS.f
  have := markP_loop l.length 0 l rfl (by omega)
  exact ev_cast this (by rw [Nat.zero_add])
theorem heldP_loop (n : Nat) (hn : n ≤ 10000000) (d : Nat) : ∀ i : Nat, i + d = n → Ev (fun k => laws_heldPointS.l0 k (marksP n) ((2 * i + 1 : Nat) : Int) (i : Int)) ((2 * n + 1 : Nat) : Int) := by
  induction d with
  | zero =>
    intro i hi
    refine ev_step ?_
    simp only [laws_heldPointS.l0, marksP_length]
    refine ev_neg (by omega) (ev_cast (Ev.now _) ?_)
    omega
  | succ d ih =>
    intro i hi
    have e : rd_T36 (marksP n) (i : Int) = (⟨((2 * i + 1 : Nat) : Int), ((2 * i + 2 : Nat) : Int)⟩ : IP) := by
      rw [rdIP (by rw [marksP_length]; omega)]
      simp [marksP]
    refine ev_step ?_
    simp only [laws_heldPointS.l0, marksP_length, e]
    refine ev_pos (by omega) (ev_pos (by omega) (ev_pos (by first | rfl | trivial) ?_))
    rw [wrap_id (x := ((2 * i + 1 : Nat) : Int) + 1) (by omega) (by omega), wrap_id (x := ((2 * i + 1 : Nat) : Int) + 1 + 1) (by omega) (by omega), wrap_id (x := (i : Int) + 1) (by omega) (by omega)]
    refine ev_pos (by omega) ?_
    rw [show ((2 * i + 1 : Nat) : Int) + 1 + 1 = ((2 * (i + 1) + 1 : Nat) : Int) by omega]
    exact ih (i + 1) (by omega)
theorem heldP_ev (n : Nat) (hn : n ≤ 10000000) : Ev (fun k => laws_heldPointS.f k (marksP n) 1) ((2 * n + 1 : Nat) : Int) := by
  unfold laws_heldPointS.f
  exact heldP_loop n hn n 0 (by omega)
end Go.Proofs.Ytikomhkkodhliaa.M
namespace Go.Proofs.Ytikomhkkodhliaa.M
open Go.RowKit Go.Proofs.YtikomhkkodhliaaW.PrintWords Go.Proofs.Ytikomhkkodhliaa.PX Go.Proofs.Ytikomhkkodhliaa.G
def shearP (k : Int) (p : IP) : IP := ⟨p.f0, p.f1 + k * p.f0⟩
theorem shear_ok {k : Int} {p : IP} (hp : nearP 50 p = true) (hk : -100 ≤ k ∧ k ≤ 100) : wrap64 (p.f1 + wrap64 (k * p.f0)) = p.f1 + k * p.f0 := by
  obtain ⟨⟨h1, h2⟩, h3, h4⟩ := nearP_iff.1 hp
  have m := mul_bd (x := k) (y := p.f0) (by omega) (by omega) (by omega) (by omega)
  rw [wrap_id (x := k * p.f0) (by omega) (by omega)]
  exact wrap_id (by omega) (by omega)
/-- What ShearPoints answers. -/
def shearV (l : List IP) (k : Int) : List IP × Bool := if arePts l = true ∧ (-100 ≤ k ∧ k ≤ 100) ∧ (l.map (shearP k)).all (nearP 50) = true then (l.map (shearP k), true) else ([], false)
theorem shearV_len (l : List IP) (k : Int) : (shearV l k).1.length ≤ l.length := by
  unfold shearV
  split <;> simp
theorem impl_shear (l : List IP) (k : Int) (hk : -9223372036854775808 ≤ k ∧ k ≤ 9223372036854775807) (hl : l.length ≤ 10000000) : Ev (fun q => impl_ShearPoints.f q l k) (shearV l k) := by
  unfold impl_ShearPoints.f
  have no : ¬ (arePts l = true ∧ (-100 ≤ k ∧ k ≤ 100) ∧ (l.map (shearP k)).all (nearP 50) = true) → Ev (fun q => impl_ShearPoints.j0 q l k true) (shearV l k) := fun h => by
    refine ev_step ?_
    simp only [impl_ShearPoints.j0]
    refine ev_pos (by trivial) (ev_cast (Ev.now _) ?_)
    unfold shearV
    rw [if_neg h]
  refine Ev.bind (impl_arePts l hl) ?_
  by_cases ha : arePts l = true
  · have far : impl_isFar.f k 100 = some (!(decide (-100 ≤ k) && decide (k ≤ 100))) := by
      unfold impl_isFar.f
      rw [wrap_id (by omega) (by omega)]
      by_cases h : k < -100
      · rw [if_pos h, decide_eq_false (by omega)]; rfl
      · rw [if_neg h, decide_eq_true (show -100 ≤ k by omega)]
        by_cases h' : k > 100
        · rw [decide_eq_true h', decide_eq_false (by omega)]; rfl
        · rw [decide_eq_false h', decide_eq_true (by omega)]; rfl
    refine ev_pos ha (ev_call far ?_)
    by_cases hk' : -100 ≤ k ∧ k ≤ 100
    · rw [show (decide (-100 ≤ k) && decide (k ≤ 100)) = true by simp; omega]
      refine ev_step ?_
      simp only [impl_ShearPoints.j0]
      refine ev_neg (by decide) ?_
      have key := loop_up' (σ := List IP) (ρ := List IP × Bool) (lo := 0) (n := l.length) (K := fun x _ => (impl_areNear.f 50 x).bind fun t => if t = true then some (x, true) else some ([], false)) (L := fun i x q => impl_ShearPoints.l0 q k x l (l.length : Int) i)
        (fun i x => x.length = i) (fun x i => .ok (x ++ [shearP k (pt l i)])) (fun x hx => ?_) (fun i _ hi x hx => ?_) (fun i _ hi x hx x' e => ?_) (by omega) [] rfl
      · rw [foldlM_ok, foldl_snoc, List.nil_append] at key
        have em : (List.range' 0 (l.length - 0)).map (fun i => shearP k (pt l i)) = l.map (shearP k) := by
          rw [Nat.sub_zero, ← List.range_eq_range']
          refine List.ext_getElem (by simp) fun i h1 h2 => ?_
          rw [List.length_map, List.length_range] at h1
          simp only [List.getElem_map, List.getElem_range, pt_eq h1]
        rw [em] at key
        refine key _ ?_
        refine ev_call (impl_near 50 (by decide) (by decide) _) ?_
        by_cases hf : (l.map (shearP k)).all (nearP 50) = true
        · rw [show shearV l k = _ from if_pos ⟨ha, hk', hf⟩]
          exact ev_pos hf (Ev.now _)
        · rw [show shearV l k = _ from if_neg (fun e => hf e.2.2)]
          exact ev_neg hf (Ev.now _)
      · refine Goes.step ?_
        simp only [impl_ShearPoints.l0]
        exact Goes.neg (by omega) (Goes.ok (K := fun x (_ : Nat) => (impl_areNear.f 50 x).bind fun t => if t = true then some (x, true) else some ([], false)) x)
      · refine Goes.step ?_
        simp only [impl_ShearPoints.l0]
        have hp : nearP 50 (pt l i) = true := by
          rw [pt_eq hi]
          exact (arePts_iff.1 ha).2.1 _ (List.getElem_mem hi)
        refine Goes.pos (by omega) (Goes.pos (by omega) (Goes.pos (by omega) (Goes.pos (by omega) ?_)))
        rw [wrap_id (x := (i : Int) + 1) (by omega) (by omega)]
        have es : (⟨(rd_T36 l (i : Int)).f0, wrap64 ((rd_T36 l (i : Int)).f1 + wrap64 (k * (rd_T36 l (i : Int)).f0))⟩ : IP) = shearP k (pt l i) := by
          have := shear_ok hp hk'
          unfold pt at this
          rw [this]
          rfl
        rw [es]
        exact Goes.ok (K := fun x q => impl_ShearPoints.l0 q k x l (l.length : Int) ((i + 1 : Nat) : Int)) _
      · cases e
        rw [List.length_append, hx]; rfl
    · rw [show (decide (-100 ≤ k) && decide (k ≤ 100)) = false by simp; omega]
      exact no (fun e => hk' e.2.1)
  · exact ev_neg ha (no (fun e => ha e.1))
theorem spec_shear (l : List IP) (k : Int) (hl : l.length ≤ 10000000) : Ev (fun q => spec_ShearPoints.f q l k) (shearV l k) := by
  unfold spec_ShearPoints.f
  have no : ¬ (arePts l = true ∧ (-100 ≤ k ∧ k ≤ 100) ∧ (l.map (shearP k)).all (nearP 50) = true) → Ev (fun q => spec_ShearPoints.j0 q l k true) (shearV l k) := fun h => by
    refine ev_step ?_
    simp only [spec_ShearPoints.j0]
    refine ev_pos (by trivial) (ev_cast (Ev.now _) ?_)
    unfold shearV
    rw [if_neg h]
  refine Ev.bind (spec_arePts l hl) ?_
  by_cases ha : arePts l = true
  · refine ev_pos ha (ev_call (spec_inPts _ _ _) ?_)
    by_cases hk' : -100 ≤ k ∧ k ≤ 100
    · rw [show (decide (-100 ≤ k) && decide (k ≤ 100)) = true by simp; omega]
      refine ev_step ?_
      simp only [spec_ShearPoints.j0]
      refine ev_neg (by decide) ?_
      have key := loop_up' (σ := List IP) (ρ := List IP × Bool) (lo := 0) (n := l.length) (K := fun x _ => some (x, true)) (L := fun i x q => spec_ShearPoints.l0 q l k x i)
        (fun i x => x = (l.take i).map (shearP k) ∧ x.all (nearP 50) = true) (fun x i => if nearP 50 (shearP k (pt l i)) then .ok (x ++ [shearP k (pt l i)]) else .error ([], false)) (fun x hx => ?_) (fun i _ hi x hx => ?_) (fun i _ hi x hx x' e => ?_) (by omega) [] ⟨rfl, rfl⟩
      · refine key.out (fun v hv => ?_) (fun s hs => ?_)
        · have fe : ∀ (n : Nat) x, (List.range' n (l.length - n)).foldlM (fun x i => if nearP 50 (shearP k (pt l i)) then (.ok (x ++ [shearP k (pt l i)]) : Except (List IP × Bool) (List IP)) else .error ([], false)) x = .error v → v = ([], false) ∧ ∃ i, i < l.length ∧ nearP 50 (shearP k (pt l i)) = false := by
            intro n
            generalize hd : l.length - n = d
            induction d generalizing n with
            | zero => intro x e; cases e
            | succ d ih =>
              intro x e
              rw [List.range'_succ, List.foldlM_cons] at e
              cases g : nearP 50 (shearP k (pt l n)) with
              | true => rw [g, if_pos rfl] at e; exact ih (n + 1) (by omega) _ e
              | false => rw [g, if_neg (by decide)] at e; cases e; exact ⟨rfl, n, by omega, g⟩
          obtain ⟨rfl, i, hi, hf⟩ := fe 0 [] hv
          unfold shearV
          rw [if_neg]
          rintro ⟨_, _, h⟩
          have := List.all_eq_true.1 h (shearP k l[i]) (List.mem_map.2 ⟨_, List.getElem_mem hi, rfl⟩)
          rw [pt_eq hi, this] at hf
          cases hf
        · have fo : ∀ (n : Nat) x, n ≤ l.length → (x = (l.take n).map (shearP k) ∧ x.all (nearP 50) = true) → (List.range' n (l.length - n)).foldlM (fun x i => if nearP 50 (shearP k (pt l i)) then (.ok (x ++ [shearP k (pt l i)]) : Except (List IP × Bool) (List IP)) else .error ([], false)) x = .ok s → s = l.map (shearP k) ∧ s.all (nearP 50) = true := by
            intro n
            generalize hd : l.length - n = d
            induction d generalizing n with
            | zero =>
              intro x hn hx e
              cases e
              rw [List.take_of_length_le (by omega)] at hx
              exact hx
            | succ d ih =>
              intro x hn hx e
              rw [List.range'_succ, List.foldlM_cons] at e
              cases g : nearP 50 (shearP k (pt l n)) with
              | true =>
                rw [g, if_pos rfl] at e
                refine ih (n + 1) (by omega) _ (by omega) ⟨?_, ?_⟩ e
                · rw [List.take_succ_eq_append_getElem (by omega), List.map_append, hx.1, pt_eq (by omega)]
                  rfl
                · rw [List.all_append, hx.2]
                  simp [g]
              | false => rw [g, if_neg (by decide)] at e; cases e
          obtain ⟨rfl, hf⟩ := fo 0 [] (by omega) ⟨rfl, rfl⟩ hs
          unfold shearV
          rw [if_pos ⟨ha, hk', hf⟩]
          exact Ev.now _
      · refine Goes.step ?_
        simp only [spec_ShearPoints.l0]
        exact Goes.neg (by omega) (Goes.ok (K := fun x (_ : Nat) => some (x, true)) x)
      · refine Goes.step ?_
        simp only [spec_ShearPoints.l0]
        have hp : nearP 50 (pt l i) = true := by
          rw [pt_eq hi]
          exact (arePts_iff.1 ha).2.1 _ (List.getElem_mem hi)
        have ew : wrap64 ((rd_T36 l (i : Int)).f1 + wrap64 (k * (rd_T36 l (i : Int)).f0)) = (shearP k (pt l i)).f1 := shear_ok hp hk'
        have hx' : x.length = i := by rw [hx.1, List.length_map, List.length_take]; omega
        rw [ew, wrap_id (x := (i : Int) + 1) (by omega) (by omega)]
        refine Goes.pos (by omega) (Goes.pos (by omega) (Goes.call (spec_fits (shearP k (pt l i)) 50 (by decide) (by decide)) ?_))
        cases g : nearP 50 (shearP k (pt l i)) with
        | true =>
          refine Goes.pos rfl (Goes.pos (by omega) ?_)
          rw [if_pos rfl]
          exact Goes.ok (K := fun x q => spec_ShearPoints.l0 q l k x ((i + 1 : Nat) : Int)) _
        | false =>
          rw [if_neg (by decide)]
          exact Goes.neg (by decide) (Goes.ret _)
      · cases g : nearP 50 (shearP k (pt l i)) with
        | true =>
          rw [g, if_pos rfl] at e
          cases e
          refine ⟨?_, ?_⟩
          · rw [List.take_succ_eq_append_getElem (by omega), List.map_append, hx.1, pt_eq (by omega)]
            rfl
          · rw [List.all_append, hx.2]
            simp [g]
        | false => rw [g, if_neg (by decide)] at e; cases e
    · rw [show (decide (-100 ≤ k) && decide (k ≤ 100)) = false by simp; omega]
      exact no (fun e => hk' e.2.1)
  · exact ev_neg ha (no (fun e => ha e.1))
end Go.Proofs.Ytikomhkkodhliaa.M
namespace Go.Proofs.Ytikomhkkodhliaa.Pure
open Go.RowKit Go.Proofs.YtikomhkkodhliaaW.PrintWords Go.Proofs.Ytikomhkkodhliaa.PX Go.Proofs.Ytikomhkkodhliaa.M
theorem FnExactShearPoints (l : List S34) (k : Int) (hl : l.length ≤ 9223372036854775807) (hk : (Lit.int .i64 k).wf = true) :
    ∃ q, laws_FnExactShearPoints.f q l k = some true := by
  refine Ev.rounds (r := true) ?_
  unfold laws_FnExactShearPoints.f
  obtain ⟨r, hr⟩ := szPts l 1048576
  refine ev_call hr ?_
  by_cases h : r < 0
  · exact ev_pos h (Ev.now _)
  obtain ⟨l1, _, _⟩ := szPts_le l _ _ (by omega) (by omega) hl hr h
  have pa := toPts_ev l (by omega)
  have la : (l.map toPt).length ≤ 10000000 := by rw [List.length_map]; omega
  have hk' : -9223372036854775808 ≤ k ∧ k ≤ 9223372036854775807 := bounds_i64 hk
  have lv := shearV_len (l.map toPt) k
  have hs := spec_shear (l.map toPt) k la
  have hi := impl_shear (l.map toPt) k hk' la
  generalize l.map toPt = p at pa la lv hs hi
  generalize shearV p k = V at lv hs hi
  obtain ⟨v, b⟩ := V
  simp only at lv
  refine ev_neg h (Ev.bind pa (Ev.bind hs (Ev.bind pa (Ev.bind hi (Ev.bind (eqPts_self v (by omega)) (ev_pos rfl (ev_step ?_)))))))
  simp only [laws_FnExactShearPoints.j0]
  refine ev_neg (by simp) (Ev.bind pa (Ev.bind (eqPts_self p la) (ev_pos rfl (Ev.bind (markP_ev p la) (ev_neg (by simp only; omega) (Ev.bind (eqPts_self v (by omega)) (ev_pos rfl (ev_step ?_))))))))
  simp only [laws_FnExactShearPoints.j1]
  refine ev_neg (by simp) (Ev.bind (markP_ev v (by omega)) (Ev.bind (heldP_ev v.length (by omega)) (ev_neg (by omega) (ev_pos rfl (Ev.bind pa (Ev.bind hi (Ev.bind (eqPts_self v (by omega)) (ev_pos rfl (ev_step ?_)))))))))
  simp only [laws_FnExactShearPoints.j2]
  exact ev_neg (by simp) (Ev.bind (heldP_ev v.length (by omega)) (ev_neg (by omega) (ev_pos rfl (Ev.now _))))
end Go.Proofs.Ytikomhkkodhliaa.Pure
namespace Go.Proofs.Ytikomhkkodhliaa.fnExactShearPoints
open Go.ChangeShapes Go.WideShapes Go.ChangeAt Go.RowKit Go.Joins
open Go.ChangeMaps (open_string shut_string)
set_option linter.unusedVariables false
theorem own : ownKnob Try.prog.godebug = none := by kernel_rfl
theorem str_mk {H : Type} {enc : TypeId × Value → H} {P : Program} {w : World} {base : Nat} {spare : Nat → Bool} {held : Bool} {t : TypeId} {s : ByteArray} (ht : P.underlying t = some .string) (hs : s.size ≤ maxLen) : DataW.trod enc P w base spare held 1 t [.string s] = some (.lit (.string s.data.toList), []) := by
  simp [DataW.trod, ht, hs]
open Go.Proofs.Ytikomhkkodhliaa
def numC : Option Value → Int
  | some (.int _ n) => n
  | _ => 0
theorem pts_row {w : World} {a : Addr} {len m : Nat} (hlm : len ≤ m) (hm : len ≤ 9223372036854775807) (h : ∀ i, i < m → ∃ x y : Int, w.cell? (a.add (i * 2)) = some (.int .i64 x) ∧ w.cell? (a.add (i * 2 + 1)) = some (.int .i64 y)) :
    ∃ l : List PX.S34, l.length = len ∧ Go.Proofs.YtikomhkkodhliaaW.PrintWords.Kd.C PX.k34 w (some a) len l := by
  refine ⟨(List.range len).map fun i => (⟨numC (w.cell? (a.add (i * 2))), numC (w.cell? (a.add (i * 2 + 1)))⟩ : PX.S34), by simp, by simp, hm, fun _ => ⟨a, rfl, fun j p hp => ?_⟩⟩
  rw [List.getElem?_map] at hp
  obtain ⟨i, hi, rfl⟩ := Option.map_eq_some_iff.1 hp
  obtain ⟨hjl, rfl⟩ := List.getElem?_eq_some_iff.1 hi
  rw [List.length_range] at hjl
  simp only [List.getElem_range]
  obtain ⟨x, y, g1, g2⟩ := h j (Nat.lt_of_lt_of_le hjl hlm)
  rw [g1, g2]
  refine ⟨_, rfl, PX.k34_mk w _, fun i u hu => ?_⟩
  match i with
  | 0 => cases hu; exact g1
  | 1 => cases hu; exact g2
  | (i + 2) => simp at hu
theorem laidOut : laidOutB Try.prog = true := by kernel_rfl
set_option maxRecDepth 100000 in
theorem lifted (os : Os) (started : os.Started) (H : Type) (enc : TypeId × Value → H) :
    ReturnsInHanded {} Try.checked os 10 .any (Rows.fnExactShearPointsSpec.pre6 enc Try.prog Try.f10 Rows.fnExactShearPointsRow.domain false) (Rows.fnExactShearPointsSpec.post enc Try.prog Try.f10 false true false false) := by
  refine returnsInHanded_of_change_sized (C := Try.checked) own started (by kernel_rfl) Try.func10
    (ChangeSpec.witness6 (enc := enc) (C := Try.checked) false ⟨#[], #[.slice none 0 0, .int .i64 0], []⟩ 8 (by kernel_rfl) (by kernel_rfl) (by kernel_rfl) (by kernel_rfl)) ?_
  intro W base args ds gs before hval0 hW hcnd hsz0 _
  have hsz : (DataW.weightsEach Try.prog (Try.f10.params.toList ++ Rows.fnExactShearPointsSpec.plain.varTypes Try.prog) (ds ++ gs)).all (· ≤ reachBytes) = true := hsz0
  have hval : ∀ (j : Nat) t v, Try.f10.params[j]? = some t → args[j]? = some v → Value.okWide Try.prog W .any base t v := hval0
  have hW' := hW
  obtain ⟨p, q, hA0, hV, rfl, hfz, hnd⟩ := hW
  have hA : DataW.TrodAll enc Try.prog W 0 (fun _ => true) true Try.f10.params.toList args.toList ds p := hA0
  rw [Try.params10] at hA hval hsz
  obtain ⟨v0, vs0, d0, ds0, p0, q0, hargs, rfl, rfl, h0, r0⟩ := trodAll_cons hA
  obtain ⟨v1, vs1, d1, ds1, p1, q1, rfl, rfl, rfl, h1, r1⟩ := trodAll_cons r0
  obtain ⟨rfl, rfl, rfl⟩ := trodAll_nil r1
  obtain rfl : args = #[v0, v1] := by cases args; simp_all
  obtain ⟨rfl, rfl⟩ := trodVars_none hV
  obtain ⟨a0, len0, cap0, rfl⟩ := okWide_slice Try.underlying27 (hval 0 27 v0 rfl rfl)
  have k0 := h0
  have lt0 : ∀ x ∈ p0, x.block < W.heap.size := by obtain ⟨m, hm⟩ := k0; exact DataW.trod_lt m _ _ _ hm
  obtain ⟨l0, hn0, hr0, hc0, hb0⟩ : ∃ l : List PX.S34, l.length = len0 ∧ Go.Proofs.YtikomhkkodhliaaW.PrintWords.Kd.C PX.k34 W a0 len0 l ∧ len0 ≤ cap0 ∧ len0 ≤ maxLen := by
    obtain ⟨fuel, hf⟩ := h0
    rcases Go.Deep.open_slice_pairs Try.underlying27 Try.underlying34 (by kernel_rfl) rfl rfl (by kernel_rfl) (by kernel_rfl) hf with ⟨hcs, _⟩ | ⟨x, l, c, m, n, V0, V1, D0, D1, P0, P1, hcs, _, hl, hm, hmm, _, hx⟩
    · simp [Value.cells] at hcs
      obtain ⟨rfl, rfl, rfl⟩ := hcs
      exact ⟨[], rfl, ⟨rfl, Nat.zero_le _, fun h => absurd h (Nat.lt_irrefl _)⟩, Nat.le_refl _, Nat.zero_le _⟩
    · simp [Value.cells] at hcs
      obtain ⟨rfl, rfl, rfl⟩ := hcs
      have hlm : len0 ≤ m := by rw [hmm]; split <;> omega
      obtain ⟨pl, e1, e2⟩ := pts_row hlm (Nat.le_trans (Nat.le_trans hl hm) (by decide)) (fun j hj => by
        obtain ⟨g1, g2, g3, g4⟩ := hx j hj
        obtain ⟨b1, f1, _, _⟩ := DataW.trod_int Try.underlying3 g3
        obtain ⟨b2, f2, _, _⟩ := DataW.trod_int Try.underlying3 g4
        simp only [List.cons.injEq, and_true] at f1 f2
        rw [f1] at g1
        rw [f2] at g2
        exact ⟨b1, b2, g1, g2⟩)
      exact ⟨pl, e1, e2, hl, Nat.le_trans hl hm⟩
  subst hn0
  obtain ⟨a1, rfl, rfl, rfl, w1⟩ := open_int Try.underlying3 (hval 1 3 v1 rfl rfl) h1
  clear hA0 hval0 hsz0 hsz
  obtain ⟨k, hP⟩ := Pure.FnExactShearPoints l0 a1 (Nat.le_trans hb0 (by decide)) w1
  refine (PX.laws_FnExactShearPoints.calls k _ _ l0 a1 true W hr0 hc0 hP rfl).mono fun e W' ⟨he, bel⟩ => ?_
  subst he
  exact ⟨_, rfl, _, _, _, [], _, [], hW', trodAll_mk1 (shut_bool Try.underlying4 _), (trodAll_cons_mk (Below.trod laidOut (by kernel_rfl) (of_decide_eq_true (by kernel_rfl)) k0 bel lt0) (trodAll_cons_mk (shut_int Try.underlying3 w1) trodAll_mk0)), rfl, bel.frame _, fun h => by cases h⟩
theorem over : Rows.fnExactShearPointsRow.holds Try.pinned (OpenSpec.ofChange Rows.fnExactShearPointsSpec) :=
  OpenClaim.holds_of_wide 10 Try.f10 rfl rfl rfl rfl rfl rfl rfl ⟨rfl, rfl, rfl, rfl, rfl⟩ rfl rfl rfl rfl rfl (by kernel_rfl) Try.func10 (by kernel_rfl)
    (of_decide_eq_true (by kernel_rfl)) (by unfold Func.isWrapper; first | (rw [if_pos (by decide +kernel)]; kernel_rfl) | (rw [if_neg (by decide +kernel)]; exact ⟨rfl, rfl⟩))
    (fun os started H enc _ => lifted os started H enc)
theorem proved : Rows.FnExactShearPointsSaid := over
#print axioms proved
end Go.Proofs.Ytikomhkkodhliaa.fnExactShearPoints
namespace Go.Proofs.Ytikomhkkodhliaa
/-- The row, under a short name, for the claim. -/
theorem fnExactShearPoints_holds : Rows.FnExactShearPointsSaid := fnExactShearPoints.proved
end Go.Proofs.Ytikomhkkodhliaa
