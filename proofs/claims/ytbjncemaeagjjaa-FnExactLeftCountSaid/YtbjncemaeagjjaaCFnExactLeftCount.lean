/- FnExactLeftCount returns true for all arguments and leaves them as they were. No condition. -/
import Derived.Test.YtbjncemaeagjjaaProg
import Derived.Test.YtbjncemaeagjjaaRows
import Derived.WalkKit
import Derived.ProofKit
import Derived.OpenShut
import Derived.ShutString
import Derived.ChangeOld
import Derived.Below
import Derived.SizedLaws
import Derived.Lib.SmallJoins
import Derived.ChangeSame
import Derived.Test.YtbjncemaeagjjaaV1
import Derived.Test.YtbjncemaeagjjaaBuzpdmf1
import Derived.Test.YtbjncemaeagjjaaBuzpdmf2
import Derived.Test.YtbjncemaeagjjaaBuzpdmf3
set_option linter.unusedVariables false
set_option linter.unusedSimpArgs false
namespace Go.Proofs.Ytbjncemaeagjjaa.PX
open Go.RowKit Go.Proofs.Ytbjncemaeagjjaa.G Go.Proofs.YtbjncemaeagjjaaW.PrintWords Go.Proofs.YtbjncemaeagjjaaW.PrintLast Go.Proofs.YtbjncemaeagjjaaW.PrintMore
attribute [local go_sem] max2_int min2_int max_two min_two max_three min_three max_four min_four   -- for this text's walks alone
set_option linter.unusedVariables false
set_option linter.unusedSimpArgs false
/-! ### spec_l5Different: function 39 -/
mutual
def spec_l5Different.l0 : Nat → Int → List Int → Int → Option (Bool)
 | 0, _, _, _ => none
 | k + 1, x0, x1, x5 => if x5 < (x1.length : Int) then (if 0 ≤ x5 then ((spec_l1In.f (rd x1 x5) 0 (wrap64 (x0 - 1))).bind fun t159 => (if t159 = true then (spec_l5Different.l1 k x0 x1 x5 0) else (some false))) else (none)) else (some true)
def spec_l5Different.l1 : Nat → Int → List Int → Int → Int → Option (Bool)
 | 0, _, _, _, _ => none
 | k + 1, x0, x1, x5, x6 => if x6 < x5 then (if 0 ≤ x5 then (if x5 < (x1.length : Int) then (if 0 ≤ x6 then (if x6 < (x1.length : Int) then (if (rd x1 x5) = (rd x1 x6) then (some false) else (spec_l5Different.l1 k x0 x1 x5 (wrap64 (x6 + 1)))) else (none)) else (none)) else (none)) else (none)) else (spec_l5Different.l0 k x0 x1 (wrap64 (x5 + 1)))
end
def spec_l5Different.f (k : Nat) (a0 : Int) (l1 : List Int) : Option (Bool) := spec_l5Different.l0 k a0 l1 0
theorem spec_l5Different.mono_l : ∀ k, (∀ y0 y1 y2, LeO (spec_l5Different.l0 k y0 y1 y2) (spec_l5Different.l0 (k + 1) y0 y1 y2)) ∧ (∀ y0 y1 y2 y3, LeO (spec_l5Different.l1 k y0 y1 y2 y3) (spec_l5Different.l1 (k + 1) y0 y1 y2 y3))
 | 0 => ⟨fun _ _ _ r h => by simp [spec_l5Different.l0] at h, fun _ _ _ _ r h => by simp [spec_l5Different.l1] at h⟩
 | k + 1 => by
  obtain ⟨ih0, ih1⟩ := spec_l5Different.mono_l k
  refine ⟨?_, ?_⟩ <;> intros <;> (first | unfold spec_l5Different.l0 | unfold spec_l5Different.l1) <;> repeat' first
  | (with_reducible exact ih0 _ _ _)
  | (with_reducible exact ih1 _ _ _ _)
  | (with_reducible exact LeO.refl _)
  | (with_reducible exact LeO.none _)
  | (with_reducible refine LeO.ite ?_ ?_)
  | (with_reducible refine LeO.bind ?_ (fun _ => ?_))
  | exact ih0 _ _ _
  | exact ih1 _ _ _ _
  | exact LeO.none _
  | refine LeO.ite ?_ ?_
  | refine LeO.bind ?_ (fun _ => ?_)
theorem spec_l5Different.mono : ∀ a0 a1 k, LeO (spec_l5Different.f k a0 a1) (spec_l5Different.f (k + 1) a0 a1) := by
 intro a0 a1 k
 obtain ⟨ih0, ih1⟩ := spec_l5Different.mono_l k
 unfold spec_l5Different.f
 repeat' first
   | (with_reducible exact ih0 _ _ _)
   | (with_reducible exact ih1 _ _ _ _)
   | (with_reducible exact LeO.refl _)
   | (with_reducible exact LeO.none _)
   | (with_reducible refine LeO.ite ?_ ?_)
   | (with_reducible refine LeO.bind ?_ (fun _ => ?_))
   | exact ih0 _ _ _
   | exact ih1 _ _ _ _
   | exact LeO.none _
   | refine LeO.ite ?_ ?_
   | refine LeO.bind ?_ (fun _ => ?_)
set_option maxHeartbeats 8000000 in
set_option maxRecDepth 100000 in
theorem spec_l5Different.calls (k : Nat) (a0 : Int) (A1 : Option Addr) (c1 : Nat) (l1 : List Int) (r : Bool) (w : World) (hr1 : Kd.C (Kd.int .i64) w A1 l1.length l1) (hc1 : l1.length ≤ c1) (h : spec_l5Different.f k a0 l1 = some r) :
  Calls Try.prog 39 #[.int .i64 a0, .slice A1 l1.length c1] w fun e w' => e = .returned (.bool r) ∧ Drawn0 w w' := by
 have HR1 := Aside0.mk hr1
 have HC1 := Aside0.mk hc1
 clear hr1 hc1
 have H : (spec_l5Different.l0 k a0 l1 0) = some r := h
 clear h
 have H' := Aside0.mk H
 clear H
 go_enter Try.func39, Try.ntmps39
 go_wp2
 repeat (go_quiet (fail); try go_wp2)
 go_loopg [5] k (fun kq v5 w' => ∃ (x5_1 : Int), v5 = .int .i64 x5_1 ∧ Aside0 (spec_l5Different.l0 kq a0 l1 x5_1 = some r) ∧ Aside0 (kq ≤ k) ∧ Drawn0 w w')
 case atStart => exact ⟨(0), zF, H', ⟨Nat.le_refl _⟩, by repeat (first | exact Drawn0.refl _ | apply Drawn0.step)⟩
 case round =>
  clear H'
  try clear c1
  try clear p2
  obtain ⟨x5_1, rfl, HA, HK1, ⟨m1, rfl⟩⟩ := hrel
  cases gk with
  | zero => exact absurd HA.out (by simp [spec_l5Different.l0])
  | succ k1 =>
   have H := HA.out
   clear HA
   simp only [spec_l5Different.l0] at H
   by_cases c3 : x5_1 < (l1.length : Int)
   ·rw [if_pos c3] at H
    have c3b0 : decide (x5_1 < (l1.length : Int)) = true := decide_eq_true c3
    clear c3
    by_cases c4 : 0 ≤ x5_1
    ·rw [if_pos c4] at H
     have c4b0 : decide (0 ≤ x5_1) = true := decide_eq_true c4
     clear c4
     replace H := Option.bind_eq_some_iff.mp H
     obtain ⟨t159, A50, H⟩ := H
     replace H : (if t159 = true then (spec_l5Different.l1 k1 a0 l1 x5_1 0) else (some false)) = some r := H
     have A5 := Aside0.mk A50
     clear A50
     by_cases c6 : t159 = true
     ·subst c6
      have H1 : (spec_l5Different.l1 k1 a0 l1 x5_1 0) = some r := by rw [if_pos rfl] at H; exact H
      clear H
      have H := H1
      clear H1
      have H' := Aside0.mk H
      clear H
      have p158 : 0 ≤ (x5_1 : Int) := zA
      have q158 : x5_1 < (l1.length : Int) := zA
      obtain ⟨ad158, e158, hx158_0⟩ := Kd.at_int HR1.out x5_1 p158 q158
      cases e158
      replace p158 := eq_true p158
      replace q158 := eq_true q158
      go_wp2_with (first | (go_at_call 45; (with_reducible refine (spec_l1In.calls (rd l1 x5_1) 0 (wrap64 (a0 - 1)) true _ A5.out).mono ?_); rintro e w' ⟨rfl, ⟨nd, rfl⟩⟩; (try first | exact ⟨rfl, _, World.drewN_drewN _ _ _⟩ | exact ⟨rfl, _, Eq.trans (World.drewN_drewN _ _ _) (congrArg (World.drewN _) (Nat.add_assoc _ _ _))⟩)))
      repeat (go_quiet (first | (go_at_call 45; (with_reducible refine (spec_l1In.calls (rd l1 x5_1) 0 (wrap64 (a0 - 1)) true _ A5.out).mono ?_); rintro e w' ⟨rfl, ⟨nd, rfl⟩⟩; (try first | exact ⟨rfl, _, World.drewN_drewN _ _ _⟩ | exact ⟨rfl, _, Eq.trans (World.drewN_drewN _ _ _) (congrArg (World.drewN _) (Nat.add_assoc _ _ _))⟩))); try go_wp2_with (first | (go_at_call 45; (with_reducible refine (spec_l1In.calls (rd l1 x5_1) 0 (wrap64 (a0 - 1)) true _ A5.out).mono ?_); rintro e w' ⟨rfl, ⟨nd, rfl⟩⟩; (try first | exact ⟨rfl, _, World.drewN_drewN _ _ _⟩ | exact ⟨rfl, _, Eq.trans (World.drewN_drewN _ _ _) (congrArg (World.drewN _) (Nat.add_assoc _ _ _))⟩))))
      go_loopg [6] k1 (fun kq v6 w' => ∃ (x6_2 : Int), v6 = .int .i64 x6_2 ∧ Aside0 (spec_l5Different.l1 kq a0 l1 x5_1 x6_2 = some r) ∧ Aside0 (kq ≤ k1) ∧ Drawn0 w w')
      case atStart => exact ⟨(0), zF, H', ⟨Nat.le_refl _⟩, by repeat (first | exact Drawn0.refl _ | apply Drawn0.step)⟩
      case round =>
       clear H'
       try clear c1
       try clear p1
       try clear q1
       try clear hx1
       try clear p2
       try clear c3
       try clear c3b0
       try clear c4
       try clear c4b0
       try clear c6
       try clear p6
       try clear hx158_0
       try clear p158
       try clear p2
       try clear q158
       obtain ⟨x6_2, rfl, HA, HK2, ⟨m2, rfl⟩⟩ := hrel
       cases gk with
       | zero => exact absurd HA.out (by simp [spec_l5Different.l1])
       | succ k2 =>
        have H := HA.out
        clear HA
        simp only [spec_l5Different.l1] at H
        by_cases c7 : x6_2 < x5_1
        ·rw [if_pos c7] at H
         have c7b0 : decide (x6_2 < x5_1) = true := decide_eq_true c7
         clear c7
         by_cases c8 : 0 ≤ x5_1
         ·rw [if_pos c8] at H
          have c8b0 : decide (0 ≤ x5_1) = true := decide_eq_true c8
          clear c8
          by_cases c9 : x5_1 < (l1.length : Int)
          ·rw [if_pos c9] at H
           have c9b0 : decide (x5_1 < (l1.length : Int)) = true := decide_eq_true c9
           clear c9
           by_cases c10 : 0 ≤ x6_2
           ·rw [if_pos c10] at H
            have c10b0 : decide (0 ≤ x6_2) = true := decide_eq_true c10
            clear c10
            by_cases c11 : x6_2 < (l1.length : Int)
            ·rw [if_pos c11] at H
             have c11b0 : decide (x6_2 < (l1.length : Int)) = true := decide_eq_true c11
             clear c11
             by_cases c12 : (rd l1 x5_1) = (rd l1 x6_2)
             ·rw [if_pos c12] at H
              have c12b0 : ((rd l1 x5_1) == (rd l1 x6_2)) = true := beq_iff_eq.mpr c12
              have c12b1 : ((rd l1 x5_1) != (rd l1 x6_2)) = false := bne_eq_false_iff_eq.mpr c12
              clear c12
              obtain rfl := Option.some.inj H
              have p160 : 0 ≤ (x5_1 : Int) := zA
              have q160 : x5_1 < (l1.length : Int) := zA
              obtain ⟨ad160, e160, hx160_0⟩ := Kd.at_int HR1.out x5_1 p160 q160
              obtain rfl : ad158 = ad160 := (by injection e160)
              replace p160 := eq_true p160
              replace q160 := eq_true q160
              have p161 : 0 ≤ (x6_2 : Int) := zA
              have q161 : x6_2 < (l1.length : Int) := zA
              obtain ⟨ad161, e161, hx161_0⟩ := Kd.at_int HR1.out x6_2 p161 q161
              obtain rfl : ad158 = ad161 := (by injection e161)
              replace p161 := eq_true p161
              replace q161 := eq_true q161
              go_wp2
              repeat (go_quiet (fail); try go_wp2)
              go_ret
              exact ⟨by first | rfl | (simp; done) | (simp [*]; done), by repeat (first | exact Drawn0.refl _ | apply Drawn0.step)⟩
             ·rw [if_neg c12] at H
              have c12b0 : ((rd l1 x5_1) == (rd l1 x6_2)) = false := beq_eq_false_iff_ne.mpr c12
              have c12b1 : ((rd l1 x5_1) != (rd l1 x6_2)) = true := bne_iff_ne.mpr c12
              have H' := Aside0.mk H
              clear H
              have p160 : 0 ≤ (x5_1 : Int) := zA
              have q160 : x5_1 < (l1.length : Int) := zA
              obtain ⟨ad160, e160, hx160_0⟩ := Kd.at_int HR1.out x5_1 p160 q160
              obtain rfl : ad158 = ad160 := (by injection e160)
              replace p160 := eq_true p160
              replace q160 := eq_true q160
              have p161 : 0 ≤ (x6_2 : Int) := zA
              have q161 : x6_2 < (l1.length : Int) := zA
              obtain ⟨ad161, e161, hx161_0⟩ := Kd.at_int HR1.out x6_2 p161 q161
              obtain rfl : ad158 = ad161 := (by injection e161)
              replace p161 := eq_true p161
              replace q161 := eq_true q161
              go_wp2
              repeat (go_quiet (fail); try go_wp2)
              go_roundg k2
              case measure => have := HK1.out; have := HK2.out; omega
              case rel => exact ⟨(wrap64 (x6_2 + 1)), zF, H', ⟨by have := HK1.out; have := HK2.out; omega⟩, by repeat (first | exact Drawn0.refl _ | apply Drawn0.step)⟩
            ·rw [if_neg c11] at H
             exact absurd H (by simp)
           ·rw [if_neg c10] at H
            exact absurd H (by simp)
          ·rw [if_neg c9] at H
           exact absurd H (by simp)
         ·rw [if_neg c8] at H
          exact absurd H (by simp)
        ·rw [if_neg c7] at H
         have c7b0 : decide (x6_2 < x5_1) = false := decide_eq_false c7
         clear c7
         have H' := Aside0.mk H
         clear H
         go_wp2
         repeat (go_quiet (fail); try go_wp2)
         go_roundg k2
         case measure => have := HK1.out; have := HK2.out; omega
         case rel => exact ⟨(wrap64 (x5_1 + 1)), zF, H', ⟨by have := HK1.out; have := HK2.out; omega⟩, by repeat (first | exact Drawn0.refl _ | apply Drawn0.step)⟩
     ·replace c6 := Bool.eq_false_iff.mpr c6
      subst c6
      have H1 : (some false) = some r := by rw [if_neg (show ¬ (false = true) by decide)] at H; exact H
      clear H
      have H := H1
      clear H1
      obtain rfl := Option.some.inj H
      have p158 : 0 ≤ (x5_1 : Int) := zA
      have q158 : x5_1 < (l1.length : Int) := zA
      obtain ⟨ad158, e158, hx158_0⟩ := Kd.at_int HR1.out x5_1 p158 q158
      cases e158
      replace p158 := eq_true p158
      replace q158 := eq_true q158
      go_wp2_with (first | (go_at_call 45; (with_reducible refine (spec_l1In.calls (rd l1 x5_1) 0 (wrap64 (a0 - 1)) false _ A5.out).mono ?_); rintro e w' ⟨rfl, ⟨nd, rfl⟩⟩; (try first | exact ⟨rfl, _, World.drewN_drewN _ _ _⟩ | exact ⟨rfl, _, Eq.trans (World.drewN_drewN _ _ _) (congrArg (World.drewN _) (Nat.add_assoc _ _ _))⟩)))
      repeat (go_quiet (first | (go_at_call 45; (with_reducible refine (spec_l1In.calls (rd l1 x5_1) 0 (wrap64 (a0 - 1)) false _ A5.out).mono ?_); rintro e w' ⟨rfl, ⟨nd, rfl⟩⟩; (try first | exact ⟨rfl, _, World.drewN_drewN _ _ _⟩ | exact ⟨rfl, _, Eq.trans (World.drewN_drewN _ _ _) (congrArg (World.drewN _) (Nat.add_assoc _ _ _))⟩))); try go_wp2_with (first | (go_at_call 45; (with_reducible refine (spec_l1In.calls (rd l1 x5_1) 0 (wrap64 (a0 - 1)) false _ A5.out).mono ?_); rintro e w' ⟨rfl, ⟨nd, rfl⟩⟩; (try first | exact ⟨rfl, _, World.drewN_drewN _ _ _⟩ | exact ⟨rfl, _, Eq.trans (World.drewN_drewN _ _ _) (congrArg (World.drewN _) (Nat.add_assoc _ _ _))⟩))))
      go_ret
      exact ⟨by first | rfl | (simp; done) | (simp [*]; done), by repeat (first | exact Drawn0.refl _ | apply Drawn0.step)⟩
    ·rw [if_neg c4] at H
     exact absurd H (by simp)
   ·rw [if_neg c3] at H
    have c3b0 : decide (x5_1 < (l1.length : Int)) = false := decide_eq_false c3
    clear c3
    obtain rfl := Option.some.inj H
    go_wp2
    repeat (go_quiet (fail); try go_wp2)
    go_ret
    exact ⟨by first | rfl | (simp; done) | (simp [*]; done), by repeat (first | exact Drawn0.refl _ | apply Drawn0.step)⟩
/-! ### spec_LeftCount: function 13 -/
def spec_LeftCount.f (k : Nat) (a0_0 : Int) (a0_1 : ByteArray) (a1 : Int) (a2 : Int) : Option (Int) := (spec_IsAcyclic.f k a0_0 a0_1).bind fun t168 => (if t168 = true then ((spec_l5Different.f k a0_0 (([a1, a2] : List Int))).bind fun t172 => (if t172 = true then ((spec_l7Left.f k a0_0 a0_1 a1 a2).bind fun t173 => (some t173)) else (some (-1)))) else (some (-1)))
theorem spec_LeftCount.mono : ∀ a0 a1 a2 a3 k, LeO (spec_LeftCount.f k a0 a1 a2 a3) (spec_LeftCount.f (k + 1) a0 a1 a2 a3) := by
 intro a0 a1 a2 a3 k
 unfold spec_LeftCount.f
 repeat' first
   | (with_reducible exact spec_IsAcyclic.mono _ _ _)
   | (with_reducible exact spec_l5Different.mono _ _ _)
   | (with_reducible exact spec_l7Left.mono _ _ _ _ _)
   | (with_reducible exact LeO.refl _)
   | (with_reducible exact LeO.none _)
   | (with_reducible refine LeO.ite ?_ ?_)
   | (with_reducible refine LeO.bind ?_ (fun _ => ?_))
   | exact spec_IsAcyclic.mono _ _ _
   | exact spec_l5Different.mono _ _ _
   | exact spec_l7Left.mono _ _ _ _ _
   | exact LeO.none _
   | refine LeO.ite ?_ ?_
   | refine LeO.bind ?_ (fun _ => ?_)
set_option maxHeartbeats 8000000 in
set_option maxRecDepth 100000 in
theorem spec_LeftCount.calls (k : Nat) (a0_0 : Int) (a0_1 : ByteArray) (a1 : Int) (a2 : Int) (r : Int) (w : World) (h : spec_LeftCount.f k a0_0 a0_1 a1 a2 = some r) :
  Calls Try.prog 13 #[.agg #[.int .i64 a0_0, .string a0_1], .int .i64 a1, .int .i64 a2] w fun e w' => e = .returned (.int .i64 r) ∧ Below w.heap.size w w' := by
 have hu26 := Try.underlying26
 have HB := Aside0.mk (Below.refl w.heap.size w)
 have H : ((spec_IsAcyclic.f k a0_0 a0_1).bind fun t168 => (if t168 = true then ((spec_l5Different.f k a0_0 (([a1, a2] : List Int))).bind fun t172 => (if t172 = true then ((spec_l7Left.f k a0_0 a0_1 a1 a2).bind fun t173 => (some t173)) else (some (-1)))) else (some (-1)))) = some r := h
 clear h
 replace H := Option.bind_eq_some_iff.mp H
 obtain ⟨t168, A40, H⟩ := H
 replace H : (if t168 = true then ((spec_l5Different.f k a0_0 (([a1, a2] : List Int))).bind fun t172 => (if t172 = true then ((spec_l7Left.f k a0_0 a0_1 a1 a2).bind fun t173 => (some t173)) else (some (-1)))) else (some (-1))) = some r := H
 have A4 := Aside0.mk A40
 clear A40
 by_cases c5 : t168 = true
 ·subst c5
  have H1 : ((spec_l5Different.f k a0_0 (([a1, a2] : List Int))).bind fun t172 => (if t172 = true then ((spec_l7Left.f k a0_0 a0_1 a1 a2).bind fun t173 => (some t173)) else (some (-1)))) = some r := by rw [if_pos rfl] at H; exact H
  clear H
  have H := H1
  clear H1
  obtain ⟨y169, hy169⟩ : ∃ y_ : List Int, y_ = (([a1, a2] : List Int)) := ⟨_, rfl⟩
  replace H : ((spec_l5Different.f k a0_0 y169).bind fun t172 => (if t172 = true then ((spec_l7Left.f k a0_0 a0_1 a1 a2).bind fun t173 => (some t173)) else (some (-1)))) = some r := by first | (rw [hy169]; with_reducible exact H) | (have H2_ := (Option.bind_some _ _).symm.trans H; rw [hy169]; with_reducible exact H2_) | (have H2_ := (Option.bind_some _ _).symm.trans H; with_reducible exact H2_) | with_reducible exact H | (rw [hy169]; exact H) | exact H
  have Ny169 := Aside0.mk hy169
  clear hy169
  replace H := Option.bind_eq_some_iff.mp H
  obtain ⟨t172, A60, H⟩ := H
  replace H : (if t172 = true then ((spec_l7Left.f k a0_0 a0_1 a1 a2).bind fun t173 => (some t173)) else (some (-1))) = some r := H
  have A6 := Aside0.mk A60
  clear A60
  by_cases c7 : t172 = true
  ·subst c7
   have H1 : ((spec_l7Left.f k a0_0 a0_1 a1 a2).bind fun t173 => (some t173)) = some r := by rw [if_pos rfl] at H; exact H
   clear H
   have H := H1
   clear H1
   replace H := Option.bind_eq_some_iff.mp H
   obtain ⟨t173, A80, H⟩ := H
   replace H : (some t173) = some r := H
   have A8 := Aside0.mk A80
   clear A80
   obtain rfl := Option.some.inj H
   go_enter Try.func13, Try.ntmps13
   go_wp2_with (first | ((with_reducible refine gate_dst (N := 3) rfl ?_); (try (refine gate_guard (by rfl) ?_; dsimp only)); refine box_event ?hg (N := 3) ?hd (cs := #[.int .i64 a0_0, .string a0_1]) (t := 26) ?hr ?_; (case hd => rfl); (case hg => rfl); (case hr => first | (go_simp; done) | (go_simp; rfl)); intro gb167 hg w9 hbox hb; have BK167 := Aside0.mk (hbox); have GW167 := Aside0.mk ((by rw [hg]; exact (below_size zB) : w.heap.size ≤ gb167)); have GE167 := Aside0.mk ((by rw [hg]; exact (below_size zB) : w.heap.size ≤ gb167)); replace HB := Aside0.mk (below_step zB hb); clear hb hbox hg; have hcz10_0 : w9.cell? ⟨gb167, 0, none⟩ = some (.int .i64 a0_0) := (blk_cell BK167.out 0).trans rfl; have hcz10_1 : w9.cell? ⟨gb167, 1, none⟩ = some (.string a0_1) := (blk_cell BK167.out 1).trans rfl; have hfz10_0 := blk_frozen BK167.out 0; have hfz10_1 := blk_frozen BK167.out 1) | ((with_reducible refine gate_callee (f := 38) rfl ?_); refine goesL_ (some 8) rfl rfl Try.func38 (by kernel_rfl) rfl #[.agg #[.int .i64 a0_0, .string a0_1]] rfl zM ?_; (with_reducible refine (spec_IsAcyclic.calls k a0_0 a0_1 true _ A4.out).mono ?_); rintro e w11 ⟨rfl, hb⟩; refine ⟨_, rfl, ?_⟩; replace BK167 := Aside0.mk (blk_below (g := gb167) (o := .cells #[.int .i64 a0_0, .string a0_1] 26 (0, 0)) (zK BK167.out) hb); replace HB := Aside0.mk (below_step (zG GE167.out) hb); (try clear hb); have hcz12_0 : w11.cell? ⟨gb167, 0, none⟩ = some (.int .i64 a0_0) := (blk_cell BK167.out 0).trans rfl; have hcz12_1 : w11.cell? ⟨gb167, 1, none⟩ = some (.string a0_1) := (blk_cell BK167.out 1).trans rfl; have hfz12_0 := blk_frozen BK167.out 0; have hfz12_1 := blk_frozen BK167.out 1) | ((with_reducible refine gate_dst (N := 15) rfl ?_); (try (refine gate_guard (by rfl) ?_; dsimp only)); refine Kd.R_lit (Kd.int .i64) _ 3 ?hg (N := 15) ?hd (xs := ([a1, a2] : List Int)) (inner := [.int .i64 a1, .int .i64 a2]) (ok := fun _ => True) (okp := fun _ => True) ?hr ?hp (fun _ hk => hk) trivial (Below.refl _ _) (Nat.le_refl _) (by simp) ?_; (case hd => rfl); (case hg => rfl); (case hr => first | (go_simp; done) | (go_simp; rfl)); (case hp => exact (Reps.one (show Kd.M (Kd.int .i64) _ _ _ a1 [.int .i64 a1] from rfl) (Reps.one (show Kd.M (Kd.int .i64) _ _ _ a2 [.int .i64 a2] from rfl) (Reps.none _ _)))); intro v170 w13 ho14 hb hg_ hnew_; clear hg_ hnew_; (first | rw [← Ny169.out] at ho14 | (simp only [Int.reduceToNat] at ho14; rw [← Ny169.out] at ho14)); have HO171 := Aside0.mk (Kd.R_lower ho14 (below_size (zG GE167.out))); replace BK167 := Aside0.mk (blk_below (g := gb167) (o := .cells #[.int .i64 a0_0, .string a0_1] 26 (0, 0)) (zK BK167.out) hb); replace HB := Aside0.mk (below_step (zG GE167.out) hb); clear hb ho14; obtain ⟨Ao15, co15, eo15⟩ := Kd.R_slice HO171.out; subst eo15) | (go_at_call 39; (with_reducible refine (spec_l5Different.calls k a0_0 _ _ y169 true _ ?side1 ?side2 A6.out).mono ?_); (case side1 => repeat (first | exact (Kd.R_reads' HO171.out).2.2 | (with_reducible refine Kd.C_alloc ?_ _) | (with_reducible refine Kd.C_drewN ?_ _) | (with_reducible refine Kd.C_drew ?_))); (case side2 => exact (Kd.R_reads' HO171.out).2.1); rintro e w' ⟨rfl, ⟨nd, rfl⟩⟩; have hcz16_0 : w13.cell? ⟨gb167, 0, none⟩ = some (.int .i64 a0_0) := (blk_cell BK167.out 0).trans rfl; have hcz16_1 : w13.cell? ⟨gb167, 1, none⟩ = some (.string a0_1) := (blk_cell BK167.out 1).trans rfl; have hfz16_0 := blk_frozen BK167.out 0; have hfz16_1 := blk_frozen BK167.out 1) | ((with_reducible refine gate_callee (f := 40) rfl ?_); refine goesL_ (some 22) rfl rfl Try.func40 (by kernel_rfl) rfl #[.agg #[.int .i64 a0_0, .string a0_1], .int .i64 a1, .int .i64 a2] rfl zM ?_; (with_reducible refine (spec_l7Left.calls k a0_0 a0_1 a1 a2 t173 _ A8.out).mono ?_); rintro e w17 ⟨rfl, hb⟩; refine ⟨_, rfl, ?_⟩; replace HO171 := Aside0.mk (Kd.R_below (zR HO171.out) hb); replace BK167 := Aside0.mk (blk_below (g := gb167) (o := .cells #[.int .i64 a0_0, .string a0_1] 26 (0, 0)) (zK BK167.out) hb); replace HB := Aside0.mk (below_step (zG GE167.out) hb); (try clear hb)))
   go_ret
   exact ⟨zE, zG GE167.out⟩
  ·replace c7 := Bool.eq_false_iff.mpr c7
   subst c7
   have H1 : (some (-1)) = some r := by rw [if_neg (show ¬ (false = true) by decide)] at H; exact H
   clear H
   have H := H1
   clear H1
   obtain rfl := Option.some.inj H
   go_enter Try.func13, Try.ntmps13
   go_wp2_with (first | ((with_reducible refine gate_dst (N := 3) rfl ?_); (try (refine gate_guard (by rfl) ?_; dsimp only)); refine box_event ?hg (N := 3) ?hd (cs := #[.int .i64 a0_0, .string a0_1]) (t := 26) ?hr ?_; (case hd => rfl); (case hg => rfl); (case hr => first | (go_simp; done) | (go_simp; rfl)); intro gb167 hg w18 hbox hb; have BK167 := Aside0.mk (hbox); have GW167 := Aside0.mk ((by rw [hg]; exact (below_size zB) : w.heap.size ≤ gb167)); have GE167 := Aside0.mk ((by rw [hg]; exact (below_size zB) : w.heap.size ≤ gb167)); replace HB := Aside0.mk (below_step zB hb); clear hb hbox hg; have hcz19_0 : w18.cell? ⟨gb167, 0, none⟩ = some (.int .i64 a0_0) := (blk_cell BK167.out 0).trans rfl; have hcz19_1 : w18.cell? ⟨gb167, 1, none⟩ = some (.string a0_1) := (blk_cell BK167.out 1).trans rfl; have hfz19_0 := blk_frozen BK167.out 0; have hfz19_1 := blk_frozen BK167.out 1) | ((with_reducible refine gate_callee (f := 38) rfl ?_); refine goesL_ (some 8) rfl rfl Try.func38 (by kernel_rfl) rfl #[.agg #[.int .i64 a0_0, .string a0_1]] rfl zM ?_; (with_reducible refine (spec_IsAcyclic.calls k a0_0 a0_1 true _ A4.out).mono ?_); rintro e w20 ⟨rfl, hb⟩; refine ⟨_, rfl, ?_⟩; replace BK167 := Aside0.mk (blk_below (g := gb167) (o := .cells #[.int .i64 a0_0, .string a0_1] 26 (0, 0)) (zK BK167.out) hb); replace HB := Aside0.mk (below_step (zG GE167.out) hb); (try clear hb); have hcz21_0 : w20.cell? ⟨gb167, 0, none⟩ = some (.int .i64 a0_0) := (blk_cell BK167.out 0).trans rfl; have hcz21_1 : w20.cell? ⟨gb167, 1, none⟩ = some (.string a0_1) := (blk_cell BK167.out 1).trans rfl; have hfz21_0 := blk_frozen BK167.out 0; have hfz21_1 := blk_frozen BK167.out 1) | ((with_reducible refine gate_dst (N := 15) rfl ?_); (try (refine gate_guard (by rfl) ?_; dsimp only)); refine Kd.R_lit (Kd.int .i64) _ 3 ?hg (N := 15) ?hd (xs := ([a1, a2] : List Int)) (inner := [.int .i64 a1, .int .i64 a2]) (ok := fun _ => True) (okp := fun _ => True) ?hr ?hp (fun _ hk => hk) trivial (Below.refl _ _) (Nat.le_refl _) (by simp) ?_; (case hd => rfl); (case hg => rfl); (case hr => first | (go_simp; done) | (go_simp; rfl)); (case hp => exact (Reps.one (show Kd.M (Kd.int .i64) _ _ _ a1 [.int .i64 a1] from rfl) (Reps.one (show Kd.M (Kd.int .i64) _ _ _ a2 [.int .i64 a2] from rfl) (Reps.none _ _)))); intro v170 w22 ho23 hb hg_ hnew_; clear hg_ hnew_; (first | rw [← Ny169.out] at ho23 | (simp only [Int.reduceToNat] at ho23; rw [← Ny169.out] at ho23)); have HO171 := Aside0.mk (Kd.R_lower ho23 (below_size (zG GE167.out))); replace BK167 := Aside0.mk (blk_below (g := gb167) (o := .cells #[.int .i64 a0_0, .string a0_1] 26 (0, 0)) (zK BK167.out) hb); replace HB := Aside0.mk (below_step (zG GE167.out) hb); clear hb ho23; obtain ⟨Ao24, co24, eo24⟩ := Kd.R_slice HO171.out; subst eo24) | (go_at_call 39; (with_reducible refine (spec_l5Different.calls k a0_0 _ _ y169 false _ ?side1 ?side2 A6.out).mono ?_); (case side1 => repeat (first | exact (Kd.R_reads' HO171.out).2.2 | (with_reducible refine Kd.C_alloc ?_ _) | (with_reducible refine Kd.C_drewN ?_ _) | (with_reducible refine Kd.C_drew ?_))); (case side2 => exact (Kd.R_reads' HO171.out).2.1); rintro e w' ⟨rfl, ⟨nd, rfl⟩⟩))
   go_ret
   exact ⟨zE, zG GE167.out⟩
 ·replace c5 := Bool.eq_false_iff.mpr c5
  subst c5
  have H1 : (some (-1)) = some r := by rw [if_neg (show ¬ (false = true) by decide)] at H; exact H
  clear H
  have H := H1
  clear H1
  obtain rfl := Option.some.inj H
  go_enter Try.func13, Try.ntmps13
  go_wp2_with (first | ((with_reducible refine gate_dst (N := 3) rfl ?_); (try (refine gate_guard (by rfl) ?_; dsimp only)); refine box_event ?hg (N := 3) ?hd (cs := #[.int .i64 a0_0, .string a0_1]) (t := 26) ?hr ?_; (case hd => rfl); (case hg => rfl); (case hr => first | (go_simp; done) | (go_simp; rfl)); intro gb167 hg w25 hbox hb; have BK167 := Aside0.mk (hbox); have GW167 := Aside0.mk ((by rw [hg]; exact (below_size zB) : w.heap.size ≤ gb167)); have GE167 := Aside0.mk ((by rw [hg]; exact (below_size zB) : w.heap.size ≤ gb167)); replace HB := Aside0.mk (below_step zB hb); clear hb hbox hg; have hcz26_0 : w25.cell? ⟨gb167, 0, none⟩ = some (.int .i64 a0_0) := (blk_cell BK167.out 0).trans rfl; have hcz26_1 : w25.cell? ⟨gb167, 1, none⟩ = some (.string a0_1) := (blk_cell BK167.out 1).trans rfl; have hfz26_0 := blk_frozen BK167.out 0; have hfz26_1 := blk_frozen BK167.out 1) | ((with_reducible refine gate_callee (f := 38) rfl ?_); refine goesL_ (some 8) rfl rfl Try.func38 (by kernel_rfl) rfl #[.agg #[.int .i64 a0_0, .string a0_1]] rfl zM ?_; (with_reducible refine (spec_IsAcyclic.calls k a0_0 a0_1 false _ A4.out).mono ?_); rintro e w27 ⟨rfl, hb⟩; refine ⟨_, rfl, ?_⟩; replace BK167 := Aside0.mk (blk_below (g := gb167) (o := .cells #[.int .i64 a0_0, .string a0_1] 26 (0, 0)) (zK BK167.out) hb); replace HB := Aside0.mk (below_step (zG GE167.out) hb); (try clear hb)))
  go_ret
  exact ⟨zE, zG GE167.out⟩
/-! ### impl_LeftCount: function 15 -/
def impl_LeftCount.f (k : Nat) (a0_0 : Int) (a0_1 : ByteArray) (a1 : Int) (a2 : Int) : Option (Int) := (impl_orderOf.f k a0_0 a0_1).bind fun bt268 => (if bt268.2 = true then ((impl_areDifferent.f k a0_0 (([a1, a2] : List Int))).bind fun t275 => (if t275 = true then (if bt268.1.length = 344 then ((impl_chi_left.f k bt268.1 a1 a2).bind fun t276 => (some t276)) else (none)) else (some (-1)))) else (some (-1)))
theorem impl_LeftCount.mono : ∀ a0 a1 a2 a3 k, LeO (impl_LeftCount.f k a0 a1 a2 a3) (impl_LeftCount.f (k + 1) a0 a1 a2 a3) := by
 intro a0 a1 a2 a3 k
 unfold impl_LeftCount.f
 repeat' first
   | (with_reducible exact impl_areDifferent.mono _ _ _)
   | (with_reducible exact impl_chi_left.mono _ _ _ _)
   | (with_reducible exact impl_orderOf.mono _ _ _)
   | (with_reducible exact LeO.refl _)
   | (with_reducible exact LeO.none _)
   | (with_reducible refine LeO.ite ?_ ?_)
   | (with_reducible refine LeO.bind ?_ (fun _ => ?_))
   | exact impl_areDifferent.mono _ _ _
   | exact impl_chi_left.mono _ _ _ _
   | exact impl_orderOf.mono _ _ _
   | exact LeO.none _
   | refine LeO.ite ?_ ?_
   | refine LeO.bind ?_ (fun _ => ?_)
set_option maxHeartbeats 8000000 in
set_option maxRecDepth 100000 in
theorem impl_LeftCount.calls (k : Nat) (a0_0 : Int) (a0_1 : ByteArray) (a1 : Int) (a2 : Int) (r : Int) (w : World) (h : impl_LeftCount.f k a0_0 a0_1 a1 a2 = some r) :
  Calls Try.prog 15 #[.agg #[.int .i64 a0_0, .string a0_1], .int .i64 a1, .int .i64 a2] w fun e w' => e = .returned (.int .i64 r) ∧ Below w.heap.size w w' := by
 have hu26 := Try.underlying26
 have HB := Aside0.mk (Below.refl w.heap.size w)
 have H : ((impl_orderOf.f k a0_0 a0_1).bind fun bt268 => (if bt268.2 = true then ((impl_areDifferent.f k a0_0 (([a1, a2] : List Int))).bind fun t275 => (if t275 = true then (if bt268.1.length = 344 then ((impl_chi_left.f k bt268.1 a1 a2).bind fun t276 => (some t276)) else (none)) else (some (-1)))) else (some (-1)))) = some r := h
 clear h
 replace H := Option.bind_eq_some_iff.mp H
 obtain ⟨⟨t268, t271⟩, A40, H⟩ := H
 replace H : (if t271 = true then ((impl_areDifferent.f k a0_0 (([a1, a2] : List Int))).bind fun t275 => (if t275 = true then (if t268.length = 344 then ((impl_chi_left.f k t268 a1 a2).bind fun t276 => (some t276)) else (none)) else (some (-1)))) else (some (-1))) = some r := H
 have A4 := Aside0.mk A40
 clear A40
 by_cases c5 : t271 = true
 ·subst c5
  have H1 : ((impl_areDifferent.f k a0_0 (([a1, a2] : List Int))).bind fun t275 => (if t275 = true then (if t268.length = 344 then ((impl_chi_left.f k t268 a1 a2).bind fun t276 => (some t276)) else (none)) else (some (-1)))) = some r := by rw [if_pos rfl] at H; exact H
  clear H
  have H := H1
  clear H1
  obtain ⟨y272, hy272⟩ : ∃ y_ : List Int, y_ = (([a1, a2] : List Int)) := ⟨_, rfl⟩
  replace H : ((impl_areDifferent.f k a0_0 y272).bind fun t275 => (if t275 = true then (if t268.length = 344 then ((impl_chi_left.f k t268 a1 a2).bind fun t276 => (some t276)) else (none)) else (some (-1)))) = some r := by first | (rw [hy272]; with_reducible exact H) | (have H2_ := (Option.bind_some _ _).symm.trans H; rw [hy272]; with_reducible exact H2_) | (have H2_ := (Option.bind_some _ _).symm.trans H; with_reducible exact H2_) | with_reducible exact H | (rw [hy272]; exact H) | exact H
  have Ny272 := Aside0.mk hy272
  clear hy272
  replace H := Option.bind_eq_some_iff.mp H
  obtain ⟨t275, A60, H⟩ := H
  replace H : (if t275 = true then (if t268.length = 344 then ((impl_chi_left.f k t268 a1 a2).bind fun t276 => (some t276)) else (none)) else (some (-1))) = some r := H
  have A6 := Aside0.mk A60
  clear A60
  by_cases c7 : t275 = true
  ·subst c7
   have H1 : (if t268.length = 344 then ((impl_chi_left.f k t268 a1 a2).bind fun t276 => (some t276)) else (none)) = some r := by rw [if_pos rfl] at H; exact H
   clear H
   have H := H1
   clear H1
   by_cases c8 : t268.length = 344
   ·rw [if_pos c8] at H
    have c8b0 := eq_true c8
    have c8b1 : decide (t268.length = 344) = true := decide_eq_true c8
    clear c8
    replace H := Option.bind_eq_some_iff.mp H
    obtain ⟨t276, A90, H⟩ := H
    replace H : (some t276) = some r := H
    have A9 := Aside0.mk A90
    clear A90
    obtain rfl := Option.some.inj H
    go_enter Try.func15, Try.ntmps15
    go_wp2_with (first | ((with_reducible refine gate_dst (N := 3) rfl ?_); (try (refine gate_guard (by rfl) ?_; dsimp only)); refine box_event ?hg (N := 3) ?hd (cs := #[.int .i64 a0_0, .string a0_1]) (t := 26) ?hr ?_; (case hd => rfl); (case hg => rfl); (case hr => first | (go_simp; done) | (go_simp; rfl)); intro gb267 hg w10 hbox hb; have BK267 := Aside0.mk (hbox); have GW267 := Aside0.mk ((by rw [hg]; exact (below_size zB) : w.heap.size ≤ gb267)); have GE267 := Aside0.mk ((by rw [hg]; exact (below_size zB) : w.heap.size ≤ gb267)); replace HB := Aside0.mk (below_step zB hb); clear hb hbox hg; have hcz11_0 : w10.cell? ⟨gb267, 0, none⟩ = some (.int .i64 a0_0) := (blk_cell BK267.out 0).trans rfl; have hcz11_1 : w10.cell? ⟨gb267, 1, none⟩ = some (.string a0_1) := (blk_cell BK267.out 1).trans rfl; have hfz11_0 := blk_frozen BK267.out 0; have hfz11_1 := blk_frozen BK267.out 1) | ((with_reducible refine gate_callee (f := 41) rfl ?_); refine goesL_ (some 11) rfl rfl Try.func41 (by kernel_rfl) rfl #[.agg #[.int .i64 a0_0, .string a0_1]] rfl zM ?_; (with_reducible refine (impl_orderOf.calls k a0_0 a0_1 t268 true _ A4.out).mono ?_); rintro e w12 ⟨v269, rfl, ho0, hb⟩; refine ⟨_, rfl, ?_⟩; have HO270 := Aside0.mk (Kd.R_lower ho0 (below_size (zG GE267.out))); replace BK267 := Aside0.mk (blk_below (g := gb267) (o := .cells #[.int .i64 a0_0, .string a0_1] 26 (0, 0)) (zK BK267.out) hb); replace HB := Aside0.mk (below_step (zG GE267.out) hb); (try clear hb); (try clear ho0); have hcz13_0 : w12.cell? ⟨gb267, 0, none⟩ = some (.int .i64 a0_0) := (blk_cell BK267.out 0).trans rfl; have hcz13_1 : w12.cell? ⟨gb267, 1, none⟩ = some (.string a0_1) := (blk_cell BK267.out 1).trans rfl; have hfz13_0 := blk_frozen BK267.out 0; have hfz13_1 := blk_frozen BK267.out 1) | ((with_reducible refine gate_dst (N := 21) rfl ?_); (try (refine gate_guard (by rfl) ?_; dsimp only)); refine Kd.R_lit (Kd.int .i64) _ 3 ?hg (N := 21) ?hd (xs := ([a1, a2] : List Int)) (inner := [.int .i64 a1, .int .i64 a2]) (ok := fun _ => True) (okp := fun _ => True) ?hr ?hp (fun _ hk => hk) trivial (Below.refl _ _) (Nat.le_refl _) (by simp) ?_; (case hd => rfl); (case hg => rfl); (case hr => first | (go_simp; done) | (go_simp; rfl)); (case hp => exact (Reps.one (show Kd.M (Kd.int .i64) _ _ _ a1 [.int .i64 a1] from rfl) (Reps.one (show Kd.M (Kd.int .i64) _ _ _ a2 [.int .i64 a2] from rfl) (Reps.none _ _)))); intro v273 w14 ho15 hb hg_ hnew_; clear hg_ hnew_; (first | rw [← Ny272.out] at ho15 | (simp only [Int.reduceToNat] at ho15; rw [← Ny272.out] at ho15)); replace HO270 := Aside0.mk (Kd.R_below (zR HO270.out) hb); have HO274 := Aside0.mk (Kd.R_lower ho15 (below_size (zG GE267.out))); replace BK267 := Aside0.mk (blk_below (g := gb267) (o := .cells #[.int .i64 a0_0, .string a0_1] 26 (0, 0)) (zK BK267.out) hb); replace HB := Aside0.mk (below_step (zG GE267.out) hb); clear hb ho15; obtain ⟨Ao16, co16, eo16⟩ := Kd.R_slice HO274.out; subst eo16) | (go_at_call 42; (with_reducible refine (impl_areDifferent.calls k a0_0 _ _ y272 true _ ?side1 ?side2 A6.out).mono ?_); (case side1 => repeat (first | exact (Kd.R_reads' HO274.out).2.2 | (with_reducible refine Kd.C_alloc ?_ _) | (with_reducible refine Kd.C_drewN ?_ _) | (with_reducible refine Kd.C_drew ?_))); (case side2 => exact (Kd.R_reads' HO274.out).2.1); rintro e w' ⟨rfl, ⟨nd, rfl⟩⟩; obtain ⟨go17, co17, eo17, gb17, gl17, cl17, HG17⟩ := Kd.R_form HO270.out (by have hl_ := Nat.le_of_eq (Eq.symm (zA : t268.length = 344)); omega); (first | cases eo17 | (injection eo17 with ea_ en_ ec_; (first | subst ea_ | (injection ea_ with ea_; subst ea_)); subst ec_; clear en_)); have GB17 := Aside0.mk gb17; have GG17 := Aside0.mk HG17; clear gb17 gl17 HG17) | ((with_reducible refine gate_callee (f := 43) rfl ?_); refine goesL_ (some 28) rfl rfl Try.func43 (by kernel_rfl) rfl #[.pointer (some ⟨go17, 0, none⟩), .int .i64 a1, .int .i64 a2] rfl zM ?_; (with_reducible refine (impl_chi_left.calls k _ t268 a1 a2 t276 _ ?side1 ?side2 A9.out).mono ?_); (case side1 => repeat (first | exact (Kd.R_reads' HO270.out).2.2 | (with_reducible refine Kd.C_alloc ?_ _) | (with_reducible refine Kd.C_drewN ?_ _) | (with_reducible refine Kd.C_drew ?_))); (case side2 => exact (zA : t268.length = 344)); rintro e w' ⟨rfl, ⟨nd, rfl⟩⟩; refine ⟨_, rfl, ?_⟩))
    go_ret
    exact ⟨zE, zG GE267.out⟩
   ·rw [if_neg c8] at H
    exact absurd H (by simp)
  ·replace c7 := Bool.eq_false_iff.mpr c7
   subst c7
   have H1 : (some (-1)) = some r := by rw [if_neg (show ¬ (false = true) by decide)] at H; exact H
   clear H
   have H := H1
   clear H1
   obtain rfl := Option.some.inj H
   go_enter Try.func15, Try.ntmps15
   go_wp2_with (first | ((with_reducible refine gate_dst (N := 3) rfl ?_); (try (refine gate_guard (by rfl) ?_; dsimp only)); refine box_event ?hg (N := 3) ?hd (cs := #[.int .i64 a0_0, .string a0_1]) (t := 26) ?hr ?_; (case hd => rfl); (case hg => rfl); (case hr => first | (go_simp; done) | (go_simp; rfl)); intro gb267 hg w18 hbox hb; have BK267 := Aside0.mk (hbox); have GW267 := Aside0.mk ((by rw [hg]; exact (below_size zB) : w.heap.size ≤ gb267)); have GE267 := Aside0.mk ((by rw [hg]; exact (below_size zB) : w.heap.size ≤ gb267)); replace HB := Aside0.mk (below_step zB hb); clear hb hbox hg; have hcz19_0 : w18.cell? ⟨gb267, 0, none⟩ = some (.int .i64 a0_0) := (blk_cell BK267.out 0).trans rfl; have hcz19_1 : w18.cell? ⟨gb267, 1, none⟩ = some (.string a0_1) := (blk_cell BK267.out 1).trans rfl; have hfz19_0 := blk_frozen BK267.out 0; have hfz19_1 := blk_frozen BK267.out 1) | ((with_reducible refine gate_callee (f := 41) rfl ?_); refine goesL_ (some 11) rfl rfl Try.func41 (by kernel_rfl) rfl #[.agg #[.int .i64 a0_0, .string a0_1]] rfl zM ?_; (with_reducible refine (impl_orderOf.calls k a0_0 a0_1 t268 true _ A4.out).mono ?_); rintro e w20 ⟨v269, rfl, ho0, hb⟩; refine ⟨_, rfl, ?_⟩; have HO270 := Aside0.mk (Kd.R_lower ho0 (below_size (zG GE267.out))); replace BK267 := Aside0.mk (blk_below (g := gb267) (o := .cells #[.int .i64 a0_0, .string a0_1] 26 (0, 0)) (zK BK267.out) hb); replace HB := Aside0.mk (below_step (zG GE267.out) hb); (try clear hb); (try clear ho0); have hcz21_0 : w20.cell? ⟨gb267, 0, none⟩ = some (.int .i64 a0_0) := (blk_cell BK267.out 0).trans rfl; have hcz21_1 : w20.cell? ⟨gb267, 1, none⟩ = some (.string a0_1) := (blk_cell BK267.out 1).trans rfl; have hfz21_0 := blk_frozen BK267.out 0; have hfz21_1 := blk_frozen BK267.out 1) | ((with_reducible refine gate_dst (N := 21) rfl ?_); (try (refine gate_guard (by rfl) ?_; dsimp only)); refine Kd.R_lit (Kd.int .i64) _ 3 ?hg (N := 21) ?hd (xs := ([a1, a2] : List Int)) (inner := [.int .i64 a1, .int .i64 a2]) (ok := fun _ => True) (okp := fun _ => True) ?hr ?hp (fun _ hk => hk) trivial (Below.refl _ _) (Nat.le_refl _) (by simp) ?_; (case hd => rfl); (case hg => rfl); (case hr => first | (go_simp; done) | (go_simp; rfl)); (case hp => exact (Reps.one (show Kd.M (Kd.int .i64) _ _ _ a1 [.int .i64 a1] from rfl) (Reps.one (show Kd.M (Kd.int .i64) _ _ _ a2 [.int .i64 a2] from rfl) (Reps.none _ _)))); intro v273 w22 ho23 hb hg_ hnew_; clear hg_ hnew_; (first | rw [← Ny272.out] at ho23 | (simp only [Int.reduceToNat] at ho23; rw [← Ny272.out] at ho23)); replace HO270 := Aside0.mk (Kd.R_below (zR HO270.out) hb); have HO274 := Aside0.mk (Kd.R_lower ho23 (below_size (zG GE267.out))); replace BK267 := Aside0.mk (blk_below (g := gb267) (o := .cells #[.int .i64 a0_0, .string a0_1] 26 (0, 0)) (zK BK267.out) hb); replace HB := Aside0.mk (below_step (zG GE267.out) hb); clear hb ho23; obtain ⟨Ao24, co24, eo24⟩ := Kd.R_slice HO274.out; subst eo24) | (go_at_call 42; (with_reducible refine (impl_areDifferent.calls k a0_0 _ _ y272 false _ ?side1 ?side2 A6.out).mono ?_); (case side1 => repeat (first | exact (Kd.R_reads' HO274.out).2.2 | (with_reducible refine Kd.C_alloc ?_ _) | (with_reducible refine Kd.C_drewN ?_ _) | (with_reducible refine Kd.C_drew ?_))); (case side2 => exact (Kd.R_reads' HO274.out).2.1); rintro e w' ⟨rfl, ⟨nd, rfl⟩⟩))
   go_ret
   exact ⟨zE, zG GE267.out⟩
 ·replace c5 := Bool.eq_false_iff.mpr c5
  subst c5
  have H1 : (some (-1)) = some r := by rw [if_neg (show ¬ (false = true) by decide)] at H; exact H
  clear H
  have H := H1
  clear H1
  obtain rfl := Option.some.inj H
  go_enter Try.func15, Try.ntmps15
  go_wp2_with (first | ((with_reducible refine gate_dst (N := 3) rfl ?_); (try (refine gate_guard (by rfl) ?_; dsimp only)); refine box_event ?hg (N := 3) ?hd (cs := #[.int .i64 a0_0, .string a0_1]) (t := 26) ?hr ?_; (case hd => rfl); (case hg => rfl); (case hr => first | (go_simp; done) | (go_simp; rfl)); intro gb267 hg w25 hbox hb; have BK267 := Aside0.mk (hbox); have GW267 := Aside0.mk ((by rw [hg]; exact (below_size zB) : w.heap.size ≤ gb267)); have GE267 := Aside0.mk ((by rw [hg]; exact (below_size zB) : w.heap.size ≤ gb267)); replace HB := Aside0.mk (below_step zB hb); clear hb hbox hg; have hcz26_0 : w25.cell? ⟨gb267, 0, none⟩ = some (.int .i64 a0_0) := (blk_cell BK267.out 0).trans rfl; have hcz26_1 : w25.cell? ⟨gb267, 1, none⟩ = some (.string a0_1) := (blk_cell BK267.out 1).trans rfl; have hfz26_0 := blk_frozen BK267.out 0; have hfz26_1 := blk_frozen BK267.out 1) | ((with_reducible refine gate_callee (f := 41) rfl ?_); refine goesL_ (some 11) rfl rfl Try.func41 (by kernel_rfl) rfl #[.agg #[.int .i64 a0_0, .string a0_1]] rfl zM ?_; (with_reducible refine (impl_orderOf.calls k a0_0 a0_1 t268 false _ A4.out).mono ?_); rintro e w27 ⟨v269, rfl, ho0, hb⟩; refine ⟨_, rfl, ?_⟩; have HO270 := Aside0.mk (Kd.R_lower ho0 (below_size (zG GE267.out))); replace BK267 := Aside0.mk (blk_below (g := gb267) (o := .cells #[.int .i64 a0_0, .string a0_1] 26 (0, 0)) (zK BK267.out) hb); replace HB := Aside0.mk (below_step (zG GE267.out) hb); (try clear hb); (try clear ho0)))
  go_ret
  exact ⟨zE, zG GE267.out⟩
/-! ### laws_FnExactLeftCount: function 3 -/
def laws_FnExactLeftCount.f (k : Nat) (a0_0 : Int) (a0_1 : ByteArray) (a1 : Int) (a2 : Int) : Option (Bool) := (laws_szSigns.f a0_0 a0_1 1048576).bind fun t278 => (if t278 < 0 then (some true) else ((laws_toSigns.f a0_0 a0_1).bind fun bt279 => ((spec_LeftCount.f k bt279.1 bt279.2 a1 a2).bind fun t281 => ((laws_toSigns.f a0_0 a0_1).bind fun bt282 => ((impl_LeftCount.f k bt282.1 bt282.2 a1 a2).bind fun t284 => (if t284 = t281 then (some true) else (some false)))))))
theorem laws_FnExactLeftCount.mono : ∀ a0 a1 a2 a3 k, LeO (laws_FnExactLeftCount.f k a0 a1 a2 a3) (laws_FnExactLeftCount.f (k + 1) a0 a1 a2 a3) := by
 intro a0 a1 a2 a3 k
 unfold laws_FnExactLeftCount.f
 repeat' first
   | (with_reducible exact impl_LeftCount.mono _ _ _ _ _)
   | (with_reducible exact spec_LeftCount.mono _ _ _ _ _)
   | (with_reducible exact LeO.refl _)
   | (with_reducible exact LeO.none _)
   | (with_reducible refine LeO.ite ?_ ?_)
   | (with_reducible refine LeO.bind ?_ (fun _ => ?_))
   | exact impl_LeftCount.mono _ _ _ _ _
   | exact spec_LeftCount.mono _ _ _ _ _
   | exact LeO.none _
   | refine LeO.ite ?_ ?_
   | refine LeO.bind ?_ (fun _ => ?_)
set_option maxHeartbeats 8000000 in
set_option maxRecDepth 100000 in
theorem laws_FnExactLeftCount.calls (k : Nat) (a0_0 : Int) (a0_1 : ByteArray) (a1 : Int) (a2 : Int) (r : Bool) (w : World) (h : laws_FnExactLeftCount.f k a0_0 a0_1 a1 a2 = some r) (hr_ : r = true) :
  Calls Try.prog 3 #[.agg #[.int .i64 a0_0, .string a0_1], .int .i64 a1, .int .i64 a2] w fun e w' => e = .returned (.bool r) ∧ Below w.heap.size w w' := by
 have hu23 := Try.underlying23
 have HB := Aside0.mk (Below.refl w.heap.size w)
 have H : ((laws_szSigns.f a0_0 a0_1 1048576).bind fun t278 => (if t278 < 0 then (some true) else ((laws_toSigns.f a0_0 a0_1).bind fun bt279 => ((spec_LeftCount.f k bt279.1 bt279.2 a1 a2).bind fun t281 => ((laws_toSigns.f a0_0 a0_1).bind fun bt282 => ((impl_LeftCount.f k bt282.1 bt282.2 a1 a2).bind fun t284 => (if t284 = t281 then (some true) else (some false)))))))) = some r := h
 clear h
 replace H := Option.bind_eq_some_iff.mp H
 obtain ⟨t278, A40, H⟩ := H
 replace H : (if t278 < 0 then (some true) else ((laws_toSigns.f a0_0 a0_1).bind fun bt279 => ((spec_LeftCount.f k bt279.1 bt279.2 a1 a2).bind fun t281 => ((laws_toSigns.f a0_0 a0_1).bind fun bt282 => ((impl_LeftCount.f k bt282.1 bt282.2 a1 a2).bind fun t284 => (if t284 = t281 then (some true) else (some false))))))) = some r := H
 have A4 := Aside0.mk A40
 clear A40
 by_cases c5 : t278 < 0
 ·rw [if_pos c5] at H
  have c5b0 : decide (t278 < 0) = true := decide_eq_true c5
  clear c5
  obtain rfl := Option.some.inj H
  go_enter Try.func3, Try.ntmps3
  go_wp2_with (first | ((with_reducible refine gate_dst (N := 3) rfl ?_); refine box_event ?hg (N := 3) ?hd (cs := #[.int .i64 a0_0, .string a0_1]) (t := 23) ?hr ?_; (case hd => rfl); (case hg => rfl); (case hr => first | (go_simp; done) | (go_simp; rfl)); intro gb277 hg w6 hbox hb; have BK277 := Aside0.mk (hbox); have GW277 := Aside0.mk ((by rw [hg]; exact (below_size zB) : w.heap.size ≤ gb277)); have GE277 := Aside0.mk ((by rw [hg]; exact (below_size zB) : w.heap.size ≤ gb277)); replace HB := Aside0.mk (below_step zB hb); clear hb hbox hg; have hcz7_0 : w6.cell? ⟨gb277, 0, none⟩ = some (.int .i64 a0_0) := (blk_cell BK277.out 0).trans rfl; have hcz7_1 : w6.cell? ⟨gb277, 1, none⟩ = some (.string a0_1) := (blk_cell BK277.out 1).trans rfl; have hfz7_0 := blk_frozen BK277.out 0; have hfz7_1 := blk_frozen BK277.out 1) | ((with_reducible refine gate_callee (f := 12) rfl ?_); refine goesL_ (some 12) rfl rfl Try.func12 (by kernel_rfl) rfl #[.agg #[.int .i64 a0_0, .string a0_1], .int .i64 1048576] rfl zM ?_; (with_reducible refine (laws_szSigns.calls a0_0 a0_1 1048576 t278 _ A4.out).mono ?_); rintro e w8 ⟨rfl, hb⟩; refine ⟨_, rfl, ?_⟩; replace BK277 := Aside0.mk (blk_below (g := gb277) (o := .cells #[.int .i64 a0_0, .string a0_1] 23 (0, 0)) (zK BK277.out) hb); replace HB := Aside0.mk (below_step (zG GE277.out) hb); (try clear hb)))
  go_ret
  exact ⟨zE, zG GE277.out⟩
 ·rw [if_neg c5] at H
  have c5b0 : decide (t278 < 0) = false := decide_eq_false c5
  clear c5
  replace H := Option.bind_eq_some_iff.mp H
  obtain ⟨⟨t279, t280⟩, A90, H⟩ := H
  replace H : ((spec_LeftCount.f k t279 t280 a1 a2).bind fun t281 => ((laws_toSigns.f a0_0 a0_1).bind fun bt282 => ((impl_LeftCount.f k bt282.1 bt282.2 a1 a2).bind fun t284 => (if t284 = t281 then (some true) else (some false))))) = some r := H
  have A9 := Aside0.mk A90
  clear A90
  replace H := Option.bind_eq_some_iff.mp H
  obtain ⟨t281, A100, H⟩ := H
  replace H : ((laws_toSigns.f a0_0 a0_1).bind fun bt282 => ((impl_LeftCount.f k bt282.1 bt282.2 a1 a2).bind fun t284 => (if t284 = t281 then (some true) else (some false)))) = some r := H
  have A10 := Aside0.mk A100
  clear A100
  replace H := Option.bind_eq_some_iff.mp H
  obtain ⟨⟨t282, t283⟩, A110, H⟩ := H
  replace H : ((impl_LeftCount.f k t282 t283 a1 a2).bind fun t284 => (if t284 = t281 then (some true) else (some false))) = some r := H
  have A11 := Aside0.mk A110
  clear A110
  replace H := Option.bind_eq_some_iff.mp H
  obtain ⟨t284, A120, H⟩ := H
  replace H : (if t284 = t281 then (some true) else (some false)) = some r := H
  have A12 := Aside0.mk A120
  clear A120
  by_cases c13 : t284 = t281
  ·rw [if_pos c13] at H
   have c13b0 : (t284 == t281) = true := beq_iff_eq.mpr c13
   have c13b1 : (t284 != t281) = false := bne_eq_false_iff_eq.mpr c13
   clear c13
   obtain rfl := Option.some.inj H
   go_enter Try.func3, Try.ntmps3
   go_wp2_with (first | ((with_reducible refine gate_dst (N := 3) rfl ?_); refine box_event ?hg (N := 3) ?hd (cs := #[.int .i64 a0_0, .string a0_1]) (t := 23) ?hr ?_; (case hd => rfl); (case hg => rfl); (case hr => first | (go_simp; done) | (go_simp; rfl)); intro gb277 hg w14 hbox hb; have BK277 := Aside0.mk (hbox); have GW277 := Aside0.mk ((by rw [hg]; exact (below_size zB) : w.heap.size ≤ gb277)); have GE277 := Aside0.mk ((by rw [hg]; exact (below_size zB) : w.heap.size ≤ gb277)); replace HB := Aside0.mk (below_step zB hb); clear hb hbox hg; have hcz15_0 : w14.cell? ⟨gb277, 0, none⟩ = some (.int .i64 a0_0) := (blk_cell BK277.out 0).trans rfl; have hcz15_1 : w14.cell? ⟨gb277, 1, none⟩ = some (.string a0_1) := (blk_cell BK277.out 1).trans rfl; have hfz15_0 := blk_frozen BK277.out 0; have hfz15_1 := blk_frozen BK277.out 1) | ((with_reducible refine gate_callee (f := 12) rfl ?_); refine goesL_ (some 12) rfl rfl Try.func12 (by kernel_rfl) rfl #[.agg #[.int .i64 a0_0, .string a0_1], .int .i64 1048576] rfl zM ?_; (with_reducible refine (laws_szSigns.calls a0_0 a0_1 1048576 t278 _ A4.out).mono ?_); rintro e w16 ⟨rfl, hb⟩; refine ⟨_, rfl, ?_⟩; replace BK277 := Aside0.mk (blk_below (g := gb277) (o := .cells #[.int .i64 a0_0, .string a0_1] 23 (0, 0)) (zK BK277.out) hb); replace HB := Aside0.mk (below_step (zG GE277.out) hb); (try clear hb); have hcz17_0 : w16.cell? ⟨gb277, 0, none⟩ = some (.int .i64 a0_0) := (blk_cell BK277.out 0).trans rfl; have hcz17_1 : w16.cell? ⟨gb277, 1, none⟩ = some (.string a0_1) := (blk_cell BK277.out 1).trans rfl; have hfz17_0 := blk_frozen BK277.out 0; have hfz17_1 := blk_frozen BK277.out 1) | ((with_reducible refine gate_callee (f := 14) rfl ?_); refine goesL_ (some 16) rfl rfl Try.func14 (by kernel_rfl) rfl #[.agg #[.int .i64 a0_0, .string a0_1]] rfl zM ?_; (with_reducible refine (laws_toSigns.calls a0_0 a0_1 t279 t280 _ A9.out).mono ?_); rintro e w18 ⟨rfl, hb⟩; refine ⟨_, rfl, ?_⟩; replace BK277 := Aside0.mk (blk_below (g := gb277) (o := .cells #[.int .i64 a0_0, .string a0_1] 23 (0, 0)) (zK BK277.out) hb); replace HB := Aside0.mk (below_step (zG GE277.out) hb); (try clear hb)) | ((with_reducible refine gate_callee (f := 13) rfl ?_); refine goesL_ (some 19) rfl rfl Try.func13 (by kernel_rfl) rfl #[.agg #[.int .i64 t279, .string t280], .int .i64 a1, .int .i64 a2] rfl zM ?_; (with_reducible refine (spec_LeftCount.calls k t279 t280 a1 a2 t281 _ A10.out).mono ?_); rintro e w19 ⟨rfl, hb⟩; refine ⟨_, rfl, ?_⟩; replace BK277 := Aside0.mk (blk_below (g := gb277) (o := .cells #[.int .i64 a0_0, .string a0_1] 23 (0, 0)) (zK BK277.out) hb); replace HB := Aside0.mk (below_step (zG GE277.out) hb); (try clear hb); have hcz20_0 : w19.cell? ⟨gb277, 0, none⟩ = some (.int .i64 a0_0) := (blk_cell BK277.out 0).trans rfl; have hcz20_1 : w19.cell? ⟨gb277, 1, none⟩ = some (.string a0_1) := (blk_cell BK277.out 1).trans rfl; have hfz20_0 := blk_frozen BK277.out 0; have hfz20_1 := blk_frozen BK277.out 1) | ((with_reducible refine gate_callee (f := 14) rfl ?_); refine goesL_ (some 21) rfl rfl Try.func14 (by kernel_rfl) rfl #[.agg #[.int .i64 a0_0, .string a0_1]] rfl zM ?_; (with_reducible refine (laws_toSigns.calls a0_0 a0_1 t282 t283 _ A11.out).mono ?_); rintro e w21 ⟨rfl, hb⟩; refine ⟨_, rfl, ?_⟩; replace BK277 := Aside0.mk (blk_below (g := gb277) (o := .cells #[.int .i64 a0_0, .string a0_1] 23 (0, 0)) (zK BK277.out) hb); replace HB := Aside0.mk (below_step (zG GE277.out) hb); (try clear hb)) | ((with_reducible refine gate_callee (f := 15) rfl ?_); refine goesL_ (some 24) rfl rfl Try.func15 (by kernel_rfl) rfl #[.agg #[.int .i64 t282, .string t283], .int .i64 a1, .int .i64 a2] rfl zM ?_; (with_reducible refine (impl_LeftCount.calls k t282 t283 a1 a2 t284 _ A12.out).mono ?_); rintro e w22 ⟨rfl, hb⟩; refine ⟨_, rfl, ?_⟩; replace BK277 := Aside0.mk (blk_below (g := gb277) (o := .cells #[.int .i64 a0_0, .string a0_1] 23 (0, 0)) (zK BK277.out) hb); replace HB := Aside0.mk (below_step (zG GE277.out) hb); (try clear hb)))
   go_ret
   exact ⟨zE, zG GE277.out⟩
  ·rw [if_neg c13] at H
   have c13b0 : (t284 == t281) = false := beq_eq_false_iff_ne.mpr c13
   have c13b1 : (t284 != t281) = true := bne_iff_ne.mpr c13
   obtain rfl := Option.some.inj H
   cases hr_
end Go.Proofs.Ytbjncemaeagjjaa.PX
namespace Go.Proofs.Ytbjncemaeagjjaa.M
open Go.RowKit Go.Proofs.YtbjncemaeagjjaaW.PrintWords Go.Proofs.Ytbjncemaeagjjaa.PX
theorem take_contains (l : List Int) (i : Nat) (hi : i ≤ l.length) (y : Int) : (l.take i).contains y = (List.range' 0 (i - 0)).any fun j => decide (y = l.getD j 0) := by
  have e : l.take i = (List.range i).map fun j => l.getD j 0 := by
    refine List.ext_getElem (by rw [List.length_take, List.length_map, List.length_range]; omega) fun k h1 h2 => ?_
    rw [List.length_take] at h1
    simp only [List.getElem_take, List.getElem_map, List.getElem_range]
    rw [List.getD_eq_getElem?_getD, List.getElem?_eq_getElem (by omega)]
    rfl
  rw [e, Nat.sub_zero, ← List.range_eq_range', List.contains_eq_any_beq, List.any_map]
  rfl
theorem dif5_ev {n : Int} (h0 : 3 ≤ n) (h1 : n ≤ 7) (l : List Int) (hl : l.length ≤ 1000000) : Ev (fun k => spec_l5Different.f k n l) (areD n l) := by
  unfold spec_l5Different.f
  have key := loop_up (σ := Unit) (ρ := Bool) (lo := 0) (n := l.length) (K := fun _ _ => some true) (L := fun i _ k => spec_l5Different.l0 k n l i)
    (fun _ i => if (inR n (l.getD i 0) && !((l.take i).contains (l.getD i 0))) = false then .error false else .ok ()) (fun u => ?_) (fun i _ hi u => ?_) (by omega) ()
  · have e := foldlM_any (ρ := Bool) (fun i => !(inR n (l.getD i 0) && !((l.take i).contains (l.getD i 0)))) false (List.range' 0 (l.length - 0))
    have e2 : (fun (_ : Unit) (a : Nat) => if (!(inR n (l.getD a 0) && !((l.take a).contains (l.getD a 0)))) = true then (.error false : Except Bool Unit) else .ok ()) = fun (_ : Unit) (i : Nat) => if (inR n (l.getD i 0) && !((l.take i).contains (l.getD i 0))) = false then .error false else .ok () := by
      funext _ i
      cases inR n (l.getD i 0) && !((l.take i).contains (l.getD i 0)) <;> rfl
    rw [e2] at e
    rw [e] at key
    have e3 : areD n l = !((List.range' 0 (l.length - 0)).any fun i => !(inR n (l.getD i 0) && !((l.take i).contains (l.getD i 0)))) := by
      unfold areD
      rw [Nat.sub_zero, ← List.range_eq_range', List.not_any_eq_all_not]
      simp only [Bool.not_not]
    rw [e3]
    cases hq : (List.range' 0 (l.length - 0)).any fun i => !(inR n (l.getD i 0) && !((l.take i).contains (l.getD i 0))) with
    | true => rw [hq] at key; exact key
    | false => rw [hq] at key; exact key _ (Ev.now _)
  · refine Goes.step ?_
    simp only [spec_l5Different.l0]
    exact Goes.neg (by omega) (Goes.ok (K := fun _ _ => some true) u)
  · have hr : ∀ j : Nat, rd l (j : Int) = l.getD j 0 := fun j => by unfold rd; rw [Int.toNat_natCast]
    refine Goes.step ?_
    simp only [spec_l5Different.l0, hr]
    refine Goes.pos (by omega) (Goes.pos (by omega) (Goes.call (spec_in _ _ _) ?_))
    rw [wrap_id (by omega) (by omega)]
    cases hin : inR n (l.getD i 0) with
    | false =>
      simp only [inR, Bool.and_eq_false_iff, decide_eq_false_iff_not] at hin
      refine Goes.neg ?_ (Goes.ret _)
      simp only [Bool.and_eq_true, decide_eq_true_eq]
      omega
    | true =>
      simp only [inR, Bool.and_eq_true, decide_eq_true_eq] at hin
      refine Goes.pos (by simp only [Bool.and_eq_true, decide_eq_true_eq]; omega) ?_
      rw [Bool.true_and, take_contains l i (by omega)]
      have inner := loop_up (σ := Unit) (ρ := Bool) (lo := 0) (n := i) (K := fun _ k => spec_l5Different.l0 k n l ((i + 1 : Nat) : Int)) (L := fun j _ k => spec_l5Different.l1 k n l (i : Int) j)
        (fun _ j => if decide (l.getD i 0 = l.getD j 0) then .error false else .ok ()) (fun u => ?_) (fun j _ hj u => ?_) (by omega) ()
      · rw [foldlM_any (ρ := Bool) (fun j => decide (l.getD i 0 = l.getD j 0)) false (List.range' 0 (i - 0))] at inner
        refine Goes.cast inner ?_
        cases (List.range' 0 (i - 0)).any fun j => decide (l.getD i 0 = l.getD j 0) <;> rfl
      · refine Goes.step ?_
        simp only [spec_l5Different.l1]
        refine Goes.neg (by omega) ?_
        rw [wrap_id (by omega) (by omega)]
        exact Goes.ok (K := fun _ k => spec_l5Different.l0 k n l ((i + 1 : Nat) : Int)) u
      · refine Goes.step ?_
        simp only [spec_l5Different.l1, hr]
        refine Goes.pos (by omega) (Goes.pos (by omega) (Goes.pos (by omega) (Goes.pos (by omega) (Goes.pos (by omega) ?_))))
        rw [wrap_id (by omega) (by omega)]
        by_cases g : l.getD i 0 = l.getD j 0
        · rw [decide_eq_true g]
          exact Goes.pos g (Goes.ret _)
        · rw [decide_eq_false g]
          exact Goes.neg g (Goes.ok (K := fun _ k => spec_l5Different.l1 k n l (i : Int) ((j + 1 : Nat) : Int)) u)
end Go.Proofs.Ytbjncemaeagjjaa.M
namespace Go.Proofs.Ytbjncemaeagjjaa.M
open Go.RowKit Go.Proofs.YtbjncemaeagjjaaW.PrintWords Go.Proofs.Ytbjncemaeagjjaa.PX Go.Proofs.Ytbjncemaeagjjaa.G Go.Proofs.YtbjncemaeagjjaaW.PrintMore
/-- What LeftCount answers. -/
def leftA (n : Int) (t : ByteArray) (i j : Int) : Int := if acyOk n t = true ∧ areD n [i, j] = true then (leftV n.toNat t i.toNat j.toNat : Int) else -1
theorem areD2 {n i j : Int} (h : areD n [i, j] = true) : (0 ≤ i ∧ i < n) ∧ (0 ≤ j ∧ j < n) ∧ i ≠ j := by
  simp only [areD, inR, List.length_cons, List.length_nil, List.all_eq_true, List.mem_range, Bool.and_eq_true, decide_eq_true_eq, Bool.not_eq_true'] at h
  have h0 := h 0 (by omega)
  have h1 := h 1 (by omega)
  refine ⟨h0.1, h1.1, fun e => ?_⟩
  have := h1.2
  subst e
  simp at this
theorem impl_leftC (n : Int) (t : ByteArray) (i j : Int) (hs : t.size ≤ 9223372036854775807) : Ev (fun k => impl_LeftCount.f k n t i j) (leftA n t i j) := by
  unfold impl_LeftCount.f leftA
  refine Ev.bind (order_ev n t hs) ?_
  by_cases h : acyOk n t = true
  · rw [if_pos h]
    obtain ⟨N, rfl, ha, h3, h7⟩ := acy_are h
    refine ev_pos rfl (Ev.bind (different_ev _ _ (by simp only [List.length_cons, List.length_nil]; omega)) ?_)
    by_cases g : areD N [i, j] = true
    · rw [if_pos ⟨h, g⟩]
      obtain ⟨⟨i0, i1⟩, ⟨j0, j1⟩, _⟩ := areD2 g
      obtain ⟨I, rfl⟩ := Int.eq_ofNat_of_zero_le i0
      obtain ⟨J, rfl⟩ := Int.eq_ofNat_of_zero_le j0
      exact ev_pos g (ev_pos (tblL_length _ _) (Ev.bind (impl_left ha (by omega) (by omega)) (Ev.now _)))
    · rw [if_neg (fun x => g x.2)]
      exact ev_neg g (Ev.now _)
  · rw [if_neg h, if_neg (fun x => h x.1)]
    exact ev_neg (by decide) (Ev.now _)
theorem spec_leftC (n : Int) (t : ByteArray) (i j : Int) (hs : t.size ≤ 9223372036854775807) : Ev (fun k => spec_LeftCount.f k n t i j) (leftA n t i j) := by
  unfold spec_LeftCount.f leftA
  refine Ev.bind (spec_isA n t hs) ?_
  by_cases h : acyOk n t = true
  · obtain ⟨N, rfl, ha, h3, h7⟩ := acy_are h
    refine ev_pos h (Ev.bind (dif5_ev (by omega) (by omega) _ (by simp only [List.length_cons, List.length_nil]; omega)) ?_)
    by_cases g : areD N [i, j] = true
    · rw [if_pos ⟨h, g⟩]
      obtain ⟨⟨i0, i1⟩, ⟨j0, j1⟩, ne⟩ := areD2 g
      obtain ⟨I, rfl⟩ := Int.eq_ofNat_of_zero_le i0
      obtain ⟨J, rfl⟩ := Int.eq_ofNat_of_zero_le j0
      exact ev_pos g (Ev.bind (spec_left ha (by omega) (by omega) (by omega)) (Ev.now _))
    · rw [if_neg (fun x => g x.2)]
      exact ev_neg g (Ev.now _)
  · rw [if_neg (fun x => h x.1)]
    exact ev_neg h (Ev.now _)
end Go.Proofs.Ytbjncemaeagjjaa.M
namespace Go.Proofs.Ytbjncemaeagjjaa.Pure
open Go.RowKit Go.Proofs.YtbjncemaeagjjaaW.PrintWords Go.Proofs.Ytbjncemaeagjjaa.PX Go.Proofs.Ytbjncemaeagjjaa.M
theorem FnExactLeftCount (n : Int) (t : ByteArray) (i : Int) (j : Int) (_ : (Lit.int .i64 n).wf = true) (hs : t.size ≤ 9223372036854775807) (_ : (Lit.int .i64 i).wf = true) (_ : (Lit.int .i64 j).wf = true) :
    ∃ k, laws_FnExactLeftCount.f k n t i j = some true := by
  refine Ev.rounds (r := true) ?_
  unfold laws_FnExactLeftCount.f
  obtain ⟨r, hr⟩ := sz_signs n t
  refine ev_call hr ?_
  by_cases h : r < 0
  · exact ev_pos h (Ev.now _)
  · exact ev_neg h (ev_call (a := (n, t)) rfl (Ev.bind (spec_leftC n t i j hs) (ev_call (a := (n, t)) rfl (Ev.bind (impl_leftC n t i j hs) (ev_pos rfl (Ev.now _))))))
end Go.Proofs.Ytbjncemaeagjjaa.Pure
namespace Go.Proofs.Ytbjncemaeagjjaa.fnExactLeftCount
open Go.ChangeShapes Go.WideShapes Go.ChangeAt Go.RowKit Go.Joins
open Go.ChangeMaps (open_string shut_string)
set_option linter.unusedVariables false
theorem own : ownKnob Try.prog.godebug = none := by kernel_rfl
theorem str_mk {H : Type} {enc : TypeId × Value → H} {P : Program} {w : World} {base : Nat} {spare : Nat → Bool} {held : Bool} {t : TypeId} {s : ByteArray} (ht : P.underlying t = some .string) (hs : s.size ≤ maxLen) : DataW.trod enc P w base spare held 1 t [.string s] = some (.lit (.string s.data.toList), []) := by
  simp [DataW.trod, ht, hs]
set_option maxRecDepth 100000 in
theorem lifted (os : Os) (started : os.Started) (H : Type) (enc : TypeId × Value → H) :
    ReturnsInHanded {} Try.checked os 3 .any (Rows.fnExactLeftCountSpec.pre6 enc Try.prog Try.f3 Rows.fnExactLeftCountRow.domain false) (Rows.fnExactLeftCountSpec.post enc Try.prog Try.f3 false true false false) := by
  refine returnsInHanded_of_change_sized (C := Try.checked) own started (by kernel_rfl) Try.func3
    (ChangeSpec.witness6 (enc := enc) (C := Try.checked) false ⟨#[], #[.agg #[.int .i64 0, .string ByteArray.empty], .int .i64 0, .int .i64 0], []⟩ 8 (by kernel_rfl) (by kernel_rfl) (by kernel_rfl) (by kernel_rfl)) ?_
  intro W base args ds gs before hval0 hW hcnd hsz0 _
  have hsz : (DataW.weightsEach Try.prog (Try.f3.params.toList ++ Rows.fnExactLeftCountSpec.plain.varTypes Try.prog) (ds ++ gs)).all (· ≤ reachBytes) = true := hsz0
  have hval : ∀ (j : Nat) t v, Try.f3.params[j]? = some t → args[j]? = some v → Value.okWide Try.prog W .any base t v := hval0
  have hW' := hW
  obtain ⟨p, q, hA0, hV, rfl, hfz, hnd⟩ := hW
  have hA : DataW.TrodAll enc Try.prog W 0 (fun _ => true) true Try.f3.params.toList args.toList ds p := hA0
  rw [Try.params3] at hA hval hsz
  obtain ⟨v0, vs0, d0, ds0, p0, q0, hargs, rfl, rfl, h0, r0⟩ := trodAll_cons hA
  obtain ⟨v1, vs1, d1, ds1, p1, q1, rfl, rfl, rfl, h1, r1⟩ := trodAll_cons r0
  obtain ⟨v2, vs2, d2, ds2, p2, q2, rfl, rfl, rfl, h2, r2⟩ := trodAll_cons r1
  obtain ⟨rfl, rfl, rfl⟩ := trodAll_nil r2
  obtain rfl : args = #[v0, v1, v2] := by cases args; simp_all
  obtain ⟨rfl, rfl⟩ := trodVars_none hV
  obtain ⟨c0_0, c0_1, y0_0, y0_1, m0, rfl, rfl, rfl, hy0_0, hy0_1⟩ := open_agg2 Try.underlying23 (by kernel_rfl) (by kernel_rfl) (hval 0 23 v0 rfl rfl) h0
  obtain ⟨a0_0, e0_0, rfl, wa0⟩ := DataW.trod_int Try.underlying3 hy0_0
  obtain ⟨a0_1, e0_1, rfl, ws0⟩ := DataW.trod_string Try.underlying9 hy0_1
  simp only [List.cons.injEq, and_true] at e0_0 e0_1
  subst e0_0 e0_1
  obtain ⟨a1, rfl, rfl, rfl, w1⟩ := open_int Try.underlying3 (hval 1 3 v1 rfl rfl) h1
  obtain ⟨a2, rfl, rfl, rfl, w2⟩ := open_int Try.underlying3 (hval 2 3 v2 rfl rfl) h2
  clear hA0 hval0 hsz0 hsz
  obtain ⟨k, hP⟩ := Pure.FnExactLeftCount a0_0 a0_1 a1 a2 wa0 ws0 w1 w2
  refine (PX.laws_FnExactLeftCount.calls k a0_0 a0_1 a1 a2 true W hP rfl).mono fun e W' ⟨he, bel⟩ => ?_
  subst he
  exact ⟨_, rfl, _, _, _, [], _, [], hW', trodAll_mk1 (shut_bool Try.underlying4 _), (trodAll_cons_mk (shut_agg2 Try.underlying23 (by kernel_rfl) (by kernel_rfl) ⟨_, trod_int_mk 0 Try.underlying3 wa0⟩ ⟨_, str_mk Try.underlying9 ws0⟩) (trodAll_cons_mk (shut_int Try.underlying3 w1) (trodAll_cons_mk (shut_int Try.underlying3 w2) trodAll_mk0))), rfl, bel.frame _, fun h => by cases h⟩
theorem over : Rows.fnExactLeftCountRow.holds Try.pinned (OpenSpec.ofChange Rows.fnExactLeftCountSpec) :=
  OpenClaim.holds_of_wide 3 Try.f3 rfl rfl rfl rfl rfl rfl rfl ⟨rfl, rfl, rfl, rfl, rfl⟩ rfl rfl rfl rfl rfl (by kernel_rfl) Try.func3 (by kernel_rfl)
    (of_decide_eq_true (by kernel_rfl)) (by unfold Func.isWrapper; first | (rw [if_pos (by decide +kernel)]; kernel_rfl) | (rw [if_neg (by decide +kernel)]; exact ⟨rfl, rfl⟩))
    (fun os started H enc _ => lifted os started H enc)
theorem proved : Rows.FnExactLeftCountSaid := over
#print axioms proved
end Go.Proofs.Ytbjncemaeagjjaa.fnExactLeftCount
namespace Go.Proofs.Ytbjncemaeagjjaa
/-- The row, under a short name, for the claim. -/
theorem fnExactLeftCount_holds : Rows.FnExactLeftCountSaid := fnExactLeftCount.proved
end Go.Proofs.Ytbjncemaeagjjaa
