/- A part of proofs about signs and points: what some functions answer, and that their calls answer so. No condition. -/
import Derived.Test.YthhgcdfdjlijjaaDoorProg
import Derived.Test.YthhgcdfdjlijjaaDoorV1
import Derived.Test.YthhgcdfdjlijjaaDoorBexgqmu1
set_option linter.unusedVariables false
set_option linter.unusedSimpArgs false
namespace Go.Proofs.YthhgcdfdjlijjaaDoor.PX
open Go.RowKit Go.Proofs.YthhgcdfdjlijjaaDoor.G Go.Proofs.YthhgcdfdjlijjaaDoorW.PrintWords Go.Proofs.YthhgcdfdjlijjaaDoorW.PrintLast Go.Proofs.YthhgcdfdjlijjaaDoorW.PrintMore
attribute [local go_sem] max2_int min2_int max_two min_two max_three min_three max_four min_four   -- for this text's walks alone
set_option linter.unusedVariables false
set_option linter.unusedSimpArgs false
/-! ### spec_l1Read: function 45 -/
mutual
def spec_l1Read.j0 : Nat → ByteArray → Int → Bool → Option (Int × Bool)
 | 0, _, _, _ => none
 | k + 1, x0, x1, x6 => if x6 = true then (if 1 ≤ (x0.size : Int) then (spec_l1Read.j1 k x0 x1 x6 (x0.extract 1 x0.size)) else (none)) else (spec_l1Read.j1 k x0 x1 x6 x0)
def spec_l1Read.j1 : Nat → ByteArray → Int → Bool → ByteArray → Option (Int × Bool)
 | 0, _, _, _, _ => none
 | k + 1, x0, x1, x6, x7 => if (x7.size : Int) < 1 then (spec_l1Read.j2 k x0 x6 x7 true) else (spec_l1Read.j2 k x0 x6 x7 (decide ((x7.size : Int) > x1)))
def spec_l1Read.j2 : Nat → ByteArray → Bool → ByteArray → Bool → Option (Int × Bool)
 | 0, _, _, _, _ => none
 | k + 1, x0, x6, x7, x30 => if x30 = true then (some (0, false)) else (spec_l1Read.l0 k x0 x6 x7 0 0)
def spec_l1Read.l0 : Nat → ByteArray → Bool → ByteArray → Int → Int → Option (Int × Bool)
 | 0, _, _, _, _, _ => none
 | k + 1, x0, x6, x7, x8, x9 => if x9 < (x7.size : Int) then (if 0 ≤ x9 then (if (bt x7 x9) < 48 then (some (0, false)) else (if (bt x7 x9) > 57 then (some (0, false)) else (spec_l1Read.l0 k x0 x6 x7 (wrap64 ((wrap64 (10 * x8)) + (((bt x7 x9) - 48) % 256))) (wrap64 (x9 + 1))))) else (none)) else (if x6 = true then ((spec_FormatInt.f k (wrap64 (-x8))).bind fun t254 => (if t254.toList = x0.toList then (some (wrap64 (-x8), true)) else (some (0, false)))) else ((spec_FormatInt.f k x8).bind fun t255 => (if t255.toList = x0.toList then (some (x8, true)) else (some (0, false)))))
end
def spec_l1Read.f (k : Nat) (a0 : ByteArray) (a1 : Int) : Option (Int × Bool) := if (a0.size : Int) > 0 then (if 0 < (a0.size : Int) then (spec_l1Read.j0 k a0 a1 ((bt a0 0) == 45)) else (none)) else (spec_l1Read.j0 k a0 a1 false)
set_option maxHeartbeats 8000000 in
set_option maxRecDepth 100000 in
theorem spec_l1Read.calls (k : Nat) (a0 : ByteArray) (a1 : Int) (r1 : Int) (r2 : Bool) (w : World) (h : spec_l1Read.f k a0 a1 = some (r1, r2)) :
  Calls Tryd.prog 45 #[.string a0, .int .i64 a1] w fun e w' => e = .returned (.tuple #[.int .i64 r1, .bool r2]) ∧ Below w.heap.size w w' := by
 have HB := Aside0.mk (Below.refl w.heap.size w)
 have H : (if (a0.size : Int) > 0 then (if 0 < (a0.size : Int) then (spec_l1Read.j0 k a0 a1 ((bt a0 0) == 45)) else (none)) else (spec_l1Read.j0 k a0 a1 false)) = some (r1, r2) := h
 clear h
 have HC3 := Aside0.mk H
 clear H
 go_enter Tryd.func45, Tryd.ntmps45
 go_upto_region 1 with (fail)
 go_cut [6] (fun v6 wc => ∃ (kq : Nat) (x6_2 : Bool), v6 = .bool x6_2 ∧ Aside0 (spec_l1Read.j0 kq a0 a1 x6_2 = some (r1, r2)) ∧ Aside0 (kq ≤ k) ∧ Aside0 (Below w.heap.size w wc))
 case first =>
  have H := HC3.out
  clear HC3
  by_cases c4 : (a0.size : Int) > 0
  ·rw [if_pos c4] at H
   have c4b0 : decide (0 < (a0.size : Int)) = true := decide_eq_true c4
   have c4b1 : decide (0 < a0.size) = true := decide_eq_true (by omega)
   clear c4
   (first | rw [c4b0] | (simp only [i64_w, i32_w]; rw [c4b0]) | skip)
   by_cases c5 : 0 < (a0.size : Int)
   ·rw [if_pos c5] at H
    have c5b0 : decide (0 < (a0.size : Int)) = true := decide_eq_true c5
    have c5b1 : decide (0 < a0.size) = true := decide_eq_true (by omega)
    clear c5
    have H' := Aside0.mk H; clear H
    have p6 : 0 ≤ (0 : Int) := (by omega)
    have q6 : 0 < a0.size := (by have : (0 : Int) < (a0.size : Int) := zA; omega)
    have hx6 : ∀ h : 0 < a0.size, ((a0[0]'h).toNat : Int) = bt a0 0 := bt_at a0 0
    clear p6
    have qi6 : (0 < (a0.size : Int)) = True := eq_true (zA)
    replace q6 := eq_true q6
    go_wp2
    go_meet
    case rel => exact ⟨_, (((bt a0 0) == 45)), zF, H', ⟨by first | omega | exact Nat.le_refl _⟩, ⟨zB⟩⟩
   rw [if_neg c5] at H
   exact absurd H (by simp)
  rw [if_neg c4] at H
  have c4b0 : decide (0 < (a0.size : Int)) = false := decide_eq_false c4
  have c4b1 : decide (0 < a0.size) = false := decide_eq_false (by omega)
  clear c4
  (first | rw [c4b0] | (simp only [i64_w, i32_w]; rw [c4b0]) | skip)
  have H' := Aside0.mk H; clear H
  go_wp2
  go_meet
  case rel => exact ⟨_, (false), zF, H', ⟨by first | omega | exact Nat.le_refl _⟩, ⟨zB⟩⟩
 case rest =>
 clear HC3
 obtain ⟨kq, x6_2, rfl, HA, HJ2, HB⟩ := hcut
 cases kq with
 | zero => exact absurd HA.out (by simp [spec_l1Read.j0])
 | succ kj2 =>
 have H := HA.out
 clear HA
 simp only [spec_l1Read.j0] at H
 have HC7 := Aside0.mk H
 clear H
 go_upto_if 19 with (fail)
 go_cut [7] (fun v7 wc => ∃ (kq : Nat) (x7_6 : ByteArray), v7 = .string x7_6 ∧ Aside0 (spec_l1Read.j1 kq a0 a1 x6_2 x7_6 = some (r1, r2)) ∧ Aside0 (kq ≤ kj2) ∧ Aside0 (Below w.heap.size w wc))
 case first =>
  have H := HC7.out
  clear HC7
  by_cases c8 : x6_2 = true
  ·subst c8
   replace H := (if_pos rfl).symm.trans H
   by_cases c9 : 1 ≤ (a0.size : Int)
   ·rw [if_pos c9] at H
    have c9b0 := eq_true c9
    have c9b1 : decide (1 ≤ (a0.size : Int)) = true := decide_eq_true c9
    clear c9
    have H' := Aside0.mk H; clear H
    go_wp2
    go_meet
    case rel => exact ⟨_, (a0.extract 1 a0.size), zF, H', ⟨by have := HJ2.out; first | omega | exact Nat.le_refl _⟩, ⟨zB⟩⟩
   rw [if_neg c9] at H
   exact absurd H (by simp)
  replace c8 := Bool.eq_false_iff.mpr c8
  subst c8
  replace H := (if_neg zFf).symm.trans H
  have H' := Aside0.mk H; clear H
  go_wp2
  go_meet
  case rel => exact ⟨_, (a0), zF, H', ⟨by have := HJ2.out; first | omega | exact Nat.le_refl _⟩, ⟨zB⟩⟩
 case rest =>
 clear HC7
 obtain ⟨kq, x7_6, rfl, HA, HJ6, HB⟩ := hcut
 cases kq with
 | zero => exact absurd HA.out (by simp [spec_l1Read.j1])
 | succ kj6 =>
 have H := HA.out
 clear HA
 simp only [spec_l1Read.j1] at H
 have HC10 := Aside0.mk H
 clear H
 go_upto_region 5 with (fail)
 go_cut [30] (fun v30 wc => ∃ (kq : Nat) (x30_9 : Bool), v30 = .bool x30_9 ∧ Aside0 (spec_l1Read.j2 kq a0 x6_2 x7_6 x30_9 = some (r1, r2)) ∧ Aside0 (kq ≤ kj6) ∧ Aside0 (Below w.heap.size w wc))
 case first =>
  have H := HC10.out
  clear HC10
  by_cases c11 : (x7_6.size : Int) < 1
  ·rw [if_pos c11] at H
   have c11b0 : decide ((x7_6.size : Int) < 1) = true := decide_eq_true c11
   have c11b1 : decide (x7_6.size < 1) = true := decide_eq_true (by omega)
   clear c11
   (first | rw [c11b0] | (simp only [i64_w, i32_w]; rw [c11b0]) | skip)
   have H' := Aside0.mk H; clear H
   go_wp2
   go_meet
   case rel => exact ⟨_, (true), zF, H', ⟨by have := HJ2.out; have := HJ6.out; first | omega | exact Nat.le_refl _⟩, ⟨zB⟩⟩
  rw [if_neg c11] at H
  have c11b0 : decide ((x7_6.size : Int) < 1) = false := decide_eq_false c11
  have c11b1 : decide (x7_6.size < 1) = false := decide_eq_false (by omega)
  clear c11
  (first | rw [c11b0] | (simp only [i64_w, i32_w]; rw [c11b0]) | skip)
  have H' := Aside0.mk H; clear H
  go_wp2
  go_meet
  case rel => exact ⟨_, (decide ((x7_6.size : Int) > a1)), zF, H', ⟨by have := HJ2.out; have := HJ6.out; first | omega | exact Nat.le_refl _⟩, ⟨zB⟩⟩
 case rest =>
 clear HC10
 obtain ⟨kq, x30_9, rfl, HA, HJ9, HB⟩ := hcut
 cases kq with
 | zero => exact absurd HA.out (by simp [spec_l1Read.j2])
 | succ kj9 =>
 have H := HA.out
 clear HA
 simp only [spec_l1Read.j2] at H
 by_cases c12 : x30_9 = true
 ·subst c12
  replace H := (if_pos rfl).symm.trans H
  simp only [Option.some.injEq, Prod.mk.injEq] at H
  obtain ⟨rfl, rfl⟩ := H
  go_wp2
  go_ret2
  exact ⟨zE, zB⟩
 replace c12 := Bool.eq_false_iff.mpr c12
 subst c12
 replace H := (if_neg zFf).symm.trans H
 have H' := Aside0.mk H; clear H
 go_wp2
 go_loopg [8, 9] kj9 (fun kq v8 v9 w' => ∃ (x8_4 : Int) (x9_4 : Int), v8 = .int .i64 x8_4 ∧ v9 = .int .i64 x9_4 ∧ Aside0 (spec_l1Read.l0 kq a0 x6_2 x7_6 x8_4 x9_4 = some (r1, r2)) ∧ Aside0 (kq ≤ kj9) ∧ Aside0 (Below w.heap.size w w'))
 case atStart => exact ⟨(0), (0), zF, zF, H', ⟨Nat.le_refl _⟩, ⟨zB⟩⟩
 case round =>
 clear H'
 try clear c12
 obtain ⟨x8_4, x9_4, rfl, rfl, HA, HK4, HB⟩ := hrel
 cases gk with
 | zero => exact absurd HA.out (by simp [spec_l1Read.l0])
 | succ k4 =>
 have H := HA.out
 clear HA
 simp only [spec_l1Read.l0] at H
 by_cases c13 : x9_4 < (x7_6.size : Int)
 ·rw [if_pos c13] at H
  have c13b0 : decide (x9_4 < (x7_6.size : Int)) = true := decide_eq_true c13
  clear c13
  by_cases c14 : 0 ≤ x9_4
  ·rw [if_pos c14] at H
   have c14b0 : decide (0 ≤ x9_4) = true := decide_eq_true c14
   clear c14
   by_cases c16 : (bt x7_6 x9_4) < 48
   ·rw [if_pos c16] at H
    have c16b0 : decide ((bt x7_6 x9_4) < 48) = true := decide_eq_true c16
    clear c16
    simp only [Option.some.injEq, Prod.mk.injEq] at H
    obtain ⟨rfl, rfl⟩ := H
    have p15 : 0 ≤ (x9_4 : Int) := zA
    have q15 : x9_4 < (x7_6.size : Int) := zA
    have hx15 := bt_at x7_6 x9_4
    replace p15 := eq_true p15
    replace q15 := eq_true q15
    go_wp2
    go_ret2
    exact ⟨zE, zB⟩
   rw [if_neg c16] at H
   have c16b0 : decide ((bt x7_6 x9_4) < 48) = false := decide_eq_false c16
   clear c16
   by_cases c18 : (bt x7_6 x9_4) > 57
   ·rw [if_pos c18] at H
    have c18b0 : decide (57 < (bt x7_6 x9_4)) = true := decide_eq_true c18
    clear c18
    simp only [Option.some.injEq, Prod.mk.injEq] at H
    obtain ⟨rfl, rfl⟩ := H
    have p15 : 0 ≤ (x9_4 : Int) := zA
    have q15 : x9_4 < (x7_6.size : Int) := zA
    have hx15 := bt_at x7_6 x9_4
    replace p15 := eq_true p15
    replace q15 := eq_true q15
    have p17 : 0 ≤ (x9_4 : Int) := zA
    have q17 : x9_4 < (x7_6.size : Int) := zA
    have hx17 := bt_at x7_6 x9_4
    replace p17 := eq_true p17
    replace q17 := eq_true q17
    go_wp2
    go_ret2
    exact ⟨zE, zB⟩
   rw [if_neg c18] at H
   have c18b0 : decide (57 < (bt x7_6 x9_4)) = false := decide_eq_false c18
   clear c18
   have H' := Aside0.mk H; clear H
   have p15 : 0 ≤ (x9_4 : Int) := zA
   have q15 : x9_4 < (x7_6.size : Int) := zA
   have hx15 := bt_at x7_6 x9_4
   replace p15 := eq_true p15
   replace q15 := eq_true q15
   have p17 : 0 ≤ (x9_4 : Int) := zA
   have q17 : x9_4 < (x7_6.size : Int) := zA
   have hx17 := bt_at x7_6 x9_4
   replace p17 := eq_true p17
   replace q17 := eq_true q17
   have p19 : 0 ≤ (x9_4 : Int) := zA
   have q19 : x9_4 < (x7_6.size : Int) := zA
   have hx19 := bt_at x7_6 x9_4
   replace p19 := eq_true p19
   replace q19 := eq_true q19
   go_wp2
   go_roundg k4
   case measure => have := HJ2.out; have := HJ6.out; have := HJ9.out; have := HK4.out; omega
   case rel => exact ⟨(wrap64 ((wrap64 (10 * x8_4)) + (((bt x7_6 x9_4) - 48) % 256))), (wrap64 (x9_4 + 1)), zF, zF, H', ⟨by have := HJ2.out; have := HJ6.out; have := HJ9.out; have := HK4.out; omega⟩, ⟨zB⟩⟩
  rw [if_neg c14] at H
  exact absurd H (by simp)
 rw [if_neg c13] at H
 have c13b0 : decide (x9_4 < (x7_6.size : Int)) = false := decide_eq_false c13
 clear c13
 by_cases c20 : x6_2 = true
 ·subst c20
  replace H := (if_pos rfl).symm.trans H
  obtain ⟨t254, A21, H⟩ := zO H
  by_cases c22 : t254.toList = a0.toList
  ·rw [if_pos c22] at H
   have c22b0 : (t254.toList == a0.toList) = true := beq_iff_eq.mpr c22
   have c22b1 : (t254.toList != a0.toList) = false := bne_eq_false_iff_eq.mpr c22
   clear c22
   simp only [Option.some.injEq, Prod.mk.injEq] at H
   obtain ⟨rfl, rfl⟩ := H
   go_wp2_with (first | ((with_reducible refine gate_callee (f := 11) rfl ?_); refine zD (some 59) Tryd.func11 #[.int .i64 (wrap64 (-x8_4))] ?_; (with_reducible refine (spec_FormatInt.calls k4 (wrap64 (-x8_4)) t254 _ A21.out).mono ?_); rintro e w23 ⟨rfl, hb⟩; refine ⟨_, rfl, ?_⟩; replace HB := zX hb; (try clear hb)))
   go_ret2
   exact ⟨zE, zB⟩
  rw [if_neg c22] at H
  have c22b0 : (t254.toList == a0.toList) = false := beq_eq_false_iff_ne.mpr c22
  have c22b1 : (t254.toList != a0.toList) = true := bne_iff_ne.mpr c22
  simp only [Option.some.injEq, Prod.mk.injEq] at H
  obtain ⟨rfl, rfl⟩ := H
  go_wp2_with (first | ((with_reducible refine gate_callee (f := 11) rfl ?_); refine zD (some 59) Tryd.func11 #[.int .i64 (wrap64 (-x8_4))] ?_; (with_reducible refine (spec_FormatInt.calls k4 (wrap64 (-x8_4)) t254 _ A21.out).mono ?_); rintro e w24 ⟨rfl, hb⟩; refine ⟨_, rfl, ?_⟩; replace HB := zX hb; (try clear hb)))
  go_ret2
  exact ⟨zE, zB⟩
 replace c20 := Bool.eq_false_iff.mpr c20
 subst c20
 replace H := (if_neg zFf).symm.trans H
 obtain ⟨t255, A25, H⟩ := zO H
 by_cases c26 : t255.toList = a0.toList
 ·rw [if_pos c26] at H
  have c26b0 : (t255.toList == a0.toList) = true := beq_iff_eq.mpr c26
  have c26b1 : (t255.toList != a0.toList) = false := bne_eq_false_iff_eq.mpr c26
  clear c26
  simp only [Option.some.injEq, Prod.mk.injEq] at H
  obtain ⟨rfl, rfl⟩ := H
  go_wp2_with (first | ((with_reducible refine gate_callee (f := 11) rfl ?_); refine zD (some 59) Tryd.func11 #[.int .i64 x8_4] ?_; (with_reducible refine (spec_FormatInt.calls k4 x8_4 t255 _ A25.out).mono ?_); rintro e w27 ⟨rfl, hb⟩; refine ⟨_, rfl, ?_⟩; replace HB := zX hb; (try clear hb)))
  go_ret2
  exact ⟨zE, zB⟩
 rw [if_neg c26] at H
 have c26b0 : (t255.toList == a0.toList) = false := beq_eq_false_iff_ne.mpr c26
 have c26b1 : (t255.toList != a0.toList) = true := bne_iff_ne.mpr c26
 simp only [Option.some.injEq, Prod.mk.injEq] at H
 obtain ⟨rfl, rfl⟩ := H
 go_wp2_with (first | ((with_reducible refine gate_callee (f := 11) rfl ?_); refine zD (some 59) Tryd.func11 #[.int .i64 x8_4] ?_; (with_reducible refine (spec_FormatInt.calls k4 x8_4 t255 _ A25.out).mono ?_); rintro e w28 ⟨rfl, hb⟩; refine ⟨_, rfl, ?_⟩; replace HB := zX hb; (try clear hb)))
 go_ret2
 exact ⟨zE, zB⟩
/-! ### spec_ParseInt: function 22 -/
def spec_ParseInt.f (k : Nat) (a0 : ByteArray) : Option (Int × Bool) := (spec_l1Read.f k a0 12).bind fun bt256 => (some (bt256.1, bt256.2))
set_option maxHeartbeats 8000000 in
set_option maxRecDepth 100000 in
theorem spec_ParseInt.calls (k : Nat) (a0 : ByteArray) (r1 : Int) (r2 : Bool) (w : World) (h : spec_ParseInt.f k a0 = some (r1, r2)) :
  Calls Tryd.prog 22 #[.string a0] w fun e w' => e = .returned (.tuple #[.int .i64 r1, .bool r2]) ∧ Below w.heap.size w w' := by
 have HB := Aside0.mk (Below.refl w.heap.size w)
 have H : ((spec_l1Read.f k a0 12).bind fun bt256 => (some (bt256.1, bt256.2))) = some (r1, r2) := h
 clear h
 obtain ⟨⟨t256, t257⟩, A2, H⟩ := zO H
 replace H : (some (t256, t257)) = some (r1, r2) := H
 simp only [Option.some.injEq, Prod.mk.injEq] at H
 obtain ⟨rfl, rfl⟩ := H
 go_enter Tryd.func22, Tryd.ntmps22
 go_wp2_with (first | ((with_reducible refine gate_callee (f := 45) rfl ?_); refine zD (some 5) Tryd.func45 #[.string a0, .int .i64 12] ?_; (with_reducible refine (spec_l1Read.calls k a0 12 t256 t257 _ A2.out).mono ?_); rintro e w3 ⟨rfl, hb⟩; refine ⟨_, rfl, ?_⟩; replace HB := zX hb; (try clear hb)))
 go_ret2
 exact ⟨zE, zB⟩
/-! ### impl_ParseInt: function 23 -/
def impl_ParseInt.f (a0 : ByteArray) : Option (Int × Bool) := (impl_whole.f a0 (-999999999999) 999999999999).bind fun bt273 => (some (bt273.1, bt273.2))
theorem zl69_0 {p q : Prop} (g : p) (h : p → q := by intro zg_; repeat (first | (with_reducible first | exact zg_ | apply below_alloc | apply pw_below_drewN | apply below_drew1) | exact zg_)) : q := h g
set_option maxHeartbeats 8000000 in
set_option maxRecDepth 100000 in
theorem impl_ParseInt.calls (a0 : ByteArray) (r1 : Int) (r2 : Bool) (w : World) (h : impl_ParseInt.f a0 = some (r1, r2)) (hT : T2 w) :
  Calls Tryd.prog 23 #[.string a0] w fun e w' => e = .returned (.tuple #[.int .i64 r1, .bool r2]) ∧ Below w.heap.size w w' := by
 have HT := Aside0.mk hT
 clear hT
 have HB := Aside0.mk (Below.refl w.heap.size w)
 have H : ((impl_whole.f a0 (-999999999999) 999999999999).bind fun bt273 => (some (bt273.1, bt273.2))) = some (r1, r2) := h
 clear h
 obtain ⟨⟨t273, t274⟩, A2, H⟩ := zO H
 replace H : (some (t273, t274)) = some (r1, r2) := H
 simp only [Option.some.injEq, Prod.mk.injEq] at H
 obtain ⟨rfl, rfl⟩ := H
 go_enter Tryd.func23, Tryd.ntmps23
 go_wp2_with (first | ((with_reducible refine gate_callee (f := 46) rfl ?_); refine zD (some 5) Tryd.func46 #[.string a0, .int .i64 (-999999999999), .int .i64 999999999999] ?_; (with_reducible refine (impl_whole.calls a0 (-999999999999) 999999999999 t273 t274 _ A2.out (HT.out.below ?sideT)).mono ?_); (case sideT => exact (zl69_0 HB.out)); rintro e w3 ⟨rfl, hb⟩; refine ⟨_, rfl, ?_⟩; replace HB := zX hb; (try clear hb)))
 go_ret2
 exact ⟨zE, zB⟩
/-! ### spec_ParseNumber: function 24 -/
def spec_ParseNumber.f (k : Nat) (a0 : ByteArray) : Option (Int × Bool) := (spec_l1Read.f k a0 6).bind fun bt279 => (if bt279.2 = true then (if bt279.1 < 0 then (some (0, false)) else (some (bt279.1, true))) else (some (0, false)))
set_option maxHeartbeats 8000000 in
set_option maxRecDepth 100000 in
theorem spec_ParseNumber.calls (k : Nat) (a0 : ByteArray) (r1 : Int) (r2 : Bool) (w : World) (h : spec_ParseNumber.f k a0 = some (r1, r2)) :
  Calls Tryd.prog 24 #[.string a0] w fun e w' => e = .returned (.tuple #[.int .i64 r1, .bool r2]) ∧ Below w.heap.size w w' := by
 have HB := Aside0.mk (Below.refl w.heap.size w)
 have H : ((spec_l1Read.f k a0 6).bind fun bt279 => (if bt279.2 = true then (if bt279.1 < 0 then (some (0, false)) else (some (bt279.1, true))) else (some (0, false)))) = some (r1, r2) := h
 clear h
 obtain ⟨⟨t279, t280⟩, A2, H⟩ := zO H
 dsimp only at H
 by_cases c3 : t280 = true
 ·subst c3
  replace H := (if_pos rfl).symm.trans H
  by_cases c4 : t279 < 0
  ·rw [if_pos c4] at H
   have c4b0 : decide (t279 < 0) = true := decide_eq_true c4
   clear c4
   simp only [Option.some.injEq, Prod.mk.injEq] at H
   obtain ⟨rfl, rfl⟩ := H
   go_enter Tryd.func24, Tryd.ntmps24
   go_wp2_with (first | ((with_reducible refine gate_callee (f := 45) rfl ?_); refine zD (some 8) Tryd.func45 #[.string a0, .int .i64 6] ?_; (with_reducible refine (spec_l1Read.calls k a0 6 t279 true _ A2.out).mono ?_); rintro e w5 ⟨rfl, hb⟩; refine ⟨_, rfl, ?_⟩; replace HB := zX hb; (try clear hb)))
   go_ret2
   exact ⟨zE, zB⟩
  rw [if_neg c4] at H
  have c4b0 : decide (t279 < 0) = false := decide_eq_false c4
  clear c4
  simp only [Option.some.injEq, Prod.mk.injEq] at H
  obtain ⟨rfl, rfl⟩ := H
  go_enter Tryd.func24, Tryd.ntmps24
  go_wp2_with (first | ((with_reducible refine gate_callee (f := 45) rfl ?_); refine zD (some 8) Tryd.func45 #[.string a0, .int .i64 6] ?_; (with_reducible refine (spec_l1Read.calls k a0 6 t279 true _ A2.out).mono ?_); rintro e w6 ⟨rfl, hb⟩; refine ⟨_, rfl, ?_⟩; replace HB := zX hb; (try clear hb)))
  go_ret2
  exact ⟨zE, zB⟩
 replace c3 := Bool.eq_false_iff.mpr c3
 subst c3
 replace H := (if_neg zFf).symm.trans H
 simp only [Option.some.injEq, Prod.mk.injEq] at H
 obtain ⟨rfl, rfl⟩ := H
 go_enter Tryd.func24, Tryd.ntmps24
 go_wp2_with (first | ((with_reducible refine gate_callee (f := 45) rfl ?_); refine zD (some 8) Tryd.func45 #[.string a0, .int .i64 6] ?_; (with_reducible refine (spec_l1Read.calls k a0 6 t279 false _ A2.out).mono ?_); rintro e w7 ⟨rfl, hb⟩; refine ⟨_, rfl, ?_⟩; replace HB := zX hb; (try clear hb)))
 go_ret2
 exact ⟨zE, zB⟩
/-! ### impl_ParseNumber: function 25 -/
def impl_ParseNumber.f (a0 : ByteArray) : Option (Int × Bool) := (impl_whole.f a0 0 999999).bind fun bt281 => (some (bt281.1, bt281.2))
theorem zl72_0 {p q : Prop} (g : p) (h : p → q := by intro zg_; repeat (first | (with_reducible first | exact zg_ | apply below_alloc | apply pw_below_drewN | apply below_drew1) | exact zg_)) : q := h g
set_option maxHeartbeats 8000000 in
set_option maxRecDepth 100000 in
theorem impl_ParseNumber.calls (a0 : ByteArray) (r1 : Int) (r2 : Bool) (w : World) (h : impl_ParseNumber.f a0 = some (r1, r2)) (hT : T2 w) :
  Calls Tryd.prog 25 #[.string a0] w fun e w' => e = .returned (.tuple #[.int .i64 r1, .bool r2]) ∧ Below w.heap.size w w' := by
 have HT := Aside0.mk hT
 clear hT
 have HB := Aside0.mk (Below.refl w.heap.size w)
 have H : ((impl_whole.f a0 0 999999).bind fun bt281 => (some (bt281.1, bt281.2))) = some (r1, r2) := h
 clear h
 obtain ⟨⟨t281, t282⟩, A2, H⟩ := zO H
 replace H : (some (t281, t282)) = some (r1, r2) := H
 simp only [Option.some.injEq, Prod.mk.injEq] at H
 obtain ⟨rfl, rfl⟩ := H
 go_enter Tryd.func25, Tryd.ntmps25
 go_wp2_with (first | ((with_reducible refine gate_callee (f := 46) rfl ?_); refine zD (some 5) Tryd.func46 #[.string a0, .int .i64 0, .int .i64 999999] ?_; (with_reducible refine (impl_whole.calls a0 0 999999 t281 t282 _ A2.out (HT.out.below ?sideT)).mono ?_); (case sideT => exact (zl72_0 HB.out)); rintro e w3 ⟨rfl, hb⟩; refine ⟨_, rfl, ?_⟩; replace HB := zX hb; (try clear hb)))
 go_ret2
 exact ⟨zE, zB⟩
end Go.Proofs.YthhgcdfdjlijjaaDoor.PX
namespace Go.Proofs.YthhgcdfdjlijjaaDoor.M
open Go.RowKit Go.Proofs.YthhgcdfdjlijjaaDoorW.PrintWords Go.Proofs.YthhgcdfdjlijjaaDoor.PX Go.Proofs.YthhgcdfdjlijjaaDoor.G Go.Proofs.YthhgcdfdjlijjaaDoorW.PrintMore
open Go.Lib (decDigits itoa parseUint10 parseMag atoiAll)
def valF : Nat → List UInt8 → Option Nat
  | acc, [] => some acc
  | acc, c :: r => if 48 ≤ c.toNat ∧ c.toNat ≤ 57 then valF (10 * acc + (c.toNat - 48)) r else none
theorem valF_app (l r : List UInt8) : ∀ acc a, valF acc l = some a → valF acc (l ++ r) = valF a r := by
  induction l with
  | nil => intro acc a h; simp only [valF, Option.some.injEq] at h; subst h; rfl
  | cons c l ih =>
    intro acc a h
    simp only [valF, List.cons_append] at h ⊢
    split at h
    · rename_i h1
      rw [if_pos h1]
      exact ih _ _ h
    · cases h
theorem valF_dec (d : Nat) : ∀ u, u < 10 ^ (d + 1) → valF 0 (decDigits u) = some u := by
  have one : ∀ a x : Nat, x < 10 → valF a [UInt8.ofNat (48 + x)] = some (10 * a + x) := by
    intro a x hx
    simp only [valF, dig_nat hx]
    rw [if_pos (by omega)]
    congr 1
    omega
  induction d with
  | zero =>
    intro u h
    have h : u < 10 := by simpa using h
    rw [dec_one h, one 0 u h, Nat.mul_zero, Nat.zero_add]
  | succ d ih =>
    intro u h
    by_cases g : u < 10
    · rw [dec_one g, one 0 u g, Nat.mul_zero, Nat.zero_add]
    · rw [dec_step g, valF_app _ _ _ _ (ih (u / 10) (by rw [Nat.pow_succ] at h; omega)), one (u / 10) (u % 10) (Nat.mod_lt _ (by omega))]
      congr 1
      omega
theorem valF_lt (l : List UInt8) : ∀ acc v m, valF acc l = some v → acc < 10 ^ m → v < 10 ^ (m + l.length) := by
  induction l with
  | nil => intro acc v m h ha; simp only [valF, Option.some.injEq] at h; subst h; exact ha
  | cons c l ih =>
    intro acc v m h ha
    simp only [valF] at h
    split at h
    · have := ih _ v (m + 1) h (by rw [Nat.pow_succ]; omega)
      rw [List.length_cons, show m + (l.length + 1) = m + 1 + l.length by omega]
      exact this
    · cases h
def readE (s : ByteArray) (neg : Bool) : Option Nat → Int × Bool
  | none => (0, false)
  | some v => if (itoaB (if neg = true then -(v : Int) else (v : Int))).toList = s.toList then ((if neg = true then -(v : Int) else (v : Int)), true) else (0, false)
def tailB (s : ByteArray) (neg : Bool) : ByteArray := if neg = true then s.extract 1 s.size else s
def negB (s : ByteArray) : Bool := decide (0 < s.size) && (bt s 0 == 45)
def readS (s : ByteArray) (m : Nat) : Int × Bool := if (tailB s (negB s)).size < 1 ∨ (tailB s (negB s)).size > m then (0, false) else readE s (negB s) (valF 0 (tailB s (negB s)).data.toList)
theorem p12 : ∀ i, i ≤ 12 → 10 ^ i ≤ 1000000000000 := fun i h => by
  have := Nat.pow_le_pow_right (n := 10) (by omega) h
  omega
theorem read_loop (s t : ByteArray) (neg : Bool) (ht : t.data.toList.length ≤ 12) (d : Nat) : ∀ i acc : Nat, i + d = t.data.toList.length → acc < 10 ^ i → Ev (fun k => spec_l1Read.l0 k s neg t (acc : Int) (i : Int)) (readE s neg (valF acc (t.data.toList.drop i))) := by
  induction d with
  | zero =>
    intro i acc hi ha
    have := p12 i (by omega)
    refine ev_step ?_
    simp only [spec_l1Read.l0]
    rw [List.drop_of_length_le (by omega)]
    refine ev_neg (by rw [size_list]; omega) ?_
    simp only [valF, readE]
    cases neg with
    | true =>
      simp only [if_true]
      rw [wrap_id (x := -(acc : Int)) (by omega) (by omega)]
      refine Ev.bind (spec_fmt (by omega) (by omega)) ?_
      by_cases g : (itoaB (-(acc : Int))).toList = s.toList
      · exact ev_cast (ev_pos g (Ev.now _)) (if_pos g).symm
      · exact ev_cast (ev_neg g (Ev.now _)) (if_neg g).symm
    | false =>
      simp only [Bool.false_eq_true, if_false]
      refine Ev.bind (spec_fmt (by omega) (by omega)) ?_
      by_cases g : (itoaB (acc : Int)).toList = s.toList
      · exact ev_cast (ev_pos g (Ev.now _)) (if_pos g).symm
      · exact ev_cast (ev_neg g (Ev.now _)) (if_neg g).symm
  | succ d ih =>
    intro i acc hi ha
    have hil : i < t.data.toList.length := by omega
    have pb := p12 i (by omega)
    have pb' := p12 (i + 1) (by omega)
    refine ev_step ?_
    simp only [spec_l1Read.l0]
    rw [List.drop_eq_getElem_cons hil, bt_nat hil]
    simp only [valF]
    have hc := UInt8.toNat_lt (t.data.toList[i])
    generalize t.data.toList[i] = c at hc
    refine ev_pos (by rw [size_list]; omega) (ev_pos (by omega) ?_)
    by_cases g1 : (c.toNat : Int) < 48
    · rw [if_neg (by omega)]
      exact ev_pos g1 (Ev.now _)
    · refine ev_neg g1 ?_
      by_cases g2 : (c.toNat : Int) > 57
      · rw [if_neg (by omega)]
        exact ev_pos g2 (Ev.now _)
      · rw [if_pos (by omega)]
        refine ev_neg g2 ?_
        have nx := ih (i + 1) (10 * acc + (c.toNat - 48)) (by omega) (by rw [Nat.pow_succ]; omega)
        rw [Nat.pow_succ] at pb'
        rw [wrap_id (x := 10 * (acc : Int)) (by omega) (by omega), wrap_id (x := 10 * (acc : Int) + ((c.toNat : Int) - 48) % 256) (by omega) (by omega), wrap_id (x := (i : Int) + 1) (by omega) (by omega), show 10 * (acc : Int) + ((c.toNat : Int) - 48) % 256 = ((10 * acc + (c.toNat - 48) : Nat) : Int) by omega]
        exact nx
theorem spec_read (s : ByteArray) (m : Nat) (hm : m ≤ 12) (hs : s.size ≤ 1048576) : Ev (fun k => spec_l1Read.f k s (m : Int)) (readS s m) := by
  have j2 : ∀ (neg : Bool) (t : ByteArray), t = tailB s neg → Ev (fun k => spec_l1Read.j1 k s (m : Int) neg t) (if t.size < 1 ∨ t.size > m then (0, false) else readE s neg (valF 0 t.data.toList)) := by
    intro neg t _
    have two : ∀ b : Bool, b = decide (t.size < 1 ∨ t.size > m) → Ev (fun k => spec_l1Read.j2 k s neg t b) (if t.size < 1 ∨ t.size > m then (0, false) else readE s neg (valF 0 t.data.toList)) := by
      intro b hb
      refine ev_step ?_
      simp only [spec_l1Read.j2]
      by_cases g : t.size < 1 ∨ t.size > m
      · rw [if_pos g]
        rw [decide_eq_true g] at hb
        exact ev_pos hb (Ev.now _)
      · rw [if_neg g]
        rw [decide_eq_false g] at hb
        refine ev_neg (by rw [hb]; simp) ?_
        have r := read_loop s t neg (by rw [← size_list]; omega) t.data.toList.length 0 0 (by omega) (by simp)
        rw [List.drop_zero] at r
        exact r
    refine ev_step ?_
    simp only [spec_l1Read.j1]
    by_cases g : t.size < 1
    · exact ev_pos (by omega) (two true (by rw [decide_eq_true (Or.inl g)]))
    · refine ev_neg (by omega) (two _ ?_)
      rw [decide_eq_decide]
      omega
  have j0 : ∀ neg : Bool, (neg = true → 0 < s.size) → Ev (fun k => spec_l1Read.j0 k s (m : Int) neg) (if (tailB s neg).size < 1 ∨ (tailB s neg).size > m then (0, false) else readE s neg (valF 0 (tailB s neg).data.toList)) := by
    intro neg hn
    refine ev_step ?_
    simp only [spec_l1Read.j0]
    cases neg with
    | true =>
      have := hn rfl
      exact ev_pos (by first | rfl | trivial) (ev_pos (by omega) (j2 true _ rfl))
    | false => exact ev_neg (by simp) (j2 false _ rfl)
  unfold spec_l1Read.f readS
  by_cases g : 0 < s.size
  · have e : negB s = (bt s 0 == 45) := by unfold negB; rw [decide_eq_true g, Bool.true_and]
    rw [e]
    exact ev_pos (by omega) (ev_pos (by omega) (j0 _ fun _ => g))
  · have e : negB s = false := by unfold negB; rw [decide_eq_false g, Bool.false_and]
    rw [e]
    exact ev_neg (by omega) (j0 false (by simp))
theorem toL_inj {a b : ByteArray} : a.toList = b.toList ↔ a = b := by
  constructor
  · intro h
    rw [ByteArray.toList_eq, ByteArray.toList_eq] at h
    exact ByteArray.ext (Array.ext' h)
  · rintro rfl; rfl
theorem tail_data {s : ByteArray} {c : UInt8} {r : List UInt8} (h : s.data.toList = c :: r) : (s.extract 1 s.size).data.toList = r := by
  rw [ByteArray.data_extract, Array.toList_extract, h, size_list, h]
  simp [List.extract]
theorem readS_of {v : Int} {m : Nat} (hm1 : 1 ≤ m) (hm : m ≤ 12) (hv : v.natAbs < 10 ^ m) : readS (itoaB v) m = (v, true) := by
  have pb := p12 m hm
  have hmp : m ≠ 0 := by omega
  obtain ⟨m', rfl⟩ := Nat.exists_eq_succ_of_ne_zero hmp
  have hl := dec_len m' v.natAbs hv
  have hp := dec_pos v.natAbs
  have hv' := valF_dec m' v.natAbs hv
  obtain ⟨c, r, e, c1, c2⟩ := dec_head (u := v.natAbs) (by omega)
  by_cases g : v < 0
  · have d : (itoaB v).data.toList = 45 :: decDigits v.natAbs := by rw [itoaB_data]; unfold itoa; rw [if_pos g]
    have hz : 0 < (itoaB v).size := by rw [size_list, d]; simp
    have hn : negB (itoaB v) = true := by
      unfold negB
      rw [decide_eq_true hz, Bool.true_and, beq_iff_eq]
      have := bt_nat (t := itoaB v) (i := 0) (by rw [d]; simp)
      rw [show ((0 : Nat) : Int) = 0 from rfl] at this
      rw [this]
      simp [d]
    have ht : (tailB (itoaB v) true).data.toList = decDigits v.natAbs := by unfold tailB; rw [if_pos rfl]; exact tail_data d
    unfold readS
    rw [hn, size_list, ht, if_neg (by omega), hv']
    unfold readE
    simp only [if_true]
    rw [show -((v.natAbs : Nat) : Int) = v by omega, if_pos rfl]
  · have d : (itoaB v).data.toList = decDigits v.natAbs := by rw [itoaB_data]; unfold itoa; rw [if_neg g, show v.toNat = v.natAbs by omega]
    have hn : negB (itoaB v) = false := by
      unfold negB
      rw [Bool.and_eq_false_iff]
      right
      have := bt_nat (t := itoaB v) (i := 0) (by rw [d]; omega)
      rw [show ((0 : Nat) : Int) = 0 from rfl] at this
      rw [this, beq_eq_false_iff_ne]
      have e2 : (itoaB v).data.toList[0]'(by rw [d]; omega) = c := by simp [d, e]
      rw [e2]
      omega
    have ht : (tailB (itoaB v) false).data.toList = decDigits v.natAbs := by unfold tailB; rw [if_neg (by simp)]; exact d
    unfold readS
    rw [hn, size_list, ht, if_neg (by omega), hv']
    unfold readE
    simp only [Bool.false_eq_true, if_false]
    rw [show ((v.natAbs : Nat) : Int) = v by omega, if_pos rfl]
theorem readS_not {s : ByteArray} {m : Nat} (h : ∀ v : Int, v.natAbs < 10 ^ m → itoaB v ≠ s) : readS s m = (0, false) := by
  unfold readS
  by_cases g : (tailB s (negB s)).size < 1 ∨ (tailB s (negB s)).size > m
  · rw [if_pos g]
  · rw [if_neg g]
    cases e : valF 0 (tailB s (negB s)).data.toList with
    | none => rfl
    | some v =>
      have hv := valF_lt _ 0 v 0 e (by decide)
      rw [← size_list, Nat.zero_add] at hv
      have hv2 : v < 10 ^ m := Nat.lt_of_lt_of_le hv (Nat.pow_le_pow_right (by omega) (by omega))
      simp only [readE]
      rw [if_neg]
      rw [toL_inj]
      refine h _ ?_
      split <;> omega
theorem whole_of {v least most : Int} (h0 : -9223372036854775808 ≤ v) (h1 : v ≤ 9223372036854775807) (g0 : least ≤ v) (g1 : v ≤ most) (hs : (itoaB v).size ≤ 1048576) : impl_whole.f (itoaB v) least most = some (v, true) := by
  unfold impl_whole.f
  rw [if_pos (by omega), itoaB_data, atoi_itoa h0 h1]
  simp only
  rw [if_neg (by omega), if_neg (by omega), if_pos trivial]
theorem whole_not {s : ByteArray} {least most : Int} (hs : s.size ≤ 1048576) (h : ∀ v : Int, -9223372036854775808 ≤ v → v ≤ 9223372036854775807 → least ≤ v → v ≤ most → itoaB v ≠ s) : impl_whole.f s least most = some (0, false) := by
  unfold impl_whole.f
  rw [if_pos (by omega)]
  cases e : atoiAll s.data.toList
  · rename_i v
    have vb := Lib.atoiAll_bounds e
    simp only
    by_cases c1 : v < least
    · rw [if_pos c1]
    · rw [if_neg c1]
      by_cases c2 : v > most
      · rw [if_pos c2]
      · rw [if_neg c2, if_neg]
        rw [toL_inj]
        exact h v vb.1 vb.2 (by omega) (by omega)
  · rfl
  · rfl
noncomputable def intA (s : ByteArray) : Int × Bool := readS s 12
theorem impl_int (s : ByteArray) (hs : s.size ≤ 1048576) : impl_ParseInt.f s = some (intA s) := by
  unfold impl_ParseInt.f intA
  by_cases h : ∃ v : Int, v.natAbs < 10 ^ 12 ∧ itoaB v = s
  · obtain ⟨v, hv, rfl⟩ := h
    rw [whole_of (by omega) (by omega) (by omega) (by omega) hs, readS_of (by omega) (by omega) hv]
    rfl
  · rw [whole_not hs fun v _ _ h1 h2 e => h ⟨v, by omega, e⟩, readS_not fun v hv e => h ⟨v, hv, e⟩]
    rfl
theorem spec_int (s : ByteArray) (hs : s.size ≤ 1048576) : Ev (fun k => spec_ParseInt.f k s) (intA s) := by
  unfold spec_ParseInt.f intA
  exact Ev.bind (spec_read s 12 (by omega) hs) (Ev.now _)
noncomputable def numA (s : ByteArray) : Int × Bool := if (readS s 6).2 = true then (if (readS s 6).1 < 0 then (0, false) else ((readS s 6).1, true)) else (0, false)
theorem impl_num (s : ByteArray) (hs : s.size ≤ 1048576) : impl_ParseNumber.f s = some (numA s) := by
  unfold impl_ParseNumber.f numA
  by_cases h : ∃ v : Int, v.natAbs < 10 ^ 6 ∧ itoaB v = s
  · obtain ⟨v, hv, rfl⟩ := h
    rw [readS_of (by omega) (by omega) hv]
    simp only [if_true]
    by_cases g : v < 0
    · rw [if_pos g, whole_not hs fun u h0 h1 g0 g1 e => by
        have := itoaB_inj ⟨h0, h1⟩ ⟨by omega, by omega⟩ e
        omega]
      rfl
    · rw [if_neg g, whole_of (by omega) (by omega) (by omega) (by omega) hs]
      rfl
  · rw [whole_not hs fun v _ _ h1 h2 e => h ⟨v, by omega, e⟩, readS_not fun v hv e => h ⟨v, hv, e⟩]
    rfl
theorem spec_num (s : ByteArray) (hs : s.size ≤ 1048576) : Ev (fun k => spec_ParseNumber.f k s) (numA s) := by
  unfold spec_ParseNumber.f numA
  refine Ev.bind (spec_read s 6 (by omega) hs) ?_
  by_cases h : (readS s 6).2 = true
  · refine ev_cast (ev_pos h ?_) (if_pos h).symm
    by_cases g : (readS s 6).1 < 0
    · exact ev_cast (ev_pos g (Ev.now _)) (if_pos g).symm
    · exact ev_cast (ev_neg g (Ev.now _)) (if_neg g).symm
  · exact ev_cast (ev_neg h (Ev.now _)) (if_neg h).symm
end Go.Proofs.YthhgcdfdjlijjaaDoor.M
