/- A part of proofs about signs and points: what some functions answer, and that their calls answer so. No condition. -/
import Derived.Test.YtbjncemaeagjjaaProg
import Derived.Test.YtbjncemaeagjjaaV1
import Derived.Test.YtbjncemaeagjjaaBmknilo1
import Derived.Test.YtbjncemaeagjjaaBmknilo2
import Derived.Test.YtbjncemaeagjjaaBmknilo3
set_option linter.unusedVariables false
set_option linter.unusedSimpArgs false
namespace Go.Proofs.Ytbjncemaeagjjaa.PX
open Go.RowKit Go.Proofs.Ytbjncemaeagjjaa.G Go.Proofs.YtbjncemaeagjjaaW.PrintWords Go.Proofs.YtbjncemaeagjjaaW.PrintLast Go.Proofs.YtbjncemaeagjjaaW.PrintMore
attribute [local go_sem] max2_int min2_int max_two min_two max_three min_three max_four min_four   -- for this text's walks alone
set_option linter.unusedVariables false
set_option linter.unusedSimpArgs false
/-! ### spec_l7Bits: function 56 -/
def spec_l7Bits.l0 : Nat → Int → Int → Option (Int)
 | 0, _, _ => none
 | k + 1, x0, x3 => if x0 > 0 then (spec_l7Bits.l0 k (x0 / 2) (wrap64 (x3 + (Go.bits .and .i64 x0 1)))) else (some x3)
def spec_l7Bits.f (k : Nat) (a0 : Int) : Option (Int) := spec_l7Bits.l0 k a0 0
theorem spec_l7Bits.mono_l : ∀ k, (∀ y0 y1, LeO (spec_l7Bits.l0 k y0 y1) (spec_l7Bits.l0 (k + 1) y0 y1))
 | 0 => fun _ _ r h => by simp [spec_l7Bits.l0] at h
 | k + 1 => by
  have ih0 := spec_l7Bits.mono_l k
  ·intro y0 y1
   unfold spec_l7Bits.l0
   repeat' first
   | (with_reducible exact ih0 _ _)
   | (with_reducible exact LeO.refl _)
   | (with_reducible exact LeO.none _)
   | (with_reducible refine LeO.ite ?_ ?_)
   | (with_reducible refine LeO.bind ?_ (fun _ => ?_))
   | exact ih0 _ _
   | exact LeO.none _
   | refine LeO.ite ?_ ?_
   | refine LeO.bind ?_ (fun _ => ?_)
theorem spec_l7Bits.mono : ∀ a0 k, LeO (spec_l7Bits.f k a0) (spec_l7Bits.f (k + 1) a0) := by
 intro a0 k
 have ih0 := spec_l7Bits.mono_l k
 unfold spec_l7Bits.f
 repeat' first
   | (with_reducible exact ih0 _ _)
   | (with_reducible exact LeO.refl _)
   | (with_reducible exact LeO.none _)
   | (with_reducible refine LeO.ite ?_ ?_)
   | (with_reducible refine LeO.bind ?_ (fun _ => ?_))
   | exact ih0 _ _
   | exact LeO.none _
   | refine LeO.ite ?_ ?_
   | refine LeO.bind ?_ (fun _ => ?_)
set_option maxHeartbeats 8000000 in
set_option maxRecDepth 100000 in
theorem spec_l7Bits.calls (k : Nat) (a0 : Int) (r : Int) (w : World) (h : spec_l7Bits.f k a0 = some r) :
  Calls Try.prog 56 #[.int .i64 a0] w fun e w' => e = .returned (.int .i64 r) ∧ Drawn0 w w' := by
 have H : (spec_l7Bits.l0 k a0 0) = some r := h
 clear h
 have H' := Aside0.mk H
 clear H
 go_enter Try.func56, Try.ntmps56
 go_wp2
 go_loopg [0, 3] k (fun kq v0 v3 w' => ∃ (x0_1 : Int) (x3_1 : Int), v0 = .int .i64 x0_1 ∧ v3 = .int .i64 x3_1 ∧ Aside0 (spec_l7Bits.l0 kq x0_1 x3_1 = some r) ∧ Aside0 (kq ≤ k) ∧ Drawn0 w w')
 case atStart => exact ⟨(a0), (0), zF, zF, H', ⟨Nat.le_refl _⟩, by repeat (first | exact Drawn0.refl _ | apply Drawn0.step)⟩
 case round =>
  clear H'
  obtain ⟨x0_1, x3_1, rfl, rfl, HA, HK1, ⟨m1, rfl⟩⟩ := hrel
  cases gk with
  | zero => exact absurd HA.out (by simp [spec_l7Bits.l0])
  | succ k1 =>
   have H := HA.out
   clear HA
   simp only [spec_l7Bits.l0] at H
   by_cases c2 : x0_1 > 0
   ·rw [if_pos c2] at H
    have c2b0 : decide (0 < x0_1) = true := decide_eq_true c2
    clear c2
    have H' := Aside0.mk H
    clear H
    go_wp2
    go_roundg k1
    case measure => have := HK1.out; omega
    case rel => exact ⟨(x0_1 / 2), (wrap64 (x3_1 + (Go.bits .and .i64 x0_1 1))), zF, zF, H', ⟨by have := HK1.out; omega⟩, by repeat (first | exact Drawn0.refl _ | apply Drawn0.step)⟩
   ·rw [if_neg c2] at H
    have c2b0 : decide (0 < x0_1) = false := decide_eq_false c2
    clear c2
    obtain rfl := Option.some.inj H
    go_wp2
    go_ret
    exact ⟨by first | rfl | (simp; done) | (simp [*]; done), by repeat (first | exact Drawn0.refl _ | apply Drawn0.step)⟩
/-! ### spec_l6Has: function 51 -/
def spec_l6Has.f (a0 : Int) (a1 : Int) : Option (Bool) := if 0 ≤ (IntKind.u64.wrap (a1)) then (some ((Go.bits .and .i64 (shr .i64 a0 (IntKind.u64.wrap (a1))) 1) == 1)) else (none)
set_option maxHeartbeats 8000000 in
set_option maxRecDepth 100000 in
theorem spec_l6Has.calls (a0 : Int) (a1 : Int) (r : Bool) (w : World) (h : spec_l6Has.f a0 a1 = some r) :
  Calls Try.prog 51 #[.int .i64 a0, .int .i64 a1] w fun e w' => e = .returned (.bool r) ∧ Drawn0 w w' := by
 have H : (if 0 ≤ (IntKind.u64.wrap (a1)) then (some ((Go.bits .and .i64 (shr .i64 a0 (IntKind.u64.wrap (a1))) 1) == 1)) else (none)) = some r := h
 clear h
 obtain ⟨ji3, hji3⟩ : ∃ j_ : Int, (IntKind.u64.wrap (a1)) = j_ := ⟨_, rfl⟩
 replace H : (if 0 ≤ (ji3) then (some ((Go.bits .and .i64 (shr .i64 a0 (ji3)) 1) == 1)) else (none)) = some r := by first | (rw [hji3] at H; exact H) | (simp only [hji3] at H ⊢; exact H)
 by_cases c4 : 0 ≤ (ji3)
 ·rw [if_pos c4] at H
  have c4b0 := eq_true c4
  have c4b1 : decide (0 ≤ (ji3)) = true := decide_eq_true c4
  clear c4
  obtain ⟨ji5, hji5⟩ : ∃ j_ : Int, (shr .i64 a0 (ji3)) = j_ := ⟨_, rfl⟩
  replace H : (some ((Go.bits .and .i64 (ji5) 1) == 1)) = some r := by first | (rw [hji5] at H; exact H) | (simp only [hji5] at H ⊢; exact H)
  have hji5_ : (a0 / 2 ^ min (ji3).toNat 64) = ji5 := hji5
  have hji5z : (ji3) ≤ 64 → (a0 / 2 ^ (ji3).toNat) = ji5 := shr_small hji5
  obtain rfl := Option.some.inj H
  go_enter Try.func51, Try.ntmps51
  go_wp2
  go_ret
  exact ⟨by first | rfl | (simp; done) | (simp only [← hji3, ← hji5] <;> (first | rfl | simp)) | (simp [*]; done), by repeat (first | exact Drawn0.refl _ | apply Drawn0.step)⟩
 ·rw [if_neg c4] at H
  exact absurd H (by simp)
/-! ### spec_l1Max: function 96 -/
def spec_l1Max.f (a0 : Int) (a1 : Int) : Option (Int) := if a0 > a1 then (some a0) else (some a1)
set_option maxHeartbeats 8000000 in
set_option maxRecDepth 100000 in
theorem spec_l1Max.calls (a0 : Int) (a1 : Int) (r : Int) (w : World) (h : spec_l1Max.f a0 a1 = some r) :
  Calls Try.prog 96 #[.int .i64 a0, .int .i64 a1] w fun e w' => e = .returned (.int .i64 r) ∧ Drawn0 w w' := by
 have H : (if a0 > a1 then (some a0) else (some a1)) = some r := h
 clear h
 by_cases c3 : a0 > a1
 ·rw [if_pos c3] at H
  have c3b0 : decide (a1 < a0) = true := decide_eq_true c3
  clear c3
  obtain rfl := Option.some.inj H
  go_enter Try.func96, Try.ntmps96
  go_wp2
  go_ret
  exact ⟨by first | rfl | (simp; done) | (simp [*]; done), by repeat (first | exact Drawn0.refl _ | apply Drawn0.step)⟩
 ·rw [if_neg c3] at H
  have c3b0 : decide (a1 < a0) = false := decide_eq_false c3
  clear c3
  obtain rfl := Option.some.inj H
  go_enter Try.func96, Try.ntmps96
  go_wp2
  go_ret
  exact ⟨by first | rfl | (simp; done) | (simp [*]; done), by repeat (first | exact Drawn0.refl _ | apply Drawn0.step)⟩
/-! ### spec_l5Inner: function 89 -/
def spec_l5Inner.f (k : Nat) (a0_0 : Int) (a0_1 : ByteArray) (l1 : List Int) : Option (Int) := (spec_l5Split.f k a0_0 a0_1 l1).bind fun bt453 => ((spec_l5Only.f k bt453.1).bind fun t455 => ((spec_l5Only.f k bt453.2).bind fun t456 => ((spec_l1Max.f t455 t456).bind fun t457 => (some t457))))
theorem spec_l5Inner.mono : ∀ a0 a1 a2 k, LeO (spec_l5Inner.f k a0 a1 a2) (spec_l5Inner.f (k + 1) a0 a1 a2) := by
 intro a0 a1 a2 k
 unfold spec_l5Inner.f
 repeat' first
   | (with_reducible exact spec_l5Only.mono _ _)
   | (with_reducible exact spec_l5Split.mono _ _ _ _)
   | (with_reducible exact LeO.refl _)
   | (with_reducible exact LeO.none _)
   | (with_reducible refine LeO.ite ?_ ?_)
   | (with_reducible refine LeO.bind ?_ (fun _ => ?_))
   | exact spec_l5Only.mono _ _
   | exact spec_l5Split.mono _ _ _ _
   | exact LeO.none _
   | refine LeO.ite ?_ ?_
   | refine LeO.bind ?_ (fun _ => ?_)
set_option maxHeartbeats 8000000 in
set_option maxRecDepth 100000 in
theorem spec_l5Inner.calls (k : Nat) (a0_0 : Int) (a0_1 : ByteArray) (A1 : Option Addr) (c1 : Nat) (l1 : List Int) (r : Int) (w : World) (hr1 : Kd.C (Kd.int .i64) w A1 l1.length l1) (hc1 : l1.length ≤ c1) (h : spec_l5Inner.f k a0_0 a0_1 l1 = some r) :
  Calls Try.prog 89 #[.agg #[.int .i64 a0_0, .string a0_1], .slice A1 l1.length c1] w fun e w' => e = .returned (.int .i64 r) ∧ Below w.heap.size w w' := by
 have hu26 := Try.underlying26
 have HR1 := Aside0.mk hr1
 have HC1 := Aside0.mk hc1
 clear hr1 hc1
 have HB := Aside0.mk (Below.refl w.heap.size w)
 have H : ((spec_l5Split.f k a0_0 a0_1 l1).bind fun bt453 => ((spec_l5Only.f k bt453.1).bind fun t455 => ((spec_l5Only.f k bt453.2).bind fun t456 => ((spec_l1Max.f t455 t456).bind fun t457 => (some t457))))) = some r := h
 clear h
 replace H := Option.bind_eq_some_iff.mp H
 obtain ⟨⟨t453, t454⟩, A30, H⟩ := H
 replace H : ((spec_l5Only.f k t453).bind fun t455 => ((spec_l5Only.f k t454).bind fun t456 => ((spec_l1Max.f t455 t456).bind fun t457 => (some t457)))) = some r := H
 have A3 := Aside0.mk A30
 clear A30
 replace H := Option.bind_eq_some_iff.mp H
 obtain ⟨t455, A40, H⟩ := H
 replace H : ((spec_l5Only.f k t454).bind fun t456 => ((spec_l1Max.f t455 t456).bind fun t457 => (some t457))) = some r := H
 have A4 := Aside0.mk A40
 clear A40
 replace H := Option.bind_eq_some_iff.mp H
 obtain ⟨t456, A50, H⟩ := H
 replace H : ((spec_l1Max.f t455 t456).bind fun t457 => (some t457)) = some r := H
 have A5 := Aside0.mk A50
 clear A50
 replace H := Option.bind_eq_some_iff.mp H
 obtain ⟨t457, A60, H⟩ := H
 replace H : (some t457) = some r := H
 have A6 := Aside0.mk A60
 clear A60
 obtain rfl := Option.some.inj H
 go_enter Try.func89, Try.ntmps89
 go_wp2_with (first | ((with_reducible refine gate_dst (N := 2) rfl ?_); refine box_event ?hg (N := 2) ?hd (cs := #[.int .i64 a0_0, .string a0_1]) (t := 26) ?hr ?_; (case hd => rfl); (case hg => rfl); (case hr => first | (go_simp; done) | (go_simp; rfl)); intro gb452 hg w7 hbox hb; have BK452 := Aside0.mk (hbox); have GW452 := Aside0.mk ((by rw [hg]; exact (below_size zB) : w.heap.size ≤ gb452)); have GE452 := Aside0.mk ((by rw [hg]; exact (below_size zB) : w.heap.size ≤ gb452)); replace HB := Aside0.mk (below_step zB hb); clear hb hbox hg; have hcz8_0 : w7.cell? ⟨gb452, 0, none⟩ = some (.int .i64 a0_0) := (blk_cell BK452.out 0).trans rfl; have hcz8_1 : w7.cell? ⟨gb452, 1, none⟩ = some (.string a0_1) := (blk_cell BK452.out 1).trans rfl; have hfz8_0 := blk_frozen BK452.out 0; have hfz8_1 := blk_frozen BK452.out 1) | ((with_reducible refine gate_callee (f := 74) rfl ?_); refine goesL_ (some 10) rfl rfl Try.func74 (by kernel_rfl) rfl #[.agg #[.int .i64 a0_0, .string a0_1], .slice A1 l1.length c1] rfl zM ?_; (with_reducible refine (spec_l5Split.calls k a0_0 a0_1 _ _ l1 t453 t454 _ ?side1 ?side2 A3.out).mono ?_); (case side1 => repeat (first | exact (Kd.C_below HR1.out HB.out) | (with_reducible refine Kd.C_alloc ?_ _) | (with_reducible refine Kd.C_drewN ?_ _) | (with_reducible refine Kd.C_drew ?_))); (case side2 => exact HC1.out); rintro e w9 ⟨rfl, hb⟩; refine ⟨_, rfl, ?_⟩; replace BK452 := Aside0.mk (blk_below (g := gb452) (o := .cells #[.int .i64 a0_0, .string a0_1] 26 (0, 0)) (zK BK452.out) hb); replace HB := Aside0.mk (below_step (zG GE452.out) hb); (try clear hb)) | ((with_reducible refine gate_callee (f := 97) rfl ?_); refine goesL_ (some 14) rfl rfl Try.func97 (by kernel_rfl) rfl #[.int .i64 t453] rfl zM ?_; (with_reducible refine (spec_l5Only.calls k t453 t455 _ A4.out).mono ?_); rintro e w' ⟨rfl, ⟨nd, rfl⟩⟩; refine ⟨_, rfl, ?_⟩) | ((with_reducible refine gate_callee (f := 97) rfl ?_); refine goesL_ (some 16) rfl rfl Try.func97 (by kernel_rfl) rfl #[.int .i64 t454] rfl zM ?_; (with_reducible refine (spec_l5Only.calls k t454 t456 _ A5.out).mono ?_); rintro e w' ⟨rfl, ⟨nd, rfl⟩⟩; refine ⟨_, rfl, ?_⟩) | ((with_reducible refine gate_callee (f := 96) rfl ?_); refine goesL_ (some 17) rfl rfl Try.func96 (by kernel_rfl) rfl #[.int .i64 t455, .int .i64 t456] rfl zM ?_; (with_reducible refine (spec_l1Max.calls t455 t456 t457 _ A6.out).mono ?_); rintro e w' ⟨rfl, ⟨nd, rfl⟩⟩; refine ⟨_, rfl, ?_⟩))
 go_ret
 exact ⟨zE, zG GE452.out⟩
/-! ### spec_l6In: function 69 -/
mutual
def spec_l6In.l0 : Nat → Int → Int → Int → Int → ByteArray → Option (Bool)
 | 0, _, _, _, _, _ => none
 | k + 1, x1, x2, x7, x459000, x459001 => if x7 < x459000 then (spec_l6In.l1 k x1 x2 x7 (wrap64 (x7 + 1)) x459000 x459001) else (some false)
def spec_l6In.l1 : Nat → Int → Int → Int → Int → Int → ByteArray → Option (Bool)
 | 0, _, _, _, _, _, _ => none
 | k + 1, x1, x2, x7, x8, x459000, x459001 => if x8 < x459000 then (spec_l6In.l2 k x1 x2 x7 x8 (wrap64 (x8 + 1)) x459000 x459001) else (spec_l6In.l0 k x1 x2 (wrap64 (x7 + 1)) x459000 x459001)
def spec_l6In.l2 : Nat → Int → Int → Int → Int → Int → Int → ByteArray → Option (Bool)
 | 0, _, _, _, _, _, _, _ => none
 | k + 1, x1, x2, x7, x8, x9, x459000, x459001 => if x9 < x459000 then (if x2 = x7 then (spec_l6In.l2 k x1 x2 x7 x8 (wrap64 (x9 + 1)) x459000 x459001) else (if x2 = x8 then (spec_l6In.l2 k x1 x2 x7 x8 (wrap64 (x9 + 1)) x459000 x459001) else (if x2 = x9 then (spec_l6In.l2 k x1 x2 x7 x8 (wrap64 (x9 + 1)) x459000 x459001) else ((spec_l6Has.f x1 x7).bind fun t459 => (if t459 = true then ((spec_l6Has.f x1 x8).bind fun t460 => (if t460 = true then ((spec_l6Has.f x1 x9).bind fun t461 => (if t461 = true then ((spec_l5Inner.f k x459000 x459001 (([x2, x7, x8, x9] : List Int))).bind fun t465 => (if t465 = x2 then (some true) else (spec_l6In.l2 k x1 x2 x7 x8 (wrap64 (x9 + 1)) x459000 x459001))) else (spec_l6In.l2 k x1 x2 x7 x8 (wrap64 (x9 + 1)) x459000 x459001))) else (spec_l6In.l2 k x1 x2 x7 x8 (wrap64 (x9 + 1)) x459000 x459001))) else (spec_l6In.l2 k x1 x2 x7 x8 (wrap64 (x9 + 1)) x459000 x459001)))))) else (spec_l6In.l1 k x1 x2 x7 (wrap64 (x8 + 1)) x459000 x459001)
end
def spec_l6In.f (k : Nat) (a0_0 : Int) (a0_1 : ByteArray) (a1 : Int) (a2 : Int) : Option (Bool) := spec_l6In.l0 k a1 a2 0 a0_0 a0_1
theorem spec_l6In.mono_l : ∀ k, (∀ y0 y1 y2 y3 y4, LeO (spec_l6In.l0 k y0 y1 y2 y3 y4) (spec_l6In.l0 (k + 1) y0 y1 y2 y3 y4)) ∧ (∀ y0 y1 y2 y3 y4 y5, LeO (spec_l6In.l1 k y0 y1 y2 y3 y4 y5) (spec_l6In.l1 (k + 1) y0 y1 y2 y3 y4 y5)) ∧ (∀ y0 y1 y2 y3 y4 y5 y6, LeO (spec_l6In.l2 k y0 y1 y2 y3 y4 y5 y6) (spec_l6In.l2 (k + 1) y0 y1 y2 y3 y4 y5 y6))
 | 0 => ⟨fun _ _ _ _ _ r h => by simp [spec_l6In.l0] at h, fun _ _ _ _ _ _ r h => by simp [spec_l6In.l1] at h, fun _ _ _ _ _ _ _ r h => by simp [spec_l6In.l2] at h⟩
 | k + 1 => by
  obtain ⟨ih0, ih1, ih2⟩ := spec_l6In.mono_l k
  refine ⟨?_, ?_, ?_⟩ <;> intros <;> (first | unfold spec_l6In.l0 | unfold spec_l6In.l1 | unfold spec_l6In.l2) <;> repeat' first
  | (with_reducible exact ih0 _ _ _ _ _)
  | (with_reducible exact ih1 _ _ _ _ _ _)
  | (with_reducible exact ih2 _ _ _ _ _ _ _)
  | (with_reducible exact spec_l5Inner.mono _ _ _ _)
  | (with_reducible exact LeO.refl _)
  | (with_reducible exact LeO.none _)
  | (with_reducible refine LeO.ite ?_ ?_)
  | (with_reducible refine LeO.bind ?_ (fun _ => ?_))
  | exact ih0 _ _ _ _ _
  | exact ih1 _ _ _ _ _ _
  | exact ih2 _ _ _ _ _ _ _
  | exact spec_l5Inner.mono _ _ _ _
  | exact LeO.none _
  | refine LeO.ite ?_ ?_
  | refine LeO.bind ?_ (fun _ => ?_)
theorem spec_l6In.mono : ∀ a0 a1 a2 a3 k, LeO (spec_l6In.f k a0 a1 a2 a3) (spec_l6In.f (k + 1) a0 a1 a2 a3) := by
 intro a0 a1 a2 a3 k
 obtain ⟨ih0, ih1, ih2⟩ := spec_l6In.mono_l k
 unfold spec_l6In.f
 repeat' first
   | (with_reducible exact ih0 _ _ _ _ _)
   | (with_reducible exact ih1 _ _ _ _ _ _)
   | (with_reducible exact ih2 _ _ _ _ _ _ _)
   | (with_reducible exact spec_l5Inner.mono _ _ _ _)
   | (with_reducible exact LeO.refl _)
   | (with_reducible exact LeO.none _)
   | (with_reducible refine LeO.ite ?_ ?_)
   | (with_reducible refine LeO.bind ?_ (fun _ => ?_))
   | exact ih0 _ _ _ _ _
   | exact ih1 _ _ _ _ _ _
   | exact ih2 _ _ _ _ _ _ _
   | exact spec_l5Inner.mono _ _ _ _
   | exact LeO.none _
   | refine LeO.ite ?_ ?_
   | refine LeO.bind ?_ (fun _ => ?_)
set_option maxHeartbeats 8000000 in
set_option maxRecDepth 100000 in
theorem spec_l6In.calls (k : Nat) (a0_0 : Int) (a0_1 : ByteArray) (a1 : Int) (a2 : Int) (r : Bool) (w : World) (h : spec_l6In.f k a0_0 a0_1 a1 a2 = some r) :
  Calls Try.prog 69 #[.agg #[.int .i64 a0_0, .string a0_1], .int .i64 a1, .int .i64 a2] w fun e w' => e = .returned (.bool r) ∧ Below w.heap.size w w' := by
 have hu26 := Try.underlying26
 have HB := Aside0.mk (Below.refl w.heap.size w)
 have H : (spec_l6In.l0 k a1 a2 0 a0_0 a0_1) = some r := h
 clear h
 have H' := Aside0.mk H
 clear H
 go_enter Try.func69, Try.ntmps69
 go_wp2_with (first | ((with_reducible refine gate_dst (N := 3) rfl ?_); (try (refine gate_guard (by rfl) ?_; dsimp only)); refine box_event ?hg (N := 3) ?hd (cs := #[.int .i64 a0_0, .string a0_1]) (t := 26) ?hr ?_; (case hd => rfl); (case hg => rfl); (case hr => first | (go_simp; done) | (go_simp; rfl)); intro gb458 hg w4 hbox hb; have BK458 := Aside0.mk (hbox); have GW458 := Aside0.mk ((by rw [hg]; exact (below_size zB) : w.heap.size ≤ gb458)); have GE458 := Aside0.mk ((by rw [hg]; exact (below_size zB) : w.heap.size ≤ gb458)); replace HB := Aside0.mk (below_step zB hb); clear hb hbox hg))
 go_loopg [7] k (fun kq v7 w' => ∃ (x7_1 : Int), v7 = .int .i64 x7_1 ∧ Aside0 (spec_l6In.l0 kq a1 a2 x7_1 a0_0 a0_1 = some r) ∧ Aside0 (kq ≤ k) ∧ Aside0 (w'.heap[gb458]? = some (.cells #[.int .i64 a0_0, .string a0_1] 26 (0, 0))) ∧ Aside0 (Below w.heap.size w w'))
 case atStart => exact ⟨(0), zF, H', ⟨Nat.le_refl _⟩, ⟨zK BK458.out⟩, ⟨zG GE458.out⟩⟩
 case round =>
  clear H'
  try clear p2
  obtain ⟨x7_1, rfl, HA, HK1, BK458, HB⟩ := hrel
  cases gk with
  | zero => exact absurd HA.out (by simp [spec_l6In.l0])
  | succ k1 =>
   have H := HA.out
   clear HA
   simp only [spec_l6In.l0] at H
   by_cases c5 : x7_1 < a0_0
   ·rw [if_pos c5] at H
    have c5b0 : decide (x7_1 < a0_0) = true := decide_eq_true c5
    clear c5
    have H' := Aside0.mk H
    clear H
    have hcz6_0 : wr.cell? ⟨gb458, 0, none⟩ = some (.int .i64 a0_0) := (blk_cell BK458.out 0).trans rfl
    have hcz6_1 : wr.cell? ⟨gb458, 1, none⟩ = some (.string a0_1) := (blk_cell BK458.out 1).trans rfl
    have hfz6_0 := blk_frozen BK458.out 0
    have hfz6_1 := blk_frozen BK458.out 1
    go_wp2
    go_loopg [8] k1 (fun kq v8 w' => ∃ (x8_2 : Int), v8 = .int .i64 x8_2 ∧ Aside0 (spec_l6In.l1 kq a1 a2 x7_1 x8_2 a0_0 a0_1 = some r) ∧ Aside0 (kq ≤ k1) ∧ Aside0 (w'.heap[gb458]? = some (.cells #[.int .i64 a0_0, .string a0_1] 26 (0, 0))) ∧ Aside0 (Below w.heap.size w w'))
    case atStart => exact ⟨(wrap64 (x7_1 + 1)), zF, H', ⟨Nat.le_refl _⟩, ⟨zK BK458.out⟩, ⟨zG GE458.out⟩⟩
    case round =>
     clear H'
     try clear p2
     try clear c5
     try clear c5b0
     try clear c6
     try clear p6
     try clear hcz6_0
     try clear hcz6_1
     try clear hfz6_0
     try clear hfz6_1
     try clear p2
     obtain ⟨x8_2, rfl, HA, HK2, BK458, HB⟩ := hrel
     cases gk with
     | zero => exact absurd HA.out (by simp [spec_l6In.l1])
     | succ k2 =>
      have H := HA.out
      clear HA
      simp only [spec_l6In.l1] at H
      by_cases c7 : x8_2 < a0_0
      ·rw [if_pos c7] at H
       have c7b0 : decide (x8_2 < a0_0) = true := decide_eq_true c7
       clear c7
       have H' := Aside0.mk H
       clear H
       have hcz8_0 : wr.cell? ⟨gb458, 0, none⟩ = some (.int .i64 a0_0) := (blk_cell BK458.out 0).trans rfl
       have hcz8_1 : wr.cell? ⟨gb458, 1, none⟩ = some (.string a0_1) := (blk_cell BK458.out 1).trans rfl
       have hfz8_0 := blk_frozen BK458.out 0
       have hfz8_1 := blk_frozen BK458.out 1
       go_wp2
       go_loopg [9] k2 (fun kq v9 w' => ∃ (x9_3 : Int), v9 = .int .i64 x9_3 ∧ Aside0 (spec_l6In.l2 kq a1 a2 x7_1 x8_2 x9_3 a0_0 a0_1 = some r) ∧ Aside0 (kq ≤ k2) ∧ Aside0 (w'.heap[gb458]? = some (.cells #[.int .i64 a0_0, .string a0_1] 26 (0, 0))) ∧ Aside0 (Below w.heap.size w w'))
       case atStart => exact ⟨(wrap64 (x8_2 + 1)), zF, H', ⟨Nat.le_refl _⟩, ⟨zK BK458.out⟩, ⟨zG GE458.out⟩⟩
       case round =>
        clear H'
        try clear p2
        try clear c5
        try clear c5b0
        try clear c6
        try clear p6
        try clear c7
        try clear c7b0
        try clear hcz6_0
        try clear hcz6_1
        try clear hcz8_0
        try clear hcz8_1
        try clear hfz6_0
        try clear hfz6_1
        try clear hfz8_0
        try clear hfz8_1
        try clear p2
        try clear p6
        obtain ⟨x9_3, rfl, HA, HK3, BK458, HB⟩ := hrel
        cases gk with
        | zero => exact absurd HA.out (by simp [spec_l6In.l2])
        | succ k3 =>
         have H := HA.out
         clear HA
         simp only [spec_l6In.l2] at H
         by_cases c9 : x9_3 < a0_0
         ·rw [if_pos c9] at H
          have c9b0 : decide (x9_3 < a0_0) = true := decide_eq_true c9
          clear c9
          by_cases c10 : a2 = x7_1
          ·rw [if_pos c10] at H
           have c10b0 : (a2 == x7_1) = true := beq_iff_eq.mpr c10
           have c10b1 : (a2 != x7_1) = false := bne_eq_false_iff_eq.mpr c10
           clear c10
           have H' := Aside0.mk H
           clear H
           have hcz11_0 : wr.cell? ⟨gb458, 0, none⟩ = some (.int .i64 a0_0) := (blk_cell BK458.out 0).trans rfl
           have hcz11_1 : wr.cell? ⟨gb458, 1, none⟩ = some (.string a0_1) := (blk_cell BK458.out 1).trans rfl
           have hfz11_0 := blk_frozen BK458.out 0
           have hfz11_1 := blk_frozen BK458.out 1
           go_wp2
           go_roundg k3
           case measure => have := HK1.out; have := HK2.out; have := HK3.out; omega
           case rel => exact ⟨(wrap64 (x9_3 + 1)), zF, H', ⟨by have := HK1.out; have := HK2.out; have := HK3.out; omega⟩, ⟨zK BK458.out⟩, ⟨zG GE458.out⟩⟩
          ·rw [if_neg c10] at H
           have c10b0 : (a2 == x7_1) = false := beq_eq_false_iff_ne.mpr c10
           have c10b1 : (a2 != x7_1) = true := bne_iff_ne.mpr c10
           by_cases c12 : a2 = x8_2
           ·rw [if_pos c12] at H
            have c12b0 : (a2 == x8_2) = true := beq_iff_eq.mpr c12
            have c12b1 : (a2 != x8_2) = false := bne_eq_false_iff_eq.mpr c12
            clear c12
            have H' := Aside0.mk H
            clear H
            have hcz13_0 : wr.cell? ⟨gb458, 0, none⟩ = some (.int .i64 a0_0) := (blk_cell BK458.out 0).trans rfl
            have hcz13_1 : wr.cell? ⟨gb458, 1, none⟩ = some (.string a0_1) := (blk_cell BK458.out 1).trans rfl
            have hfz13_0 := blk_frozen BK458.out 0
            have hfz13_1 := blk_frozen BK458.out 1
            go_wp2
            go_roundg k3
            case measure => have := HK1.out; have := HK2.out; have := HK3.out; omega
            case rel => exact ⟨(wrap64 (x9_3 + 1)), zF, H', ⟨by have := HK1.out; have := HK2.out; have := HK3.out; omega⟩, ⟨zK BK458.out⟩, ⟨zG GE458.out⟩⟩
           ·rw [if_neg c12] at H
            have c12b0 : (a2 == x8_2) = false := beq_eq_false_iff_ne.mpr c12
            have c12b1 : (a2 != x8_2) = true := bne_iff_ne.mpr c12
            by_cases c14 : a2 = x9_3
            ·rw [if_pos c14] at H
             have c14b0 : (a2 == x9_3) = true := beq_iff_eq.mpr c14
             have c14b1 : (a2 != x9_3) = false := bne_eq_false_iff_eq.mpr c14
             clear c14
             have H' := Aside0.mk H
             clear H
             have hcz15_0 : wr.cell? ⟨gb458, 0, none⟩ = some (.int .i64 a0_0) := (blk_cell BK458.out 0).trans rfl
             have hcz15_1 : wr.cell? ⟨gb458, 1, none⟩ = some (.string a0_1) := (blk_cell BK458.out 1).trans rfl
             have hfz15_0 := blk_frozen BK458.out 0
             have hfz15_1 := blk_frozen BK458.out 1
             go_wp2
             go_roundg k3
             case measure => have := HK1.out; have := HK2.out; have := HK3.out; omega
             case rel => exact ⟨(wrap64 (x9_3 + 1)), zF, H', ⟨by have := HK1.out; have := HK2.out; have := HK3.out; omega⟩, ⟨zK BK458.out⟩, ⟨zG GE458.out⟩⟩
            ·rw [if_neg c14] at H
             have c14b0 : (a2 == x9_3) = false := beq_eq_false_iff_ne.mpr c14
             have c14b1 : (a2 != x9_3) = true := bne_iff_ne.mpr c14
             replace H := Option.bind_eq_some_iff.mp H
             obtain ⟨t459, A160, H⟩ := H
             replace H : (if t459 = true then ((spec_l6Has.f a1 x8_2).bind fun t460 => (if t460 = true then ((spec_l6Has.f a1 x9_3).bind fun t461 => (if t461 = true then ((spec_l5Inner.f k3 a0_0 a0_1 (([a2, x7_1, x8_2, x9_3] : List Int))).bind fun t465 => (if t465 = a2 then (some true) else (spec_l6In.l2 k3 a1 a2 x7_1 x8_2 (wrap64 (x9_3 + 1)) a0_0 a0_1))) else (spec_l6In.l2 k3 a1 a2 x7_1 x8_2 (wrap64 (x9_3 + 1)) a0_0 a0_1))) else (spec_l6In.l2 k3 a1 a2 x7_1 x8_2 (wrap64 (x9_3 + 1)) a0_0 a0_1))) else (spec_l6In.l2 k3 a1 a2 x7_1 x8_2 (wrap64 (x9_3 + 1)) a0_0 a0_1)) = some r := H
             have A16 := Aside0.mk A160
             clear A160
             by_cases c17 : t459 = true
             ·subst c17
              have H1 : ((spec_l6Has.f a1 x8_2).bind fun t460 => (if t460 = true then ((spec_l6Has.f a1 x9_3).bind fun t461 => (if t461 = true then ((spec_l5Inner.f k3 a0_0 a0_1 (([a2, x7_1, x8_2, x9_3] : List Int))).bind fun t465 => (if t465 = a2 then (some true) else (spec_l6In.l2 k3 a1 a2 x7_1 x8_2 (wrap64 (x9_3 + 1)) a0_0 a0_1))) else (spec_l6In.l2 k3 a1 a2 x7_1 x8_2 (wrap64 (x9_3 + 1)) a0_0 a0_1))) else (spec_l6In.l2 k3 a1 a2 x7_1 x8_2 (wrap64 (x9_3 + 1)) a0_0 a0_1))) = some r := by rw [if_pos rfl] at H; exact H
              clear H
              have H := H1
              clear H1
              replace H := Option.bind_eq_some_iff.mp H
              obtain ⟨t460, A180, H⟩ := H
              replace H : (if t460 = true then ((spec_l6Has.f a1 x9_3).bind fun t461 => (if t461 = true then ((spec_l5Inner.f k3 a0_0 a0_1 (([a2, x7_1, x8_2, x9_3] : List Int))).bind fun t465 => (if t465 = a2 then (some true) else (spec_l6In.l2 k3 a1 a2 x7_1 x8_2 (wrap64 (x9_3 + 1)) a0_0 a0_1))) else (spec_l6In.l2 k3 a1 a2 x7_1 x8_2 (wrap64 (x9_3 + 1)) a0_0 a0_1))) else (spec_l6In.l2 k3 a1 a2 x7_1 x8_2 (wrap64 (x9_3 + 1)) a0_0 a0_1)) = some r := H
              have A18 := Aside0.mk A180
              clear A180
              by_cases c19 : t460 = true
              ·subst c19
               have H1 : ((spec_l6Has.f a1 x9_3).bind fun t461 => (if t461 = true then ((spec_l5Inner.f k3 a0_0 a0_1 (([a2, x7_1, x8_2, x9_3] : List Int))).bind fun t465 => (if t465 = a2 then (some true) else (spec_l6In.l2 k3 a1 a2 x7_1 x8_2 (wrap64 (x9_3 + 1)) a0_0 a0_1))) else (spec_l6In.l2 k3 a1 a2 x7_1 x8_2 (wrap64 (x9_3 + 1)) a0_0 a0_1))) = some r := by rw [if_pos rfl] at H; exact H
               clear H
               have H := H1
               clear H1
               replace H := Option.bind_eq_some_iff.mp H
               obtain ⟨t461, A200, H⟩ := H
               replace H : (if t461 = true then ((spec_l5Inner.f k3 a0_0 a0_1 (([a2, x7_1, x8_2, x9_3] : List Int))).bind fun t465 => (if t465 = a2 then (some true) else (spec_l6In.l2 k3 a1 a2 x7_1 x8_2 (wrap64 (x9_3 + 1)) a0_0 a0_1))) else (spec_l6In.l2 k3 a1 a2 x7_1 x8_2 (wrap64 (x9_3 + 1)) a0_0 a0_1)) = some r := H
               have A20 := Aside0.mk A200
               clear A200
               by_cases c21 : t461 = true
               ·subst c21
                have H1 : ((spec_l5Inner.f k3 a0_0 a0_1 (([a2, x7_1, x8_2, x9_3] : List Int))).bind fun t465 => (if t465 = a2 then (some true) else (spec_l6In.l2 k3 a1 a2 x7_1 x8_2 (wrap64 (x9_3 + 1)) a0_0 a0_1))) = some r := by rw [if_pos rfl] at H; exact H
                clear H
                have H := H1
                clear H1
                obtain ⟨y462, hy462⟩ : ∃ y_ : List Int, y_ = (([a2, x7_1, x8_2, x9_3] : List Int)) := ⟨_, rfl⟩
                replace H : ((spec_l5Inner.f k3 a0_0 a0_1 y462).bind fun t465 => (if t465 = a2 then (some true) else (spec_l6In.l2 k3 a1 a2 x7_1 x8_2 (wrap64 (x9_3 + 1)) a0_0 a0_1))) = some r := by first | (rw [hy462]; with_reducible exact H) | (have H2_ := (Option.bind_some _ _).symm.trans H; rw [hy462]; with_reducible exact H2_) | (have H2_ := (Option.bind_some _ _).symm.trans H; with_reducible exact H2_) | with_reducible exact H | (rw [hy462]; exact H) | exact H
                have Ny462 := Aside0.mk hy462
                clear hy462
                replace H := Option.bind_eq_some_iff.mp H
                obtain ⟨t465, A220, H⟩ := H
                replace H : (if t465 = a2 then (some true) else (spec_l6In.l2 k3 a1 a2 x7_1 x8_2 (wrap64 (x9_3 + 1)) a0_0 a0_1)) = some r := H
                have A22 := Aside0.mk A220
                clear A220
                by_cases c23 : t465 = a2
                ·rw [if_pos c23] at H
                 have c23b0 : (t465 == a2) = true := beq_iff_eq.mpr c23
                 have c23b1 : (t465 != a2) = false := bne_eq_false_iff_eq.mpr c23
                 clear c23
                 obtain rfl := Option.some.inj H
                 have hcz24_0 : wr.cell? ⟨gb458, 0, none⟩ = some (.int .i64 a0_0) := (blk_cell BK458.out 0).trans rfl
                 have hcz24_1 : wr.cell? ⟨gb458, 1, none⟩ = some (.string a0_1) := (blk_cell BK458.out 1).trans rfl
                 have hfz24_0 := blk_frozen BK458.out 0
                 have hfz24_1 := blk_frozen BK458.out 1
                 go_wp2_with (first | (go_at_call 51; (with_reducible refine (spec_l6Has.calls a1 x7_1 true _ A16.out).mono ?_); rintro e w' ⟨rfl, ⟨nd, rfl⟩⟩) | (go_at_call 51; (with_reducible refine (spec_l6Has.calls a1 x8_2 true _ A18.out).mono ?_); rintro e w' ⟨rfl, ⟨nd, rfl⟩⟩) | (go_at_call 51; (with_reducible refine (spec_l6Has.calls a1 x9_3 true _ A20.out).mono ?_); rintro e w' ⟨rfl, ⟨nd, rfl⟩⟩) | ((with_reducible refine gate_dst (N := 66) rfl ?_); (try (refine gate_guard (by rfl) ?_; dsimp only)); refine Kd.R_lit (Kd.int .i64) _ 3 ?hg (N := 66) ?hd (xs := ([a2, x7_1, x8_2, x9_3] : List Int)) (inner := [.int .i64 a2, .int .i64 x7_1, .int .i64 x8_2, .int .i64 x9_3]) (ok := fun _ => True) (okp := fun _ => True) ?hr ?hp (fun _ hk => hk) trivial (Below.refl _ _) (Nat.le_refl _) (by simp) ?_; (case hd => rfl); (case hg => rfl); (case hr => first | (go_simp; done) | (go_simp; rfl)); (case hp => exact (Reps.one (show Kd.M (Kd.int .i64) _ _ _ a2 [.int .i64 a2] from rfl) (Reps.one (show Kd.M (Kd.int .i64) _ _ _ x7_1 [.int .i64 x7_1] from rfl) (Reps.one (show Kd.M (Kd.int .i64) _ _ _ x8_2 [.int .i64 x8_2] from rfl) (Reps.one (show Kd.M (Kd.int .i64) _ _ _ x9_3 [.int .i64 x9_3] from rfl) (Reps.none _ _)))))); intro v463 w25 ho26 hb hg_ hnew_; clear hg_ hnew_; (first | rw [← Ny462.out] at ho26 | (simp only [Int.reduceToNat] at ho26; rw [← Ny462.out] at ho26)); have HO464 := Aside0.mk (Kd.R_lower ho26 (below_size (zG GE458.out))); replace BK458 := Aside0.mk (blk_below (g := gb458) (o := .cells #[.int .i64 a0_0, .string a0_1] 26 (0, 0)) (zK BK458.out) hb); replace HB := Aside0.mk (below_step (zG GE458.out) hb); clear hb ho26; obtain ⟨Ao27, co27, eo27⟩ := Kd.R_slice HO464.out; subst eo27) | (go_at_call 89; (with_reducible refine (spec_l5Inner.calls k3 a0_0 a0_1 _ _ y462 t465 _ ?side1 ?side2 A22.out).mono ?_); (case side1 => repeat (first | exact (Kd.R_reads' HO464.out).2.2 | (with_reducible refine Kd.C_alloc ?_ _) | (with_reducible refine Kd.C_drewN ?_ _) | (with_reducible refine Kd.C_drew ?_))); (case side2 => exact (Kd.R_reads' HO464.out).2.1); rintro e w28 ⟨rfl, hb⟩; replace HO464 := Aside0.mk (Kd.R_below (zR HO464.out) hb); replace BK458 := Aside0.mk (blk_below (g := gb458) (o := .cells #[.int .i64 a0_0, .string a0_1] 26 (0, 0)) (zK BK458.out) hb); replace HB := Aside0.mk (below_step (zG GE458.out) hb); (try clear hb); (try clear hb2); (try clear hk); (try clear hi)))
                 go_ret
                 exact ⟨zE, zG GE458.out⟩
                ·rw [if_neg c23] at H
                 have c23b0 : (t465 == a2) = false := beq_eq_false_iff_ne.mpr c23
                 have c23b1 : (t465 != a2) = true := bne_iff_ne.mpr c23
                 have H' := Aside0.mk H
                 clear H
                 have hcz29_0 : wr.cell? ⟨gb458, 0, none⟩ = some (.int .i64 a0_0) := (blk_cell BK458.out 0).trans rfl
                 have hcz29_1 : wr.cell? ⟨gb458, 1, none⟩ = some (.string a0_1) := (blk_cell BK458.out 1).trans rfl
                 have hfz29_0 := blk_frozen BK458.out 0
                 have hfz29_1 := blk_frozen BK458.out 1
                 go_wp2_with (first | (go_at_call 51; (with_reducible refine (spec_l6Has.calls a1 x7_1 true _ A16.out).mono ?_); rintro e w' ⟨rfl, ⟨nd, rfl⟩⟩) | (go_at_call 51; (with_reducible refine (spec_l6Has.calls a1 x8_2 true _ A18.out).mono ?_); rintro e w' ⟨rfl, ⟨nd, rfl⟩⟩) | (go_at_call 51; (with_reducible refine (spec_l6Has.calls a1 x9_3 true _ A20.out).mono ?_); rintro e w' ⟨rfl, ⟨nd, rfl⟩⟩) | ((with_reducible refine gate_dst (N := 66) rfl ?_); (try (refine gate_guard (by rfl) ?_; dsimp only)); refine Kd.R_lit (Kd.int .i64) _ 3 ?hg (N := 66) ?hd (xs := ([a2, x7_1, x8_2, x9_3] : List Int)) (inner := [.int .i64 a2, .int .i64 x7_1, .int .i64 x8_2, .int .i64 x9_3]) (ok := fun _ => True) (okp := fun _ => True) ?hr ?hp (fun _ hk => hk) trivial (Below.refl _ _) (Nat.le_refl _) (by simp) ?_; (case hd => rfl); (case hg => rfl); (case hr => first | (go_simp; done) | (go_simp; rfl)); (case hp => exact (Reps.one (show Kd.M (Kd.int .i64) _ _ _ a2 [.int .i64 a2] from rfl) (Reps.one (show Kd.M (Kd.int .i64) _ _ _ x7_1 [.int .i64 x7_1] from rfl) (Reps.one (show Kd.M (Kd.int .i64) _ _ _ x8_2 [.int .i64 x8_2] from rfl) (Reps.one (show Kd.M (Kd.int .i64) _ _ _ x9_3 [.int .i64 x9_3] from rfl) (Reps.none _ _)))))); intro v463 w30 ho31 hb hg_ hnew_; clear hg_ hnew_; (first | rw [← Ny462.out] at ho31 | (simp only [Int.reduceToNat] at ho31; rw [← Ny462.out] at ho31)); have HO464 := Aside0.mk (Kd.R_lower ho31 (below_size (zG GE458.out))); replace BK458 := Aside0.mk (blk_below (g := gb458) (o := .cells #[.int .i64 a0_0, .string a0_1] 26 (0, 0)) (zK BK458.out) hb); replace HB := Aside0.mk (below_step (zG GE458.out) hb); clear hb ho31; obtain ⟨Ao32, co32, eo32⟩ := Kd.R_slice HO464.out; subst eo32) | (go_at_call 89; (with_reducible refine (spec_l5Inner.calls k3 a0_0 a0_1 _ _ y462 t465 _ ?side1 ?side2 A22.out).mono ?_); (case side1 => repeat (first | exact (Kd.R_reads' HO464.out).2.2 | (with_reducible refine Kd.C_alloc ?_ _) | (with_reducible refine Kd.C_drewN ?_ _) | (with_reducible refine Kd.C_drew ?_))); (case side2 => exact (Kd.R_reads' HO464.out).2.1); rintro e w33 ⟨rfl, hb⟩; replace HO464 := Aside0.mk (Kd.R_below (zR HO464.out) hb); replace BK458 := Aside0.mk (blk_below (g := gb458) (o := .cells #[.int .i64 a0_0, .string a0_1] 26 (0, 0)) (zK BK458.out) hb); replace HB := Aside0.mk (below_step (zG GE458.out) hb); (try clear hb); (try clear hb2); (try clear hk); (try clear hi)))
                 go_roundg k3
                 case measure => have := HK1.out; have := HK2.out; have := HK3.out; omega
                 case rel => exact ⟨(wrap64 (x9_3 + 1)), zF, H', ⟨by have := HK1.out; have := HK2.out; have := HK3.out; omega⟩, ⟨zK BK458.out⟩, ⟨zG GE458.out⟩⟩
               ·replace c21 := Bool.eq_false_iff.mpr c21
                subst c21
                have H1 : (spec_l6In.l2 k3 a1 a2 x7_1 x8_2 (wrap64 (x9_3 + 1)) a0_0 a0_1) = some r := by rw [if_neg (show ¬ (false = true) by decide)] at H; exact H
                clear H
                have H := H1
                clear H1
                have H' := Aside0.mk H
                clear H
                have hcz34_0 : wr.cell? ⟨gb458, 0, none⟩ = some (.int .i64 a0_0) := (blk_cell BK458.out 0).trans rfl
                have hcz34_1 : wr.cell? ⟨gb458, 1, none⟩ = some (.string a0_1) := (blk_cell BK458.out 1).trans rfl
                have hfz34_0 := blk_frozen BK458.out 0
                have hfz34_1 := blk_frozen BK458.out 1
                go_wp2_with (first | (go_at_call 51; (with_reducible refine (spec_l6Has.calls a1 x7_1 true _ A16.out).mono ?_); rintro e w' ⟨rfl, ⟨nd, rfl⟩⟩) | (go_at_call 51; (with_reducible refine (spec_l6Has.calls a1 x8_2 true _ A18.out).mono ?_); rintro e w' ⟨rfl, ⟨nd, rfl⟩⟩) | (go_at_call 51; (with_reducible refine (spec_l6Has.calls a1 x9_3 false _ A20.out).mono ?_); rintro e w' ⟨rfl, ⟨nd, rfl⟩⟩))
                go_roundg k3
                case measure => have := HK1.out; have := HK2.out; have := HK3.out; omega
                case rel => exact ⟨(wrap64 (x9_3 + 1)), zF, H', ⟨by have := HK1.out; have := HK2.out; have := HK3.out; omega⟩, ⟨zK BK458.out⟩, ⟨zG GE458.out⟩⟩
              ·replace c19 := Bool.eq_false_iff.mpr c19
               subst c19
               have H1 : (spec_l6In.l2 k3 a1 a2 x7_1 x8_2 (wrap64 (x9_3 + 1)) a0_0 a0_1) = some r := by rw [if_neg (show ¬ (false = true) by decide)] at H; exact H
               clear H
               have H := H1
               clear H1
               have H' := Aside0.mk H
               clear H
               have hcz35_0 : wr.cell? ⟨gb458, 0, none⟩ = some (.int .i64 a0_0) := (blk_cell BK458.out 0).trans rfl
               have hcz35_1 : wr.cell? ⟨gb458, 1, none⟩ = some (.string a0_1) := (blk_cell BK458.out 1).trans rfl
               have hfz35_0 := blk_frozen BK458.out 0
               have hfz35_1 := blk_frozen BK458.out 1
               go_wp2_with (first | (go_at_call 51; (with_reducible refine (spec_l6Has.calls a1 x7_1 true _ A16.out).mono ?_); rintro e w' ⟨rfl, ⟨nd, rfl⟩⟩) | (go_at_call 51; (with_reducible refine (spec_l6Has.calls a1 x8_2 false _ A18.out).mono ?_); rintro e w' ⟨rfl, ⟨nd, rfl⟩⟩))
               go_roundg k3
               case measure => have := HK1.out; have := HK2.out; have := HK3.out; omega
               case rel => exact ⟨(wrap64 (x9_3 + 1)), zF, H', ⟨by have := HK1.out; have := HK2.out; have := HK3.out; omega⟩, ⟨zK BK458.out⟩, ⟨zG GE458.out⟩⟩
             ·replace c17 := Bool.eq_false_iff.mpr c17
              subst c17
              have H1 : (spec_l6In.l2 k3 a1 a2 x7_1 x8_2 (wrap64 (x9_3 + 1)) a0_0 a0_1) = some r := by rw [if_neg (show ¬ (false = true) by decide)] at H; exact H
              clear H
              have H := H1
              clear H1
              have H' := Aside0.mk H
              clear H
              have hcz36_0 : wr.cell? ⟨gb458, 0, none⟩ = some (.int .i64 a0_0) := (blk_cell BK458.out 0).trans rfl
              have hcz36_1 : wr.cell? ⟨gb458, 1, none⟩ = some (.string a0_1) := (blk_cell BK458.out 1).trans rfl
              have hfz36_0 := blk_frozen BK458.out 0
              have hfz36_1 := blk_frozen BK458.out 1
              go_wp2_with (first | (go_at_call 51; (with_reducible refine (spec_l6Has.calls a1 x7_1 false _ A16.out).mono ?_); rintro e w' ⟨rfl, ⟨nd, rfl⟩⟩))
              go_roundg k3
              case measure => have := HK1.out; have := HK2.out; have := HK3.out; omega
              case rel => exact ⟨(wrap64 (x9_3 + 1)), zF, H', ⟨by have := HK1.out; have := HK2.out; have := HK3.out; omega⟩, ⟨zK BK458.out⟩, ⟨zG GE458.out⟩⟩
         ·rw [if_neg c9] at H
          have c9b0 : decide (x9_3 < a0_0) = false := decide_eq_false c9
          clear c9
          have H' := Aside0.mk H
          clear H
          have hcz37_0 : wr.cell? ⟨gb458, 0, none⟩ = some (.int .i64 a0_0) := (blk_cell BK458.out 0).trans rfl
          have hcz37_1 : wr.cell? ⟨gb458, 1, none⟩ = some (.string a0_1) := (blk_cell BK458.out 1).trans rfl
          have hfz37_0 := blk_frozen BK458.out 0
          have hfz37_1 := blk_frozen BK458.out 1
          go_wp2
          go_roundg k3
          case measure => have := HK1.out; have := HK2.out; have := HK3.out; omega
          case rel => exact ⟨(wrap64 (x8_2 + 1)), zF, H', ⟨by have := HK1.out; have := HK2.out; have := HK3.out; omega⟩, ⟨zK BK458.out⟩, ⟨zG GE458.out⟩⟩
      ·rw [if_neg c7] at H
       have c7b0 : decide (x8_2 < a0_0) = false := decide_eq_false c7
       clear c7
       have H' := Aside0.mk H
       clear H
       have hcz38_0 : wr.cell? ⟨gb458, 0, none⟩ = some (.int .i64 a0_0) := (blk_cell BK458.out 0).trans rfl
       have hcz38_1 : wr.cell? ⟨gb458, 1, none⟩ = some (.string a0_1) := (blk_cell BK458.out 1).trans rfl
       have hfz38_0 := blk_frozen BK458.out 0
       have hfz38_1 := blk_frozen BK458.out 1
       go_wp2
       go_roundg k2
       case measure => have := HK1.out; have := HK2.out; omega
       case rel => exact ⟨(wrap64 (x7_1 + 1)), zF, H', ⟨by have := HK1.out; have := HK2.out; omega⟩, ⟨zK BK458.out⟩, ⟨zG GE458.out⟩⟩
   ·rw [if_neg c5] at H
    have c5b0 : decide (x7_1 < a0_0) = false := decide_eq_false c5
    clear c5
    obtain rfl := Option.some.inj H
    have hcz39_0 : wr.cell? ⟨gb458, 0, none⟩ = some (.int .i64 a0_0) := (blk_cell BK458.out 0).trans rfl
    have hcz39_1 : wr.cell? ⟨gb458, 1, none⟩ = some (.string a0_1) := (blk_cell BK458.out 1).trans rfl
    have hfz39_0 := blk_frozen BK458.out 0
    have hfz39_1 := blk_frozen BK458.out 1
    go_wp2
    go_ret
    exact ⟨zE, zG GE458.out⟩
/-! ### impl_fullSet: function 48 -/
def impl_fullSet.f (a0 : Int) : Option (Int) := if 0 ≤ a0 then (some (wrap64 ((shl .i64 1 a0) - 1))) else (none)
set_option maxHeartbeats 8000000 in
set_option maxRecDepth 100000 in
theorem impl_fullSet.calls (a0 : Int) (r : Int) (w : World) (h : impl_fullSet.f a0 = some r) :
  Calls Try.prog 48 #[.int .i64 a0] w fun e w' => e = .returned (.int .i64 r) ∧ Drawn0 w w' := by
 have H : (if 0 ≤ a0 then (some (wrap64 ((shl .i64 1 a0) - 1))) else (none)) = some r := h
 clear h
 by_cases c2 : 0 ≤ a0
 ·rw [if_pos c2] at H
  have c2b0 := eq_true c2
  have c2b1 : decide (0 ≤ a0) = true := decide_eq_true c2
  clear c2
  obtain ⟨ji3, hji3⟩ : ∃ j_ : Int, (shl .i64 1 a0) = j_ := ⟨_, rfl⟩
  replace H : (some (wrap64 ((ji3) - 1))) = some r := by first | (rw [hji3] at H; exact H) | (simp only [hji3] at H ⊢; exact H)
  have hji3_ : (IntKind.i64.wrap (1 * 2 ^ min a0.toNat 64)) = ji3 := hji3
  have hji3z : a0 ≤ 64 → (IntKind.i64.wrap (1 * 2 ^ a0.toNat)) = ji3 := shl_small hji3
  have hji3u : (IntKind.i64.wrap (2 ^ min a0.toNat 64)) = ji3 := by have h_ := hji3_; rw [Int.one_mul] at h_; exact h_
  have hji3v : a0 ≤ 64 → (IntKind.i64.wrap (2 ^ a0.toNat)) = ji3 := fun hle_ => by have h_ := hji3z hle_; rw [Int.one_mul] at h_; exact h_
  have hji3y : (wrap64 (1 * 2 ^ min a0.toNat 64)) = ji3 := (i64_w _).symm.trans hji3_
  have hji3x : a0 ≤ 64 → (wrap64 (1 * 2 ^ a0.toNat)) = ji3 := fun h_ => (i64_w _).symm.trans (hji3z h_)
  obtain rfl := Option.some.inj H
  go_enter Try.func48, Try.ntmps48
  go_wp2
  go_ret
  exact ⟨by first | rfl | (simp; done) | (simp only [← hji3] <;> (first | rfl | simp)) | (simp [*]; done), by repeat (first | exact Drawn0.refl _ | apply Drawn0.step)⟩
 ·rw [if_neg c2] at H
  exact absurd H (by simp)
/-! ### bits_OnesCount64: function 76 -/
def bits_OnesCount64.f (a0 : Int) : Option (Int) := some (Go.bits .and .i64 (wrap64 (IntKind.u64.wrap ((IntKind.u64.wrap ((IntKind.u64.wrap ((Go.bits .and .u64 (IntKind.u64.wrap (((IntKind.u64.wrap ((Go.bits .and .u64 ((IntKind.u64.wrap ((Go.bits .and .u64 (a0 / 2) 6148914691236517205) + (Go.bits .and .u64 a0 6148914691236517205))) / 4) 3689348814741910323) + (Go.bits .and .u64 (IntKind.u64.wrap ((Go.bits .and .u64 (a0 / 2) 6148914691236517205) + (Go.bits .and .u64 a0 6148914691236517205))) 3689348814741910323))) / 16) + (IntKind.u64.wrap ((Go.bits .and .u64 ((IntKind.u64.wrap ((Go.bits .and .u64 (a0 / 2) 6148914691236517205) + (Go.bits .and .u64 a0 6148914691236517205))) / 4) 3689348814741910323) + (Go.bits .and .u64 (IntKind.u64.wrap ((Go.bits .and .u64 (a0 / 2) 6148914691236517205) + (Go.bits .and .u64 a0 6148914691236517205))) 3689348814741910323))))) 1085102592571150095) + ((Go.bits .and .u64 (IntKind.u64.wrap (((IntKind.u64.wrap ((Go.bits .and .u64 ((IntKind.u64.wrap ((Go.bits .and .u64 (a0 / 2) 6148914691236517205) + (Go.bits .and .u64 a0 6148914691236517205))) / 4) 3689348814741910323) + (Go.bits .and .u64 (IntKind.u64.wrap ((Go.bits .and .u64 (a0 / 2) 6148914691236517205) + (Go.bits .and .u64 a0 6148914691236517205))) 3689348814741910323))) / 16) + (IntKind.u64.wrap ((Go.bits .and .u64 ((IntKind.u64.wrap ((Go.bits .and .u64 (a0 / 2) 6148914691236517205) + (Go.bits .and .u64 a0 6148914691236517205))) / 4) 3689348814741910323) + (Go.bits .and .u64 (IntKind.u64.wrap ((Go.bits .and .u64 (a0 / 2) 6148914691236517205) + (Go.bits .and .u64 a0 6148914691236517205))) 3689348814741910323))))) 1085102592571150095) / 256))) + ((IntKind.u64.wrap ((Go.bits .and .u64 (IntKind.u64.wrap (((IntKind.u64.wrap ((Go.bits .and .u64 ((IntKind.u64.wrap ((Go.bits .and .u64 (a0 / 2) 6148914691236517205) + (Go.bits .and .u64 a0 6148914691236517205))) / 4) 3689348814741910323) + (Go.bits .and .u64 (IntKind.u64.wrap ((Go.bits .and .u64 (a0 / 2) 6148914691236517205) + (Go.bits .and .u64 a0 6148914691236517205))) 3689348814741910323))) / 16) + (IntKind.u64.wrap ((Go.bits .and .u64 ((IntKind.u64.wrap ((Go.bits .and .u64 (a0 / 2) 6148914691236517205) + (Go.bits .and .u64 a0 6148914691236517205))) / 4) 3689348814741910323) + (Go.bits .and .u64 (IntKind.u64.wrap ((Go.bits .and .u64 (a0 / 2) 6148914691236517205) + (Go.bits .and .u64 a0 6148914691236517205))) 3689348814741910323))))) 1085102592571150095) + ((Go.bits .and .u64 (IntKind.u64.wrap (((IntKind.u64.wrap ((Go.bits .and .u64 ((IntKind.u64.wrap ((Go.bits .and .u64 (a0 / 2) 6148914691236517205) + (Go.bits .and .u64 a0 6148914691236517205))) / 4) 3689348814741910323) + (Go.bits .and .u64 (IntKind.u64.wrap ((Go.bits .and .u64 (a0 / 2) 6148914691236517205) + (Go.bits .and .u64 a0 6148914691236517205))) 3689348814741910323))) / 16) + (IntKind.u64.wrap ((Go.bits .and .u64 ((IntKind.u64.wrap ((Go.bits .and .u64 (a0 / 2) 6148914691236517205) + (Go.bits .and .u64 a0 6148914691236517205))) / 4) 3689348814741910323) + (Go.bits .and .u64 (IntKind.u64.wrap ((Go.bits .and .u64 (a0 / 2) 6148914691236517205) + (Go.bits .and .u64 a0 6148914691236517205))) 3689348814741910323))))) 1085102592571150095) / 256))) / 65536))) + ((IntKind.u64.wrap ((IntKind.u64.wrap ((Go.bits .and .u64 (IntKind.u64.wrap (((IntKind.u64.wrap ((Go.bits .and .u64 ((IntKind.u64.wrap ((Go.bits .and .u64 (a0 / 2) 6148914691236517205) + (Go.bits .and .u64 a0 6148914691236517205))) / 4) 3689348814741910323) + (Go.bits .and .u64 (IntKind.u64.wrap ((Go.bits .and .u64 (a0 / 2) 6148914691236517205) + (Go.bits .and .u64 a0 6148914691236517205))) 3689348814741910323))) / 16) + (IntKind.u64.wrap ((Go.bits .and .u64 ((IntKind.u64.wrap ((Go.bits .and .u64 (a0 / 2) 6148914691236517205) + (Go.bits .and .u64 a0 6148914691236517205))) / 4) 3689348814741910323) + (Go.bits .and .u64 (IntKind.u64.wrap ((Go.bits .and .u64 (a0 / 2) 6148914691236517205) + (Go.bits .and .u64 a0 6148914691236517205))) 3689348814741910323))))) 1085102592571150095) + ((Go.bits .and .u64 (IntKind.u64.wrap (((IntKind.u64.wrap ((Go.bits .and .u64 ((IntKind.u64.wrap ((Go.bits .and .u64 (a0 / 2) 6148914691236517205) + (Go.bits .and .u64 a0 6148914691236517205))) / 4) 3689348814741910323) + (Go.bits .and .u64 (IntKind.u64.wrap ((Go.bits .and .u64 (a0 / 2) 6148914691236517205) + (Go.bits .and .u64 a0 6148914691236517205))) 3689348814741910323))) / 16) + (IntKind.u64.wrap ((Go.bits .and .u64 ((IntKind.u64.wrap ((Go.bits .and .u64 (a0 / 2) 6148914691236517205) + (Go.bits .and .u64 a0 6148914691236517205))) / 4) 3689348814741910323) + (Go.bits .and .u64 (IntKind.u64.wrap ((Go.bits .and .u64 (a0 / 2) 6148914691236517205) + (Go.bits .and .u64 a0 6148914691236517205))) 3689348814741910323))))) 1085102592571150095) / 256))) + ((IntKind.u64.wrap ((Go.bits .and .u64 (IntKind.u64.wrap (((IntKind.u64.wrap ((Go.bits .and .u64 ((IntKind.u64.wrap ((Go.bits .and .u64 (a0 / 2) 6148914691236517205) + (Go.bits .and .u64 a0 6148914691236517205))) / 4) 3689348814741910323) + (Go.bits .and .u64 (IntKind.u64.wrap ((Go.bits .and .u64 (a0 / 2) 6148914691236517205) + (Go.bits .and .u64 a0 6148914691236517205))) 3689348814741910323))) / 16) + (IntKind.u64.wrap ((Go.bits .and .u64 ((IntKind.u64.wrap ((Go.bits .and .u64 (a0 / 2) 6148914691236517205) + (Go.bits .and .u64 a0 6148914691236517205))) / 4) 3689348814741910323) + (Go.bits .and .u64 (IntKind.u64.wrap ((Go.bits .and .u64 (a0 / 2) 6148914691236517205) + (Go.bits .and .u64 a0 6148914691236517205))) 3689348814741910323))))) 1085102592571150095) + ((Go.bits .and .u64 (IntKind.u64.wrap (((IntKind.u64.wrap ((Go.bits .and .u64 ((IntKind.u64.wrap ((Go.bits .and .u64 (a0 / 2) 6148914691236517205) + (Go.bits .and .u64 a0 6148914691236517205))) / 4) 3689348814741910323) + (Go.bits .and .u64 (IntKind.u64.wrap ((Go.bits .and .u64 (a0 / 2) 6148914691236517205) + (Go.bits .and .u64 a0 6148914691236517205))) 3689348814741910323))) / 16) + (IntKind.u64.wrap ((Go.bits .and .u64 ((IntKind.u64.wrap ((Go.bits .and .u64 (a0 / 2) 6148914691236517205) + (Go.bits .and .u64 a0 6148914691236517205))) / 4) 3689348814741910323) + (Go.bits .and .u64 (IntKind.u64.wrap ((Go.bits .and .u64 (a0 / 2) 6148914691236517205) + (Go.bits .and .u64 a0 6148914691236517205))) 3689348814741910323))))) 1085102592571150095) / 256))) / 65536))) / 4294967296)))) 127)
set_option maxHeartbeats 8000000 in
set_option maxRecDepth 100000 in
theorem bits_OnesCount64.calls (a0 : Int) (r : Int) (w : World) (h : bits_OnesCount64.f a0 = some r) :
  Calls Try.prog 76 #[.int .u64 a0] w fun e w' => e = .returned (.int .i64 r) ∧ Drawn0 w w' := by
 have H : (some (Go.bits .and .i64 (wrap64 (IntKind.u64.wrap ((IntKind.u64.wrap ((IntKind.u64.wrap ((Go.bits .and .u64 (IntKind.u64.wrap (((IntKind.u64.wrap ((Go.bits .and .u64 ((IntKind.u64.wrap ((Go.bits .and .u64 (a0 / 2) 6148914691236517205) + (Go.bits .and .u64 a0 6148914691236517205))) / 4) 3689348814741910323) + (Go.bits .and .u64 (IntKind.u64.wrap ((Go.bits .and .u64 (a0 / 2) 6148914691236517205) + (Go.bits .and .u64 a0 6148914691236517205))) 3689348814741910323))) / 16) + (IntKind.u64.wrap ((Go.bits .and .u64 ((IntKind.u64.wrap ((Go.bits .and .u64 (a0 / 2) 6148914691236517205) + (Go.bits .and .u64 a0 6148914691236517205))) / 4) 3689348814741910323) + (Go.bits .and .u64 (IntKind.u64.wrap ((Go.bits .and .u64 (a0 / 2) 6148914691236517205) + (Go.bits .and .u64 a0 6148914691236517205))) 3689348814741910323))))) 1085102592571150095) + ((Go.bits .and .u64 (IntKind.u64.wrap (((IntKind.u64.wrap ((Go.bits .and .u64 ((IntKind.u64.wrap ((Go.bits .and .u64 (a0 / 2) 6148914691236517205) + (Go.bits .and .u64 a0 6148914691236517205))) / 4) 3689348814741910323) + (Go.bits .and .u64 (IntKind.u64.wrap ((Go.bits .and .u64 (a0 / 2) 6148914691236517205) + (Go.bits .and .u64 a0 6148914691236517205))) 3689348814741910323))) / 16) + (IntKind.u64.wrap ((Go.bits .and .u64 ((IntKind.u64.wrap ((Go.bits .and .u64 (a0 / 2) 6148914691236517205) + (Go.bits .and .u64 a0 6148914691236517205))) / 4) 3689348814741910323) + (Go.bits .and .u64 (IntKind.u64.wrap ((Go.bits .and .u64 (a0 / 2) 6148914691236517205) + (Go.bits .and .u64 a0 6148914691236517205))) 3689348814741910323))))) 1085102592571150095) / 256))) + ((IntKind.u64.wrap ((Go.bits .and .u64 (IntKind.u64.wrap (((IntKind.u64.wrap ((Go.bits .and .u64 ((IntKind.u64.wrap ((Go.bits .and .u64 (a0 / 2) 6148914691236517205) + (Go.bits .and .u64 a0 6148914691236517205))) / 4) 3689348814741910323) + (Go.bits .and .u64 (IntKind.u64.wrap ((Go.bits .and .u64 (a0 / 2) 6148914691236517205) + (Go.bits .and .u64 a0 6148914691236517205))) 3689348814741910323))) / 16) + (IntKind.u64.wrap ((Go.bits .and .u64 ((IntKind.u64.wrap ((Go.bits .and .u64 (a0 / 2) 6148914691236517205) + (Go.bits .and .u64 a0 6148914691236517205))) / 4) 3689348814741910323) + (Go.bits .and .u64 (IntKind.u64.wrap ((Go.bits .and .u64 (a0 / 2) 6148914691236517205) + (Go.bits .and .u64 a0 6148914691236517205))) 3689348814741910323))))) 1085102592571150095) + ((Go.bits .and .u64 (IntKind.u64.wrap (((IntKind.u64.wrap ((Go.bits .and .u64 ((IntKind.u64.wrap ((Go.bits .and .u64 (a0 / 2) 6148914691236517205) + (Go.bits .and .u64 a0 6148914691236517205))) / 4) 3689348814741910323) + (Go.bits .and .u64 (IntKind.u64.wrap ((Go.bits .and .u64 (a0 / 2) 6148914691236517205) + (Go.bits .and .u64 a0 6148914691236517205))) 3689348814741910323))) / 16) + (IntKind.u64.wrap ((Go.bits .and .u64 ((IntKind.u64.wrap ((Go.bits .and .u64 (a0 / 2) 6148914691236517205) + (Go.bits .and .u64 a0 6148914691236517205))) / 4) 3689348814741910323) + (Go.bits .and .u64 (IntKind.u64.wrap ((Go.bits .and .u64 (a0 / 2) 6148914691236517205) + (Go.bits .and .u64 a0 6148914691236517205))) 3689348814741910323))))) 1085102592571150095) / 256))) / 65536))) + ((IntKind.u64.wrap ((IntKind.u64.wrap ((Go.bits .and .u64 (IntKind.u64.wrap (((IntKind.u64.wrap ((Go.bits .and .u64 ((IntKind.u64.wrap ((Go.bits .and .u64 (a0 / 2) 6148914691236517205) + (Go.bits .and .u64 a0 6148914691236517205))) / 4) 3689348814741910323) + (Go.bits .and .u64 (IntKind.u64.wrap ((Go.bits .and .u64 (a0 / 2) 6148914691236517205) + (Go.bits .and .u64 a0 6148914691236517205))) 3689348814741910323))) / 16) + (IntKind.u64.wrap ((Go.bits .and .u64 ((IntKind.u64.wrap ((Go.bits .and .u64 (a0 / 2) 6148914691236517205) + (Go.bits .and .u64 a0 6148914691236517205))) / 4) 3689348814741910323) + (Go.bits .and .u64 (IntKind.u64.wrap ((Go.bits .and .u64 (a0 / 2) 6148914691236517205) + (Go.bits .and .u64 a0 6148914691236517205))) 3689348814741910323))))) 1085102592571150095) + ((Go.bits .and .u64 (IntKind.u64.wrap (((IntKind.u64.wrap ((Go.bits .and .u64 ((IntKind.u64.wrap ((Go.bits .and .u64 (a0 / 2) 6148914691236517205) + (Go.bits .and .u64 a0 6148914691236517205))) / 4) 3689348814741910323) + (Go.bits .and .u64 (IntKind.u64.wrap ((Go.bits .and .u64 (a0 / 2) 6148914691236517205) + (Go.bits .and .u64 a0 6148914691236517205))) 3689348814741910323))) / 16) + (IntKind.u64.wrap ((Go.bits .and .u64 ((IntKind.u64.wrap ((Go.bits .and .u64 (a0 / 2) 6148914691236517205) + (Go.bits .and .u64 a0 6148914691236517205))) / 4) 3689348814741910323) + (Go.bits .and .u64 (IntKind.u64.wrap ((Go.bits .and .u64 (a0 / 2) 6148914691236517205) + (Go.bits .and .u64 a0 6148914691236517205))) 3689348814741910323))))) 1085102592571150095) / 256))) + ((IntKind.u64.wrap ((Go.bits .and .u64 (IntKind.u64.wrap (((IntKind.u64.wrap ((Go.bits .and .u64 ((IntKind.u64.wrap ((Go.bits .and .u64 (a0 / 2) 6148914691236517205) + (Go.bits .and .u64 a0 6148914691236517205))) / 4) 3689348814741910323) + (Go.bits .and .u64 (IntKind.u64.wrap ((Go.bits .and .u64 (a0 / 2) 6148914691236517205) + (Go.bits .and .u64 a0 6148914691236517205))) 3689348814741910323))) / 16) + (IntKind.u64.wrap ((Go.bits .and .u64 ((IntKind.u64.wrap ((Go.bits .and .u64 (a0 / 2) 6148914691236517205) + (Go.bits .and .u64 a0 6148914691236517205))) / 4) 3689348814741910323) + (Go.bits .and .u64 (IntKind.u64.wrap ((Go.bits .and .u64 (a0 / 2) 6148914691236517205) + (Go.bits .and .u64 a0 6148914691236517205))) 3689348814741910323))))) 1085102592571150095) + ((Go.bits .and .u64 (IntKind.u64.wrap (((IntKind.u64.wrap ((Go.bits .and .u64 ((IntKind.u64.wrap ((Go.bits .and .u64 (a0 / 2) 6148914691236517205) + (Go.bits .and .u64 a0 6148914691236517205))) / 4) 3689348814741910323) + (Go.bits .and .u64 (IntKind.u64.wrap ((Go.bits .and .u64 (a0 / 2) 6148914691236517205) + (Go.bits .and .u64 a0 6148914691236517205))) 3689348814741910323))) / 16) + (IntKind.u64.wrap ((Go.bits .and .u64 ((IntKind.u64.wrap ((Go.bits .and .u64 (a0 / 2) 6148914691236517205) + (Go.bits .and .u64 a0 6148914691236517205))) / 4) 3689348814741910323) + (Go.bits .and .u64 (IntKind.u64.wrap ((Go.bits .and .u64 (a0 / 2) 6148914691236517205) + (Go.bits .and .u64 a0 6148914691236517205))) 3689348814741910323))))) 1085102592571150095) / 256))) / 65536))) / 4294967296)))) 127)) = some r := h
 clear h
 obtain rfl := Option.some.inj H
 go_enter Try.func76, Try.ntmps76
 go_wp2
 go_ret
 exact ⟨by first | rfl | (simp; done) | (simp [*]; done), by repeat (first | exact Drawn0.refl _ | apply Drawn0.step)⟩
/-! ### bits_OnesCount: function 58 -/
def bits_OnesCount.f (a0 : Int) : Option (Int) := (bits_OnesCount64.f a0).bind fun t625 => (some t625)
set_option maxHeartbeats 8000000 in
set_option maxRecDepth 100000 in
theorem bits_OnesCount.calls (a0 : Int) (r : Int) (w : World) (h : bits_OnesCount.f a0 = some r) :
  Calls Try.prog 58 #[.int .u64 a0] w fun e w' => e = .returned (.int .i64 r) ∧ Drawn0 w w' := by
 have H : ((bits_OnesCount64.f a0).bind fun t625 => (some t625)) = some r := h
 clear h
 replace H := Option.bind_eq_some_iff.mp H
 obtain ⟨t625, A20, H⟩ := H
 replace H : (some t625) = some r := H
 have A2 := Aside0.mk A20
 clear A20
 obtain rfl := Option.some.inj H
 go_enter Try.func58, Try.ntmps58
 go_wp2_with (first | ((with_reducible refine gate_callee (f := 76) rfl ?_); refine goesL_ (some 7) rfl rfl Try.func76 (by kernel_rfl) rfl #[.int .u64 a0] rfl zM ?_; (with_reducible refine (bits_OnesCount64.calls a0 t625 _ A2.out).mono ?_); rintro e w' ⟨rfl, ⟨nd, rfl⟩⟩; refine ⟨_, rfl, ?_⟩))
 go_ret
 exact ⟨by first | rfl | (simp; done) | (simp [*]; done), by repeat (first | exact Drawn0.refl _ | apply Drawn0.step)⟩
/-! ### impl_chi_inner: function 98 -/
def impl_chi_inner.f (k : Nat) (l0 : List Int) (a1 : Int) (a2 : Int) (a3 : Int) (a4 : Int) : Option (Int) := (impl_chi_split.f k l0 a1 a2 a3 a4).bind fun bt493 => ((impl_single.f k bt493.1).bind fun t495 => ((impl_single.f k bt493.2).bind fun t496 => (some (mx t495 t496))))
theorem impl_chi_inner.mono : ∀ a0 a1 a2 a3 a4 k, LeO (impl_chi_inner.f k a0 a1 a2 a3 a4) (impl_chi_inner.f (k + 1) a0 a1 a2 a3 a4) := by
 intro a0 a1 a2 a3 a4 k
 unfold impl_chi_inner.f
 repeat' first
   | (with_reducible exact impl_chi_split.mono _ _ _ _ _ _)
   | (with_reducible exact impl_single.mono _ _)
   | (with_reducible exact LeO.refl _)
   | (with_reducible exact LeO.none _)
   | (with_reducible refine LeO.ite ?_ ?_)
   | (with_reducible refine LeO.bind ?_ (fun _ => ?_))
   | exact impl_chi_split.mono _ _ _ _ _ _
   | exact impl_single.mono _ _
   | exact LeO.none _
   | refine LeO.ite ?_ ?_
   | refine LeO.bind ?_ (fun _ => ?_)
set_option maxHeartbeats 8000000 in
set_option maxRecDepth 100000 in
theorem impl_chi_inner.calls (k : Nat) (g0 : Nat) (l0 : List Int) (a1 : Int) (a2 : Int) (a3 : Int) (a4 : Int) (r : Int) (w : World) (hr0 : Kd.C (Kd.int .i64) w (some ⟨g0, 0, none⟩) l0.length l0) (hc0 : l0.length = 344) (h : impl_chi_inner.f k l0 a1 a2 a3 a4 = some r) :
  Calls Try.prog 98 #[.pointer (some ⟨g0, 0, none⟩), .int .i64 a1, .int .i64 a2, .int .i64 a3, .int .i64 a4] w fun e w' => e = .returned (.int .i64 r) ∧ Below w.heap.size w w' := by
 have HR0 := Aside0.mk hr0
 have HC0 := Aside0.mk hc0
 clear hr0 hc0
 have HB := Aside0.mk (Below.refl w.heap.size w)
 have H : ((impl_chi_split.f k l0 a1 a2 a3 a4).bind fun bt493 => ((impl_single.f k bt493.1).bind fun t495 => ((impl_single.f k bt493.2).bind fun t496 => (some (mx t495 t496))))) = some r := h
 clear h
 replace H := Option.bind_eq_some_iff.mp H
 obtain ⟨⟨t493, t494⟩, A60, H⟩ := H
 replace H : ((impl_single.f k t493).bind fun t495 => ((impl_single.f k t494).bind fun t496 => (some (mx t495 t496)))) = some r := H
 have A6 := Aside0.mk A60
 clear A60
 replace H := Option.bind_eq_some_iff.mp H
 obtain ⟨t495, A70, H⟩ := H
 replace H : ((impl_single.f k t494).bind fun t496 => (some (mx t495 t496))) = some r := H
 have A7 := Aside0.mk A70
 clear A70
 replace H := Option.bind_eq_some_iff.mp H
 obtain ⟨t496, A80, H⟩ := H
 replace H : (some (mx t495 t496)) = some r := H
 have A8 := Aside0.mk A80
 clear A80
 obtain ⟨ji9, hji9⟩ : ∃ j_ : Int, (mx t495 t496) = j_ := ⟨_, rfl⟩
 replace H : (some ji9) = some r := by first | (rw [hji9] at H; exact H) | (simp only [hji9] at H ⊢; exact H)
 (try rw [hji9] at A6)
 (try rw [hji9] at A7)
 (try rw [hji9] at A8)
 have hji9_ : (if t495 < t496 then t496 else t495) = ji9 := hji9
 obtain rfl := Option.some.inj H
 go_enter Try.func98, Try.ntmps98
 go_wp2_with (first | ((with_reducible refine gate_callee (f := 78) rfl ?_); refine goesL_ (some 19) rfl rfl Try.func78 (by kernel_rfl) rfl #[.pointer (some ⟨g0, 0, none⟩), .int .i64 a1, .int .i64 a2, .int .i64 a3, .int .i64 a4] rfl zM ?_; (with_reducible refine (impl_chi_split.calls k _ l0 a1 a2 a3 a4 t493 t494 _ ?side1 ?side2 A6.out).mono ?_); (case side1 => repeat (first | exact HR0.out | (with_reducible refine Kd.C_alloc ?_ _) | (with_reducible refine Kd.C_drewN ?_ _) | (with_reducible refine Kd.C_drew ?_))); (case side2 => exact HC0.out); rintro e w10 ⟨rfl, hb⟩; refine ⟨_, rfl, ?_⟩; replace HB := Aside0.mk (below_step zB hb); (try clear hb)) | ((with_reducible refine gate_callee (f := 100) rfl ?_); refine goesL_ (some 23) rfl rfl Try.func100 (by kernel_rfl) rfl #[.int .i64 t493] rfl zM ?_; (with_reducible refine (impl_single.calls k t493 t495 _ A7.out).mono ?_); rintro e w' ⟨rfl, ⟨nd, rfl⟩⟩; refine ⟨_, rfl, ?_⟩) | ((with_reducible refine gate_callee (f := 100) rfl ?_); refine goesL_ (some 25) rfl rfl Try.func100 (by kernel_rfl) rfl #[.int .i64 t494] rfl zM ?_; (with_reducible refine (impl_single.calls k t494 t496 _ A8.out).mono ?_); rintro e w' ⟨rfl, ⟨nd, rfl⟩⟩; refine ⟨_, rfl, ?_⟩))
 go_ret
 exact ⟨by first | rfl | (simp [errW_none, errW_some] <;> rfl) | (simp only [← hji9]; first | rfl | (simp [errW_none, errW_some] <;> rfl)) | (simp [*, errW_none, errW_some] <;> rfl), zB⟩
/-! ### impl_chi_isInside: function 90 -/
def impl_chi_isInside.f (k : Nat) (l0 : List Int) (a1 : Int) (a2 : Int) (a3 : Int) (a4 : Int) : Option (Bool) := (impl_chi_inner.f k l0 a1 a2 a3 a4).bind fun t497 => (some (t497 == a1))
theorem impl_chi_isInside.mono : ∀ a0 a1 a2 a3 a4 k, LeO (impl_chi_isInside.f k a0 a1 a2 a3 a4) (impl_chi_isInside.f (k + 1) a0 a1 a2 a3 a4) := by
 intro a0 a1 a2 a3 a4 k
 unfold impl_chi_isInside.f
 repeat' first
   | (with_reducible exact impl_chi_inner.mono _ _ _ _ _ _)
   | (with_reducible exact LeO.refl _)
   | (with_reducible exact LeO.none _)
   | (with_reducible refine LeO.ite ?_ ?_)
   | (with_reducible refine LeO.bind ?_ (fun _ => ?_))
   | exact impl_chi_inner.mono _ _ _ _ _ _
   | exact LeO.none _
   | refine LeO.ite ?_ ?_
   | refine LeO.bind ?_ (fun _ => ?_)
set_option maxHeartbeats 8000000 in
set_option maxRecDepth 100000 in
theorem impl_chi_isInside.calls (k : Nat) (g0 : Nat) (l0 : List Int) (a1 : Int) (a2 : Int) (a3 : Int) (a4 : Int) (r : Bool) (w : World) (hr0 : Kd.C (Kd.int .i64) w (some ⟨g0, 0, none⟩) l0.length l0) (hc0 : l0.length = 344) (h : impl_chi_isInside.f k l0 a1 a2 a3 a4 = some r) :
  Calls Try.prog 90 #[.pointer (some ⟨g0, 0, none⟩), .int .i64 a1, .int .i64 a2, .int .i64 a3, .int .i64 a4] w fun e w' => e = .returned (.bool r) ∧ Below w.heap.size w w' := by
 have HR0 := Aside0.mk hr0
 have HC0 := Aside0.mk hc0
 clear hr0 hc0
 have HB := Aside0.mk (Below.refl w.heap.size w)
 have H : ((impl_chi_inner.f k l0 a1 a2 a3 a4).bind fun t497 => (some (t497 == a1))) = some r := h
 clear h
 replace H := Option.bind_eq_some_iff.mp H
 obtain ⟨t497, A60, H⟩ := H
 replace H : (some (t497 == a1)) = some r := H
 have A6 := Aside0.mk A60
 clear A60
 obtain rfl := Option.some.inj H
 go_enter Try.func90, Try.ntmps90
 go_wp2_with (first | ((with_reducible refine gate_callee (f := 98) rfl ?_); refine goesL_ (some 16) rfl rfl Try.func98 (by kernel_rfl) rfl #[.pointer (some ⟨g0, 0, none⟩), .int .i64 a1, .int .i64 a2, .int .i64 a3, .int .i64 a4] rfl zM ?_; (with_reducible refine (impl_chi_inner.calls k _ l0 a1 a2 a3 a4 t497 _ ?side1 ?side2 A6.out).mono ?_); (case side1 => repeat (first | exact HR0.out | (with_reducible refine Kd.C_alloc ?_ _) | (with_reducible refine Kd.C_drewN ?_ _) | (with_reducible refine Kd.C_drew ?_))); (case side2 => exact HC0.out); rintro e w7 ⟨rfl, hb⟩; refine ⟨_, rfl, ?_⟩; replace HB := Aside0.mk (below_step zB hb); (try clear hb)))
 go_ret
 exact ⟨zE, zB⟩
/-! ### impl_chi_inHull: function 70 -/
def impl_chi_inHull.l0 : Nat → List Int → Int → Int → List (S85) → Int → Int → Option (Bool)
 | 0, _, _, _, _, _, _ => none
 | k + 1, x0, x1, x2, x14, x15, x16 => if x16 < x15 then (if 0 ≤ x16 then (if x16 < (x14.length : Int) then (if 0 ≤ ((rd_T85 x14 x16).f0) then (if 0 ≤ ((rd_T85 x14 x16).f1) then (if 0 ≤ ((rd_T85 x14 x16).f2) then (if (Go.bits .and .i64 x1 (Go.bits .or .i64 (Go.bits .or .i64 (shl .i64 1 ((rd_T85 x14 x16).f0)) (shl .i64 1 ((rd_T85 x14 x16).f1))) (shl .i64 1 ((rd_T85 x14 x16).f2)))) = (Go.bits .or .i64 (Go.bits .or .i64 (shl .i64 1 ((rd_T85 x14 x16).f0)) (shl .i64 1 ((rd_T85 x14 x16).f1))) (shl .i64 1 ((rd_T85 x14 x16).f2))) then ((impl_chi_isInside.f k x0 x2 ((rd_T85 x14 x16).f0) ((rd_T85 x14 x16).f1) ((rd_T85 x14 x16).f2)).bind fun t504 => (if t504 = true then (some true) else (impl_chi_inHull.l0 k x0 x1 x2 x14 x15 (wrap64 (x16 + 1))))) else (impl_chi_inHull.l0 k x0 x1 x2 x14 x15 (wrap64 (x16 + 1)))) else (none)) else (none)) else (none)) else (none)) else (none)) else (some false)
def impl_chi_inHull.f (k : Nat) (l0 : List Int) (a1 : Int) (a2 : Int) : Option (Bool) := (impl_triplesOf.f k (rd l0 0)).bind fun t499 => (impl_chi_inHull.l0 k l0 a1 a2 t499 (t499.length : Int) 0)
theorem impl_chi_inHull.mono_l : ∀ k, (∀ y0 y1 y2 y3 y4 y5, LeO (impl_chi_inHull.l0 k y0 y1 y2 y3 y4 y5) (impl_chi_inHull.l0 (k + 1) y0 y1 y2 y3 y4 y5))
 | 0 => fun _ _ _ _ _ _ r h => by simp [impl_chi_inHull.l0] at h
 | k + 1 => by
  have ih0 := impl_chi_inHull.mono_l k
  ·intro y0 y1 y2 y3 y4 y5
   unfold impl_chi_inHull.l0
   repeat' first
   | (with_reducible exact ih0 _ _ _ _ _ _)
   | (with_reducible exact impl_chi_isInside.mono _ _ _ _ _ _)
   | (with_reducible exact impl_triplesOf.mono _ _)
   | (with_reducible exact LeO.refl _)
   | (with_reducible exact LeO.none _)
   | (with_reducible refine LeO.ite ?_ ?_)
   | (with_reducible refine LeO.bind ?_ (fun _ => ?_))
   | exact ih0 _ _ _ _ _ _
   | exact impl_chi_isInside.mono _ _ _ _ _ _
   | exact impl_triplesOf.mono _ _
   | exact LeO.none _
   | refine LeO.ite ?_ ?_
   | refine LeO.bind ?_ (fun _ => ?_)
theorem impl_chi_inHull.mono : ∀ a0 a1 a2 k, LeO (impl_chi_inHull.f k a0 a1 a2) (impl_chi_inHull.f (k + 1) a0 a1 a2) := by
 intro a0 a1 a2 k
 have ih0 := impl_chi_inHull.mono_l k
 unfold impl_chi_inHull.f
 repeat' first
   | (with_reducible exact ih0 _ _ _ _ _ _)
   | (with_reducible exact impl_chi_isInside.mono _ _ _ _ _ _)
   | (with_reducible exact impl_triplesOf.mono _ _)
   | (with_reducible exact LeO.refl _)
   | (with_reducible exact LeO.none _)
   | (with_reducible refine LeO.ite ?_ ?_)
   | (with_reducible refine LeO.bind ?_ (fun _ => ?_))
   | exact ih0 _ _ _ _ _ _
   | exact impl_chi_isInside.mono _ _ _ _ _ _
   | exact impl_triplesOf.mono _ _
   | exact LeO.none _
   | refine LeO.ite ?_ ?_
   | refine LeO.bind ?_ (fun _ => ?_)
set_option maxHeartbeats 8000000 in
set_option maxRecDepth 100000 in
theorem impl_chi_inHull.calls (k : Nat) (g0 : Nat) (l0 : List Int) (a1 : Int) (a2 : Int) (r : Bool) (w : World) (hr0 : Kd.C (Kd.int .i64) w (some ⟨g0, 0, none⟩) l0.length l0) (hc0 : l0.length = 344) (h : impl_chi_inHull.f k l0 a1 a2 = some r) :
  Calls Try.prog 70 #[.pointer (some ⟨g0, 0, none⟩), .int .i64 a1, .int .i64 a2] w fun e w' => e = .returned (.bool r) ∧ Below w.heap.size w w' := by
 have hu85 := Try.underlying85
 have hu68 := Try.underlying68
 have HR0 := Aside0.mk hr0
 have HC0 := Aside0.mk hc0
 clear hr0 hc0
 have HB := Aside0.mk (Below.refl w.heap.size w)
 have H : ((impl_triplesOf.f k (rd l0 0)).bind fun t499 => (impl_chi_inHull.l0 k l0 a1 a2 t499 (t499.length : Int) 0)) = some r := h
 clear h
 replace H := Option.bind_eq_some_iff.mp H
 obtain ⟨t499, A40, H⟩ := H
 replace H : (impl_chi_inHull.l0 k l0 a1 a2 t499 (t499.length : Int) 0) = some r := H
 have A4 := Aside0.mk A40
 clear A40
 have H' := Aside0.mk H
 clear H
 have hL498 := HC0.out
 have dq498 : decide (0 < (l0.length : Int)) = true := decide_eq_true (by omega)
 clear hL498
 have p498 : 0 ≤ (0 : Int) := (by omega)
 have q498 : 0 < (l0.length : Int) := zA
 obtain ⟨ad498, e498, hx498_0⟩ := Kd.at_int HR0.out 0 p498 q498
 obtain rfl : (⟨g0, 0, none⟩ : Addr) = ad498 := (by injection e498)
 (first | simp only [add_plain] at hx498_0 | simp only [add_at] at hx498_0 | simp only [Addr.add, Nat.zero_add] at hx498_0 | skip)
 have qi498 : (0 < l0.length) = True := eq_true (by omega)
 (try rw [show ((0 : Int)).toNat = 0 from rfl] at hx498_0)
 (try rw [Addr.add_zero'] at hx498_0)
 replace p498 := eq_true p498
 replace q498 := eq_true q498
 clear dq498
 go_enter Try.func70, Try.ntmps70
 go_wp2_with (first | (go_at_call 83; (with_reducible refine (impl_triplesOf.calls k (rd l0 0) t499 _ A4.out).mono ?_); rintro e w5 ⟨v500, rfl, ho0, hb⟩; have HO501 := Aside0.mk (Kd.R_lower ho0 (below_size zB)); replace HB := Aside0.mk (below_step zB hb); (try clear hb); (try clear hb2); (try clear hk); (try clear hi); (try clear ho0); obtain ⟨Ao6, co6, eo6⟩ := Kd.R_slice HO501.out; subst eo6))
 repeat (go_quiet (first | (go_at_call 83; (with_reducible refine (impl_triplesOf.calls k (rd l0 0) t499 _ A4.out).mono ?_); rintro e w5 ⟨v500, rfl, ho0, hb⟩; have HO501 := Aside0.mk (Kd.R_lower ho0 (below_size zB)); replace HB := Aside0.mk (below_step zB hb); (try clear hb); (try clear hb2); (try clear hk); (try clear hi); (try clear ho0); obtain ⟨Ao6, co6, eo6⟩ := Kd.R_slice HO501.out; subst eo6)); try go_wp2_with (first | (go_at_call 83; (with_reducible refine (impl_triplesOf.calls k (rd l0 0) t499 _ A4.out).mono ?_); rintro e w5 ⟨v500, rfl, ho0, hb⟩; have HO501 := Aside0.mk (Kd.R_lower ho0 (below_size zB)); replace HB := Aside0.mk (below_step zB hb); (try clear hb); (try clear hb2); (try clear hk); (try clear hi); (try clear ho0); obtain ⟨Ao6, co6, eo6⟩ := Kd.R_slice HO501.out; subst eo6)))
 go_loopg [16] k (fun kq v16 w' => ∃ (x16_1 : Int), v16 = .int .i64 x16_1 ∧ Aside0 (impl_chi_inHull.l0 kq l0 a1 a2 t499 (t499.length : Int) x16_1 = some r) ∧ Aside0 (kq ≤ k) ∧ Aside0 (Kd.R k85 85 w' w.heap.size (fun _ => True) (.slice Ao6 t499.length co6) t499) ∧ Aside0 (Below w.heap.size w w'))
 case atStart => exact ⟨(0), zF, H', ⟨Nat.le_refl _⟩, ⟨zR HO501.out⟩, ⟨zB⟩⟩
 case round =>
  clear H'
  try clear p2
  try clear p4
  try clear q4
  try clear hx4
  try clear qi4
  try clear hx498_0
  try clear p498
  try clear q498
  obtain ⟨x16_1, rfl, HA, HK1, HO_14, HB⟩ := hrel
  cases gk with
  | zero => exact absurd HA.out (by simp [impl_chi_inHull.l0])
  | succ k1 =>
   have H := HA.out
   clear HA
   simp only [impl_chi_inHull.l0] at H
   by_cases c7 : x16_1 < (t499.length : Int)
   ·rw [if_pos c7] at H
    have c7b0 : decide (x16_1 < (t499.length : Int)) = true := decide_eq_true c7
    clear c7
    by_cases c8 : 0 ≤ x16_1
    ·rw [if_pos c8] at H
     have c8b0 : decide (0 ≤ x16_1) = true := decide_eq_true c8
     clear c8
     by_cases c9 : x16_1 < (t499.length : Int)
     ·rw [if_pos c9] at H
      have c9b0 : decide (x16_1 < (t499.length : Int)) = true := decide_eq_true c9
      clear c9
      by_cases c10 : 0 ≤ ((rd_T85 t499 x16_1).f0)
      ·rw [if_pos c10] at H
       have c10b0 := eq_true c10
       have c10b1 : decide (0 ≤ ((rd_T85 t499 x16_1).f0)) = true := decide_eq_true c10
       clear c10
       obtain ⟨ji11, hji11⟩ : ∃ j_ : Int, (shl .i64 1 ((rd_T85 t499 x16_1).f0)) = j_ := ⟨_, rfl⟩
       replace H : (if 0 ≤ ((rd_T85 t499 x16_1).f1) then (if 0 ≤ ((rd_T85 t499 x16_1).f2) then (if (Go.bits .and .i64 a1 (Go.bits .or .i64 (Go.bits .or .i64 (ji11) (shl .i64 1 ((rd_T85 t499 x16_1).f1))) (shl .i64 1 ((rd_T85 t499 x16_1).f2)))) = (Go.bits .or .i64 (Go.bits .or .i64 (ji11) (shl .i64 1 ((rd_T85 t499 x16_1).f1))) (shl .i64 1 ((rd_T85 t499 x16_1).f2))) then ((impl_chi_isInside.f k1 l0 a2 ((rd_T85 t499 x16_1).f0) ((rd_T85 t499 x16_1).f1) ((rd_T85 t499 x16_1).f2)).bind fun t504 => (if t504 = true then (some true) else (impl_chi_inHull.l0 k1 l0 a1 a2 t499 (t499.length : Int) (wrap64 (x16_1 + 1))))) else (impl_chi_inHull.l0 k1 l0 a1 a2 t499 (t499.length : Int) (wrap64 (x16_1 + 1)))) else (none)) else (none)) = some r := by first | (rw [hji11] at H; exact H) | (simp only [hji11] at H ⊢; exact H)
       have hji11_ : (IntKind.i64.wrap (1 * 2 ^ min ((rd_T85 t499 x16_1).f0).toNat 64)) = ji11 := hji11
       have hji11z : ((rd_T85 t499 x16_1).f0) ≤ 64 → (IntKind.i64.wrap (1 * 2 ^ ((rd_T85 t499 x16_1).f0).toNat)) = ji11 := shl_small hji11
       have hji11u : (IntKind.i64.wrap (2 ^ min ((rd_T85 t499 x16_1).f0).toNat 64)) = ji11 := by have h_ := hji11_; rw [Int.one_mul] at h_; exact h_
       have hji11v : ((rd_T85 t499 x16_1).f0) ≤ 64 → (IntKind.i64.wrap (2 ^ ((rd_T85 t499 x16_1).f0).toNat)) = ji11 := fun hle_ => by have h_ := hji11z hle_; rw [Int.one_mul] at h_; exact h_
       have hji11y : (wrap64 (1 * 2 ^ min ((rd_T85 t499 x16_1).f0).toNat 64)) = ji11 := (i64_w _).symm.trans hji11_
       have hji11x : ((rd_T85 t499 x16_1).f0) ≤ 64 → (wrap64 (1 * 2 ^ ((rd_T85 t499 x16_1).f0).toNat)) = ji11 := fun h_ => (i64_w _).symm.trans (hji11z h_)
       by_cases c12 : 0 ≤ ((rd_T85 t499 x16_1).f1)
       ·rw [if_pos c12] at H
        have c12b0 := eq_true c12
        have c12b1 : decide (0 ≤ ((rd_T85 t499 x16_1).f1)) = true := decide_eq_true c12
        clear c12
        obtain ⟨ji13, hji13⟩ : ∃ j_ : Int, (shl .i64 1 ((rd_T85 t499 x16_1).f1)) = j_ := ⟨_, rfl⟩
        replace H : (if 0 ≤ ((rd_T85 t499 x16_1).f2) then (if (Go.bits .and .i64 a1 (Go.bits .or .i64 (Go.bits .or .i64 (ji11) (ji13)) (shl .i64 1 ((rd_T85 t499 x16_1).f2)))) = (Go.bits .or .i64 (Go.bits .or .i64 (ji11) (ji13)) (shl .i64 1 ((rd_T85 t499 x16_1).f2))) then ((impl_chi_isInside.f k1 l0 a2 ((rd_T85 t499 x16_1).f0) ((rd_T85 t499 x16_1).f1) ((rd_T85 t499 x16_1).f2)).bind fun t504 => (if t504 = true then (some true) else (impl_chi_inHull.l0 k1 l0 a1 a2 t499 (t499.length : Int) (wrap64 (x16_1 + 1))))) else (impl_chi_inHull.l0 k1 l0 a1 a2 t499 (t499.length : Int) (wrap64 (x16_1 + 1)))) else (none)) = some r := by first | (rw [hji13] at H; exact H) | (simp only [hji13] at H ⊢; exact H)
        have hji13_ : (IntKind.i64.wrap (1 * 2 ^ min ((rd_T85 t499 x16_1).f1).toNat 64)) = ji13 := hji13
        have hji13z : ((rd_T85 t499 x16_1).f1) ≤ 64 → (IntKind.i64.wrap (1 * 2 ^ ((rd_T85 t499 x16_1).f1).toNat)) = ji13 := shl_small hji13
        have hji13u : (IntKind.i64.wrap (2 ^ min ((rd_T85 t499 x16_1).f1).toNat 64)) = ji13 := by have h_ := hji13_; rw [Int.one_mul] at h_; exact h_
        have hji13v : ((rd_T85 t499 x16_1).f1) ≤ 64 → (IntKind.i64.wrap (2 ^ ((rd_T85 t499 x16_1).f1).toNat)) = ji13 := fun hle_ => by have h_ := hji13z hle_; rw [Int.one_mul] at h_; exact h_
        have hji13y : (wrap64 (1 * 2 ^ min ((rd_T85 t499 x16_1).f1).toNat 64)) = ji13 := (i64_w _).symm.trans hji13_
        have hji13x : ((rd_T85 t499 x16_1).f1) ≤ 64 → (wrap64 (1 * 2 ^ ((rd_T85 t499 x16_1).f1).toNat)) = ji13 := fun h_ => (i64_w _).symm.trans (hji13z h_)
        by_cases c14 : 0 ≤ ((rd_T85 t499 x16_1).f2)
        ·rw [if_pos c14] at H
         have c14b0 := eq_true c14
         have c14b1 : decide (0 ≤ ((rd_T85 t499 x16_1).f2)) = true := decide_eq_true c14
         clear c14
         obtain ⟨ji15, hji15⟩ : ∃ j_ : Int, (shl .i64 1 ((rd_T85 t499 x16_1).f2)) = j_ := ⟨_, rfl⟩
         replace H : (if (Go.bits .and .i64 a1 (Go.bits .or .i64 (Go.bits .or .i64 (ji11) (ji13)) (ji15))) = (Go.bits .or .i64 (Go.bits .or .i64 (ji11) (ji13)) (ji15)) then ((impl_chi_isInside.f k1 l0 a2 ((rd_T85 t499 x16_1).f0) ((rd_T85 t499 x16_1).f1) ((rd_T85 t499 x16_1).f2)).bind fun t504 => (if t504 = true then (some true) else (impl_chi_inHull.l0 k1 l0 a1 a2 t499 (t499.length : Int) (wrap64 (x16_1 + 1))))) else (impl_chi_inHull.l0 k1 l0 a1 a2 t499 (t499.length : Int) (wrap64 (x16_1 + 1)))) = some r := by first | (rw [hji15] at H; exact H) | (simp only [hji15] at H ⊢; exact H)
         have hji15_ : (IntKind.i64.wrap (1 * 2 ^ min ((rd_T85 t499 x16_1).f2).toNat 64)) = ji15 := hji15
         have hji15z : ((rd_T85 t499 x16_1).f2) ≤ 64 → (IntKind.i64.wrap (1 * 2 ^ ((rd_T85 t499 x16_1).f2).toNat)) = ji15 := shl_small hji15
         have hji15u : (IntKind.i64.wrap (2 ^ min ((rd_T85 t499 x16_1).f2).toNat 64)) = ji15 := by have h_ := hji15_; rw [Int.one_mul] at h_; exact h_
         have hji15v : ((rd_T85 t499 x16_1).f2) ≤ 64 → (IntKind.i64.wrap (2 ^ ((rd_T85 t499 x16_1).f2).toNat)) = ji15 := fun hle_ => by have h_ := hji15z hle_; rw [Int.one_mul] at h_; exact h_
         have hji15y : (wrap64 (1 * 2 ^ min ((rd_T85 t499 x16_1).f2).toNat 64)) = ji15 := (i64_w _).symm.trans hji15_
         have hji15x : ((rd_T85 t499 x16_1).f2) ≤ 64 → (wrap64 (1 * 2 ^ ((rd_T85 t499 x16_1).f2).toNat)) = ji15 := fun h_ => (i64_w _).symm.trans (hji15z h_)
         by_cases c16 : (Go.bits .and .i64 a1 (Go.bits .or .i64 (Go.bits .or .i64 (ji11) (ji13)) (ji15))) = (Go.bits .or .i64 (Go.bits .or .i64 (ji11) (ji13)) (ji15))
         ·rw [if_pos c16] at H
          have c16b0 : ((Go.bits .and .i64 a1 (Go.bits .or .i64 (Go.bits .or .i64 (ji11) (ji13)) (ji15))) == (Go.bits .or .i64 (Go.bits .or .i64 (ji11) (ji13)) (ji15))) = true := beq_iff_eq.mpr c16
          have c16b1 : ((Go.bits .and .i64 a1 (Go.bits .or .i64 (Go.bits .or .i64 (ji11) (ji13)) (ji15))) != (Go.bits .or .i64 (Go.bits .or .i64 (ji11) (ji13)) (ji15))) = false := bne_eq_false_iff_eq.mpr c16
          clear c16
          replace H := Option.bind_eq_some_iff.mp H
          obtain ⟨t504, A170, H⟩ := H
          replace H : (if t504 = true then (some true) else (impl_chi_inHull.l0 k1 l0 a1 a2 t499 (t499.length : Int) (wrap64 (x16_1 + 1)))) = some r := H
          have A17 := Aside0.mk A170
          clear A170
          by_cases c18 : t504 = true
          ·subst c18
           have H1 : (some true) = some r := by rw [if_pos rfl] at H; exact H
           clear H
           have H := H1
           clear H1
           obtain rfl := Option.some.inj H
           have p502 : 0 ≤ (x16_1 : Int) := zA
           have q502 : x16_1 < (t499.length : Int) := zA
           obtain ⟨ad502, e502, hx502_0, hx502_1, hx502_2⟩ := at_T85 (Kd.R_reads' HO_14.out).2.2 x16_1 p502 q502
           cases e502
           replace p502 := eq_true p502
           replace q502 := eq_true q502
           go_wp2_with (first | ((with_reducible refine gate_dst (N := 8) rfl ?_); refine box_event ?hg (N := 8) ?hd (cs := #[.int .i64 0, .int .i64 0, .int .i64 0]) (t := 85) ?hr ?_; (case hd => rfl); (case hg => rfl); (case hr => first | (go_simp; done) | (go_simp; rfl)); intro gb503 hg w19 hbox hb; replace HO_14 := Aside0.mk (Kd.R_below (Kd.R_elderB (zR HO_14.out) gb503 (Nat.le_of_eq hg.symm)) hb); have BK503 := Aside0.mk (hbox); have GW503 := Aside0.mk ((by rw [hg]; exact (below_size zB) : w.heap.size ≤ gb503)); have GE503 := Aside0.mk ((by rw [hg]; exact (below_size zB) : w.heap.size ≤ gb503)); replace HB := Aside0.mk (below_step zB hb); clear hb hbox hg; have hcz20_0 : w19.cell? ⟨gb503, 0, none⟩ = some (.int .i64 0) := (blk_cell BK503.out 0).trans rfl; have hcz20_1 : w19.cell? ⟨gb503, 1, none⟩ = some (.int .i64 0) := (blk_cell BK503.out 1).trans rfl; have hcz20_2 : w19.cell? ⟨gb503, 2, none⟩ = some (.int .i64 0) := (blk_cell BK503.out 2).trans rfl; have hfz20_0 := blk_frozen BK503.out 0; have hfz20_1 := blk_frozen BK503.out 1; have hfz20_2 := blk_frozen BK503.out 2) | (go_at_call 90; (with_reducible refine (impl_chi_isInside.calls k1 _ l0 a2 ((rd_T85 t499 x16_1).f0) ((rd_T85 t499 x16_1).f1) ((rd_T85 t499 x16_1).f2) true _ ?side1 ?side2 A17.out).mono ?_); (case side1 => exact Kd.C_below HR0.out (zG GE503.out)); (case side2 => exact HC0.out); rintro e w21 ⟨rfl, hb⟩; replace HO_14 := Aside0.mk (Kd.R_below (by (with_reducible repeat (first | apply Kd.R_alloc | apply Kd.R_drewN | apply Kd.R_drew)); exact (Kd.R_mono (Kd.R_far (p := ⟨gb503, 2, none⟩) (Kd.R_far (p := ⟨gb503, 1, none⟩) (Kd.R_far (p := ⟨gb503, 0, none⟩) (Kd.R_mono HO_14.out (fun k_ hk => (⟨hk, hk.2⟩ : _ ∧ k_ ≠ gb503))) (fun _ hk => hk.2) (.int .i64 ((rd_T85 t499 x16_1).f0))) (fun _ hk => hk.2) (.int .i64 ((rd_T85 t499 x16_1).f1))) (fun _ hk => hk.2) (.int .i64 ((rd_T85 t499 x16_1).f2))) (fun _ h_ => h_.1))) hb); replace BK503 := Aside0.mk (blk_below (g := gb503) (o := .cells #[.int .i64 ((rd_T85 t499 x16_1).f0), .int .i64 ((rd_T85 t499 x16_1).f1), .int .i64 ((rd_T85 t499 x16_1).f2)] 85 (0, 0)) (by (with_reducible repeat (first | refine blk_drewN ?_ _ | refine blk_drew ?_ | refine blk_alloc ?_ _)); refine blk_put (cs := #[.int .i64 ((rd_T85 t499 x16_1).f0), .int .i64 ((rd_T85 t499 x16_1).f1), .int .i64 0]) ?_ 2 _ rfl; (with_reducible repeat (first | refine blk_drewN ?_ _ | refine blk_drew ?_ | refine blk_alloc ?_ _)); refine blk_put (cs := #[.int .i64 ((rd_T85 t499 x16_1).f0), .int .i64 0, .int .i64 0]) ?_ 1 _ rfl; (with_reducible repeat (first | refine blk_drewN ?_ _ | refine blk_drew ?_ | refine blk_alloc ?_ _)); refine blk_put (cs := #[.int .i64 0, .int .i64 0, .int .i64 0]) ?_ 0 _ rfl; (with_reducible repeat (first | refine blk_drewN ?_ _ | refine blk_drew ?_ | refine blk_alloc ?_ _)); exact BK503.out) hb); replace HB := Aside0.mk (below_step (zG GE503.out) hb); (try clear hb); (try clear hb2); (try clear hk); (try clear hi)))
           repeat (go_quiet (first | ((with_reducible refine gate_dst (N := 8) rfl ?_); refine box_event ?hg (N := 8) ?hd (cs := #[.int .i64 0, .int .i64 0, .int .i64 0]) (t := 85) ?hr ?_; (case hd => rfl); (case hg => rfl); (case hr => first | (go_simp; done) | (go_simp; rfl)); intro gb503 hg w19 hbox hb; replace HO_14 := Aside0.mk (Kd.R_below (Kd.R_elderB (zR HO_14.out) gb503 (Nat.le_of_eq hg.symm)) hb); have BK503 := Aside0.mk (hbox); have GW503 := Aside0.mk ((by rw [hg]; exact (below_size zB) : w.heap.size ≤ gb503)); have GE503 := Aside0.mk ((by rw [hg]; exact (below_size zB) : w.heap.size ≤ gb503)); replace HB := Aside0.mk (below_step zB hb); clear hb hbox hg; have hcz20_0 : w19.cell? ⟨gb503, 0, none⟩ = some (.int .i64 0) := (blk_cell BK503.out 0).trans rfl; have hcz20_1 : w19.cell? ⟨gb503, 1, none⟩ = some (.int .i64 0) := (blk_cell BK503.out 1).trans rfl; have hcz20_2 : w19.cell? ⟨gb503, 2, none⟩ = some (.int .i64 0) := (blk_cell BK503.out 2).trans rfl; have hfz20_0 := blk_frozen BK503.out 0; have hfz20_1 := blk_frozen BK503.out 1; have hfz20_2 := blk_frozen BK503.out 2) | (go_at_call 90; (with_reducible refine (impl_chi_isInside.calls k1 _ l0 a2 ((rd_T85 t499 x16_1).f0) ((rd_T85 t499 x16_1).f1) ((rd_T85 t499 x16_1).f2) true _ ?side1 ?side2 A17.out).mono ?_); (case side1 => exact Kd.C_below HR0.out (zG GE503.out)); (case side2 => exact HC0.out); rintro e w21 ⟨rfl, hb⟩; replace HO_14 := Aside0.mk (Kd.R_below (by (with_reducible repeat (first | apply Kd.R_alloc | apply Kd.R_drewN | apply Kd.R_drew)); exact (Kd.R_mono (Kd.R_far (p := ⟨gb503, 2, none⟩) (Kd.R_far (p := ⟨gb503, 1, none⟩) (Kd.R_far (p := ⟨gb503, 0, none⟩) (Kd.R_mono HO_14.out (fun k_ hk => (⟨hk, hk.2⟩ : _ ∧ k_ ≠ gb503))) (fun _ hk => hk.2) (.int .i64 ((rd_T85 t499 x16_1).f0))) (fun _ hk => hk.2) (.int .i64 ((rd_T85 t499 x16_1).f1))) (fun _ hk => hk.2) (.int .i64 ((rd_T85 t499 x16_1).f2))) (fun _ h_ => h_.1))) hb); replace BK503 := Aside0.mk (blk_below (g := gb503) (o := .cells #[.int .i64 ((rd_T85 t499 x16_1).f0), .int .i64 ((rd_T85 t499 x16_1).f1), .int .i64 ((rd_T85 t499 x16_1).f2)] 85 (0, 0)) (by (with_reducible repeat (first | refine blk_drewN ?_ _ | refine blk_drew ?_ | refine blk_alloc ?_ _)); refine blk_put (cs := #[.int .i64 ((rd_T85 t499 x16_1).f0), .int .i64 ((rd_T85 t499 x16_1).f1), .int .i64 0]) ?_ 2 _ rfl; (with_reducible repeat (first | refine blk_drewN ?_ _ | refine blk_drew ?_ | refine blk_alloc ?_ _)); refine blk_put (cs := #[.int .i64 ((rd_T85 t499 x16_1).f0), .int .i64 0, .int .i64 0]) ?_ 1 _ rfl; (with_reducible repeat (first | refine blk_drewN ?_ _ | refine blk_drew ?_ | refine blk_alloc ?_ _)); refine blk_put (cs := #[.int .i64 0, .int .i64 0, .int .i64 0]) ?_ 0 _ rfl; (with_reducible repeat (first | refine blk_drewN ?_ _ | refine blk_drew ?_ | refine blk_alloc ?_ _)); exact BK503.out) hb); replace HB := Aside0.mk (below_step (zG GE503.out) hb); (try clear hb); (try clear hb2); (try clear hk); (try clear hi))); try go_wp2_with (first | ((with_reducible refine gate_dst (N := 8) rfl ?_); refine box_event ?hg (N := 8) ?hd (cs := #[.int .i64 0, .int .i64 0, .int .i64 0]) (t := 85) ?hr ?_; (case hd => rfl); (case hg => rfl); (case hr => first | (go_simp; done) | (go_simp; rfl)); intro gb503 hg w19 hbox hb; replace HO_14 := Aside0.mk (Kd.R_below (Kd.R_elderB (zR HO_14.out) gb503 (Nat.le_of_eq hg.symm)) hb); have BK503 := Aside0.mk (hbox); have GW503 := Aside0.mk ((by rw [hg]; exact (below_size zB) : w.heap.size ≤ gb503)); have GE503 := Aside0.mk ((by rw [hg]; exact (below_size zB) : w.heap.size ≤ gb503)); replace HB := Aside0.mk (below_step zB hb); clear hb hbox hg; have hcz20_0 : w19.cell? ⟨gb503, 0, none⟩ = some (.int .i64 0) := (blk_cell BK503.out 0).trans rfl; have hcz20_1 : w19.cell? ⟨gb503, 1, none⟩ = some (.int .i64 0) := (blk_cell BK503.out 1).trans rfl; have hcz20_2 : w19.cell? ⟨gb503, 2, none⟩ = some (.int .i64 0) := (blk_cell BK503.out 2).trans rfl; have hfz20_0 := blk_frozen BK503.out 0; have hfz20_1 := blk_frozen BK503.out 1; have hfz20_2 := blk_frozen BK503.out 2) | (go_at_call 90; (with_reducible refine (impl_chi_isInside.calls k1 _ l0 a2 ((rd_T85 t499 x16_1).f0) ((rd_T85 t499 x16_1).f1) ((rd_T85 t499 x16_1).f2) true _ ?side1 ?side2 A17.out).mono ?_); (case side1 => exact Kd.C_below HR0.out (zG GE503.out)); (case side2 => exact HC0.out); rintro e w21 ⟨rfl, hb⟩; replace HO_14 := Aside0.mk (Kd.R_below (by (with_reducible repeat (first | apply Kd.R_alloc | apply Kd.R_drewN | apply Kd.R_drew)); exact (Kd.R_mono (Kd.R_far (p := ⟨gb503, 2, none⟩) (Kd.R_far (p := ⟨gb503, 1, none⟩) (Kd.R_far (p := ⟨gb503, 0, none⟩) (Kd.R_mono HO_14.out (fun k_ hk => (⟨hk, hk.2⟩ : _ ∧ k_ ≠ gb503))) (fun _ hk => hk.2) (.int .i64 ((rd_T85 t499 x16_1).f0))) (fun _ hk => hk.2) (.int .i64 ((rd_T85 t499 x16_1).f1))) (fun _ hk => hk.2) (.int .i64 ((rd_T85 t499 x16_1).f2))) (fun _ h_ => h_.1))) hb); replace BK503 := Aside0.mk (blk_below (g := gb503) (o := .cells #[.int .i64 ((rd_T85 t499 x16_1).f0), .int .i64 ((rd_T85 t499 x16_1).f1), .int .i64 ((rd_T85 t499 x16_1).f2)] 85 (0, 0)) (by (with_reducible repeat (first | refine blk_drewN ?_ _ | refine blk_drew ?_ | refine blk_alloc ?_ _)); refine blk_put (cs := #[.int .i64 ((rd_T85 t499 x16_1).f0), .int .i64 ((rd_T85 t499 x16_1).f1), .int .i64 0]) ?_ 2 _ rfl; (with_reducible repeat (first | refine blk_drewN ?_ _ | refine blk_drew ?_ | refine blk_alloc ?_ _)); refine blk_put (cs := #[.int .i64 ((rd_T85 t499 x16_1).f0), .int .i64 0, .int .i64 0]) ?_ 1 _ rfl; (with_reducible repeat (first | refine blk_drewN ?_ _ | refine blk_drew ?_ | refine blk_alloc ?_ _)); refine blk_put (cs := #[.int .i64 0, .int .i64 0, .int .i64 0]) ?_ 0 _ rfl; (with_reducible repeat (first | refine blk_drewN ?_ _ | refine blk_drew ?_ | refine blk_alloc ?_ _)); exact BK503.out) hb); replace HB := Aside0.mk (below_step (zG GE503.out) hb); (try clear hb); (try clear hb2); (try clear hk); (try clear hi))))
           go_ret
           exact ⟨by first | rfl | (simp [errW_none, errW_some] <;> rfl) | (simp only [← hji11, ← hji13, ← hji15]; first | rfl | (simp [errW_none, errW_some] <;> rfl)) | (simp [*, errW_none, errW_some] <;> rfl), zG GE503.out⟩
          ·replace c18 := Bool.eq_false_iff.mpr c18
           subst c18
           have H1 : (impl_chi_inHull.l0 k1 l0 a1 a2 t499 (t499.length : Int) (wrap64 (x16_1 + 1))) = some r := by rw [if_neg (show ¬ (false = true) by decide)] at H; exact H
           clear H
           have H := H1
           clear H1
           have H' := Aside0.mk H
           clear H
           have p502 : 0 ≤ (x16_1 : Int) := zA
           have q502 : x16_1 < (t499.length : Int) := zA
           obtain ⟨ad502, e502, hx502_0, hx502_1, hx502_2⟩ := at_T85 (Kd.R_reads' HO_14.out).2.2 x16_1 p502 q502
           cases e502
           replace p502 := eq_true p502
           replace q502 := eq_true q502
           go_wp2_with (first | ((with_reducible refine gate_dst (N := 8) rfl ?_); refine box_event ?hg (N := 8) ?hd (cs := #[.int .i64 0, .int .i64 0, .int .i64 0]) (t := 85) ?hr ?_; (case hd => rfl); (case hg => rfl); (case hr => first | (go_simp; done) | (go_simp; rfl)); intro gb503 hg w22 hbox hb; replace HO_14 := Aside0.mk (Kd.R_below (Kd.R_elderB (zR HO_14.out) gb503 (Nat.le_of_eq hg.symm)) hb); have BK503 := Aside0.mk (hbox); have GW503 := Aside0.mk ((by rw [hg]; exact (below_size zB) : w.heap.size ≤ gb503)); have GE503 := Aside0.mk ((by rw [hg]; exact (below_size zB) : w.heap.size ≤ gb503)); replace HB := Aside0.mk (below_step zB hb); clear hb hbox hg; have hcz23_0 : w22.cell? ⟨gb503, 0, none⟩ = some (.int .i64 0) := (blk_cell BK503.out 0).trans rfl; have hcz23_1 : w22.cell? ⟨gb503, 1, none⟩ = some (.int .i64 0) := (blk_cell BK503.out 1).trans rfl; have hcz23_2 : w22.cell? ⟨gb503, 2, none⟩ = some (.int .i64 0) := (blk_cell BK503.out 2).trans rfl; have hfz23_0 := blk_frozen BK503.out 0; have hfz23_1 := blk_frozen BK503.out 1; have hfz23_2 := blk_frozen BK503.out 2) | (go_at_call 90; (with_reducible refine (impl_chi_isInside.calls k1 _ l0 a2 ((rd_T85 t499 x16_1).f0) ((rd_T85 t499 x16_1).f1) ((rd_T85 t499 x16_1).f2) false _ ?side1 ?side2 A17.out).mono ?_); (case side1 => exact Kd.C_below HR0.out (zG GE503.out)); (case side2 => exact HC0.out); rintro e w24 ⟨rfl, hb⟩; replace HO_14 := Aside0.mk (Kd.R_below (by (with_reducible repeat (first | apply Kd.R_alloc | apply Kd.R_drewN | apply Kd.R_drew)); exact (Kd.R_mono (Kd.R_far (p := ⟨gb503, 2, none⟩) (Kd.R_far (p := ⟨gb503, 1, none⟩) (Kd.R_far (p := ⟨gb503, 0, none⟩) (Kd.R_mono HO_14.out (fun k_ hk => (⟨hk, hk.2⟩ : _ ∧ k_ ≠ gb503))) (fun _ hk => hk.2) (.int .i64 ((rd_T85 t499 x16_1).f0))) (fun _ hk => hk.2) (.int .i64 ((rd_T85 t499 x16_1).f1))) (fun _ hk => hk.2) (.int .i64 ((rd_T85 t499 x16_1).f2))) (fun _ h_ => h_.1))) hb); replace BK503 := Aside0.mk (blk_below (g := gb503) (o := .cells #[.int .i64 ((rd_T85 t499 x16_1).f0), .int .i64 ((rd_T85 t499 x16_1).f1), .int .i64 ((rd_T85 t499 x16_1).f2)] 85 (0, 0)) (by (with_reducible repeat (first | refine blk_drewN ?_ _ | refine blk_drew ?_ | refine blk_alloc ?_ _)); refine blk_put (cs := #[.int .i64 ((rd_T85 t499 x16_1).f0), .int .i64 ((rd_T85 t499 x16_1).f1), .int .i64 0]) ?_ 2 _ rfl; (with_reducible repeat (first | refine blk_drewN ?_ _ | refine blk_drew ?_ | refine blk_alloc ?_ _)); refine blk_put (cs := #[.int .i64 ((rd_T85 t499 x16_1).f0), .int .i64 0, .int .i64 0]) ?_ 1 _ rfl; (with_reducible repeat (first | refine blk_drewN ?_ _ | refine blk_drew ?_ | refine blk_alloc ?_ _)); refine blk_put (cs := #[.int .i64 0, .int .i64 0, .int .i64 0]) ?_ 0 _ rfl; (with_reducible repeat (first | refine blk_drewN ?_ _ | refine blk_drew ?_ | refine blk_alloc ?_ _)); exact BK503.out) hb); replace HB := Aside0.mk (below_step (zG GE503.out) hb); (try clear hb); (try clear hb2); (try clear hk); (try clear hi)))
           repeat (go_quiet (first | ((with_reducible refine gate_dst (N := 8) rfl ?_); refine box_event ?hg (N := 8) ?hd (cs := #[.int .i64 0, .int .i64 0, .int .i64 0]) (t := 85) ?hr ?_; (case hd => rfl); (case hg => rfl); (case hr => first | (go_simp; done) | (go_simp; rfl)); intro gb503 hg w22 hbox hb; replace HO_14 := Aside0.mk (Kd.R_below (Kd.R_elderB (zR HO_14.out) gb503 (Nat.le_of_eq hg.symm)) hb); have BK503 := Aside0.mk (hbox); have GW503 := Aside0.mk ((by rw [hg]; exact (below_size zB) : w.heap.size ≤ gb503)); have GE503 := Aside0.mk ((by rw [hg]; exact (below_size zB) : w.heap.size ≤ gb503)); replace HB := Aside0.mk (below_step zB hb); clear hb hbox hg; have hcz23_0 : w22.cell? ⟨gb503, 0, none⟩ = some (.int .i64 0) := (blk_cell BK503.out 0).trans rfl; have hcz23_1 : w22.cell? ⟨gb503, 1, none⟩ = some (.int .i64 0) := (blk_cell BK503.out 1).trans rfl; have hcz23_2 : w22.cell? ⟨gb503, 2, none⟩ = some (.int .i64 0) := (blk_cell BK503.out 2).trans rfl; have hfz23_0 := blk_frozen BK503.out 0; have hfz23_1 := blk_frozen BK503.out 1; have hfz23_2 := blk_frozen BK503.out 2) | (go_at_call 90; (with_reducible refine (impl_chi_isInside.calls k1 _ l0 a2 ((rd_T85 t499 x16_1).f0) ((rd_T85 t499 x16_1).f1) ((rd_T85 t499 x16_1).f2) false _ ?side1 ?side2 A17.out).mono ?_); (case side1 => exact Kd.C_below HR0.out (zG GE503.out)); (case side2 => exact HC0.out); rintro e w24 ⟨rfl, hb⟩; replace HO_14 := Aside0.mk (Kd.R_below (by (with_reducible repeat (first | apply Kd.R_alloc | apply Kd.R_drewN | apply Kd.R_drew)); exact (Kd.R_mono (Kd.R_far (p := ⟨gb503, 2, none⟩) (Kd.R_far (p := ⟨gb503, 1, none⟩) (Kd.R_far (p := ⟨gb503, 0, none⟩) (Kd.R_mono HO_14.out (fun k_ hk => (⟨hk, hk.2⟩ : _ ∧ k_ ≠ gb503))) (fun _ hk => hk.2) (.int .i64 ((rd_T85 t499 x16_1).f0))) (fun _ hk => hk.2) (.int .i64 ((rd_T85 t499 x16_1).f1))) (fun _ hk => hk.2) (.int .i64 ((rd_T85 t499 x16_1).f2))) (fun _ h_ => h_.1))) hb); replace BK503 := Aside0.mk (blk_below (g := gb503) (o := .cells #[.int .i64 ((rd_T85 t499 x16_1).f0), .int .i64 ((rd_T85 t499 x16_1).f1), .int .i64 ((rd_T85 t499 x16_1).f2)] 85 (0, 0)) (by (with_reducible repeat (first | refine blk_drewN ?_ _ | refine blk_drew ?_ | refine blk_alloc ?_ _)); refine blk_put (cs := #[.int .i64 ((rd_T85 t499 x16_1).f0), .int .i64 ((rd_T85 t499 x16_1).f1), .int .i64 0]) ?_ 2 _ rfl; (with_reducible repeat (first | refine blk_drewN ?_ _ | refine blk_drew ?_ | refine blk_alloc ?_ _)); refine blk_put (cs := #[.int .i64 ((rd_T85 t499 x16_1).f0), .int .i64 0, .int .i64 0]) ?_ 1 _ rfl; (with_reducible repeat (first | refine blk_drewN ?_ _ | refine blk_drew ?_ | refine blk_alloc ?_ _)); refine blk_put (cs := #[.int .i64 0, .int .i64 0, .int .i64 0]) ?_ 0 _ rfl; (with_reducible repeat (first | refine blk_drewN ?_ _ | refine blk_drew ?_ | refine blk_alloc ?_ _)); exact BK503.out) hb); replace HB := Aside0.mk (below_step (zG GE503.out) hb); (try clear hb); (try clear hb2); (try clear hk); (try clear hi))); try go_wp2_with (first | ((with_reducible refine gate_dst (N := 8) rfl ?_); refine box_event ?hg (N := 8) ?hd (cs := #[.int .i64 0, .int .i64 0, .int .i64 0]) (t := 85) ?hr ?_; (case hd => rfl); (case hg => rfl); (case hr => first | (go_simp; done) | (go_simp; rfl)); intro gb503 hg w22 hbox hb; replace HO_14 := Aside0.mk (Kd.R_below (Kd.R_elderB (zR HO_14.out) gb503 (Nat.le_of_eq hg.symm)) hb); have BK503 := Aside0.mk (hbox); have GW503 := Aside0.mk ((by rw [hg]; exact (below_size zB) : w.heap.size ≤ gb503)); have GE503 := Aside0.mk ((by rw [hg]; exact (below_size zB) : w.heap.size ≤ gb503)); replace HB := Aside0.mk (below_step zB hb); clear hb hbox hg; have hcz23_0 : w22.cell? ⟨gb503, 0, none⟩ = some (.int .i64 0) := (blk_cell BK503.out 0).trans rfl; have hcz23_1 : w22.cell? ⟨gb503, 1, none⟩ = some (.int .i64 0) := (blk_cell BK503.out 1).trans rfl; have hcz23_2 : w22.cell? ⟨gb503, 2, none⟩ = some (.int .i64 0) := (blk_cell BK503.out 2).trans rfl; have hfz23_0 := blk_frozen BK503.out 0; have hfz23_1 := blk_frozen BK503.out 1; have hfz23_2 := blk_frozen BK503.out 2) | (go_at_call 90; (with_reducible refine (impl_chi_isInside.calls k1 _ l0 a2 ((rd_T85 t499 x16_1).f0) ((rd_T85 t499 x16_1).f1) ((rd_T85 t499 x16_1).f2) false _ ?side1 ?side2 A17.out).mono ?_); (case side1 => exact Kd.C_below HR0.out (zG GE503.out)); (case side2 => exact HC0.out); rintro e w24 ⟨rfl, hb⟩; replace HO_14 := Aside0.mk (Kd.R_below (by (with_reducible repeat (first | apply Kd.R_alloc | apply Kd.R_drewN | apply Kd.R_drew)); exact (Kd.R_mono (Kd.R_far (p := ⟨gb503, 2, none⟩) (Kd.R_far (p := ⟨gb503, 1, none⟩) (Kd.R_far (p := ⟨gb503, 0, none⟩) (Kd.R_mono HO_14.out (fun k_ hk => (⟨hk, hk.2⟩ : _ ∧ k_ ≠ gb503))) (fun _ hk => hk.2) (.int .i64 ((rd_T85 t499 x16_1).f0))) (fun _ hk => hk.2) (.int .i64 ((rd_T85 t499 x16_1).f1))) (fun _ hk => hk.2) (.int .i64 ((rd_T85 t499 x16_1).f2))) (fun _ h_ => h_.1))) hb); replace BK503 := Aside0.mk (blk_below (g := gb503) (o := .cells #[.int .i64 ((rd_T85 t499 x16_1).f0), .int .i64 ((rd_T85 t499 x16_1).f1), .int .i64 ((rd_T85 t499 x16_1).f2)] 85 (0, 0)) (by (with_reducible repeat (first | refine blk_drewN ?_ _ | refine blk_drew ?_ | refine blk_alloc ?_ _)); refine blk_put (cs := #[.int .i64 ((rd_T85 t499 x16_1).f0), .int .i64 ((rd_T85 t499 x16_1).f1), .int .i64 0]) ?_ 2 _ rfl; (with_reducible repeat (first | refine blk_drewN ?_ _ | refine blk_drew ?_ | refine blk_alloc ?_ _)); refine blk_put (cs := #[.int .i64 ((rd_T85 t499 x16_1).f0), .int .i64 0, .int .i64 0]) ?_ 1 _ rfl; (with_reducible repeat (first | refine blk_drewN ?_ _ | refine blk_drew ?_ | refine blk_alloc ?_ _)); refine blk_put (cs := #[.int .i64 0, .int .i64 0, .int .i64 0]) ?_ 0 _ rfl; (with_reducible repeat (first | refine blk_drewN ?_ _ | refine blk_drew ?_ | refine blk_alloc ?_ _)); exact BK503.out) hb); replace HB := Aside0.mk (below_step (zG GE503.out) hb); (try clear hb); (try clear hb2); (try clear hk); (try clear hi))))
           go_roundg k1
           case measure => have := HK1.out; omega
           case rel => exact ⟨(wrap64 (x16_1 + 1)), zF, H', ⟨by have := HK1.out; omega⟩, ⟨by (with_reducible repeat (first | apply Kd.R_alloc | apply Kd.R_drewN | apply Kd.R_drew)); exact Kd.R_mono HO_14.out (fun _ hk => trivial)⟩, ⟨zG GE503.out⟩⟩
         ·rw [if_neg c16] at H
          have c16b0 : ((Go.bits .and .i64 a1 (Go.bits .or .i64 (Go.bits .or .i64 (ji11) (ji13)) (ji15))) == (Go.bits .or .i64 (Go.bits .or .i64 (ji11) (ji13)) (ji15))) = false := beq_eq_false_iff_ne.mpr c16
          have c16b1 : ((Go.bits .and .i64 a1 (Go.bits .or .i64 (Go.bits .or .i64 (ji11) (ji13)) (ji15))) != (Go.bits .or .i64 (Go.bits .or .i64 (ji11) (ji13)) (ji15))) = true := bne_iff_ne.mpr c16
          have H' := Aside0.mk H
          clear H
          have p502 : 0 ≤ (x16_1 : Int) := zA
          have q502 : x16_1 < (t499.length : Int) := zA
          obtain ⟨ad502, e502, hx502_0, hx502_1, hx502_2⟩ := at_T85 (Kd.R_reads' HO_14.out).2.2 x16_1 p502 q502
          cases e502
          replace p502 := eq_true p502
          replace q502 := eq_true q502
          go_wp2_with (first | ((with_reducible refine gate_dst (N := 8) rfl ?_); refine box_event ?hg (N := 8) ?hd (cs := #[.int .i64 0, .int .i64 0, .int .i64 0]) (t := 85) ?hr ?_; (case hd => rfl); (case hg => rfl); (case hr => first | (go_simp; done) | (go_simp; rfl)); intro gb503 hg w25 hbox hb; replace HO_14 := Aside0.mk (Kd.R_below (Kd.R_elderB (zR HO_14.out) gb503 (Nat.le_of_eq hg.symm)) hb); have BK503 := Aside0.mk (hbox); have GW503 := Aside0.mk ((by rw [hg]; exact (below_size zB) : w.heap.size ≤ gb503)); have GE503 := Aside0.mk ((by rw [hg]; exact (below_size zB) : w.heap.size ≤ gb503)); replace HB := Aside0.mk (below_step zB hb); clear hb hbox hg; have hcz26_0 : w25.cell? ⟨gb503, 0, none⟩ = some (.int .i64 0) := (blk_cell BK503.out 0).trans rfl; have hcz26_1 : w25.cell? ⟨gb503, 1, none⟩ = some (.int .i64 0) := (blk_cell BK503.out 1).trans rfl; have hcz26_2 : w25.cell? ⟨gb503, 2, none⟩ = some (.int .i64 0) := (blk_cell BK503.out 2).trans rfl; have hfz26_0 := blk_frozen BK503.out 0; have hfz26_1 := blk_frozen BK503.out 1; have hfz26_2 := blk_frozen BK503.out 2))
          repeat (go_quiet (first | ((with_reducible refine gate_dst (N := 8) rfl ?_); refine box_event ?hg (N := 8) ?hd (cs := #[.int .i64 0, .int .i64 0, .int .i64 0]) (t := 85) ?hr ?_; (case hd => rfl); (case hg => rfl); (case hr => first | (go_simp; done) | (go_simp; rfl)); intro gb503 hg w25 hbox hb; replace HO_14 := Aside0.mk (Kd.R_below (Kd.R_elderB (zR HO_14.out) gb503 (Nat.le_of_eq hg.symm)) hb); have BK503 := Aside0.mk (hbox); have GW503 := Aside0.mk ((by rw [hg]; exact (below_size zB) : w.heap.size ≤ gb503)); have GE503 := Aside0.mk ((by rw [hg]; exact (below_size zB) : w.heap.size ≤ gb503)); replace HB := Aside0.mk (below_step zB hb); clear hb hbox hg; have hcz26_0 : w25.cell? ⟨gb503, 0, none⟩ = some (.int .i64 0) := (blk_cell BK503.out 0).trans rfl; have hcz26_1 : w25.cell? ⟨gb503, 1, none⟩ = some (.int .i64 0) := (blk_cell BK503.out 1).trans rfl; have hcz26_2 : w25.cell? ⟨gb503, 2, none⟩ = some (.int .i64 0) := (blk_cell BK503.out 2).trans rfl; have hfz26_0 := blk_frozen BK503.out 0; have hfz26_1 := blk_frozen BK503.out 1; have hfz26_2 := blk_frozen BK503.out 2)); try go_wp2_with (first | ((with_reducible refine gate_dst (N := 8) rfl ?_); refine box_event ?hg (N := 8) ?hd (cs := #[.int .i64 0, .int .i64 0, .int .i64 0]) (t := 85) ?hr ?_; (case hd => rfl); (case hg => rfl); (case hr => first | (go_simp; done) | (go_simp; rfl)); intro gb503 hg w25 hbox hb; replace HO_14 := Aside0.mk (Kd.R_below (Kd.R_elderB (zR HO_14.out) gb503 (Nat.le_of_eq hg.symm)) hb); have BK503 := Aside0.mk (hbox); have GW503 := Aside0.mk ((by rw [hg]; exact (below_size zB) : w.heap.size ≤ gb503)); have GE503 := Aside0.mk ((by rw [hg]; exact (below_size zB) : w.heap.size ≤ gb503)); replace HB := Aside0.mk (below_step zB hb); clear hb hbox hg; have hcz26_0 : w25.cell? ⟨gb503, 0, none⟩ = some (.int .i64 0) := (blk_cell BK503.out 0).trans rfl; have hcz26_1 : w25.cell? ⟨gb503, 1, none⟩ = some (.int .i64 0) := (blk_cell BK503.out 1).trans rfl; have hcz26_2 : w25.cell? ⟨gb503, 2, none⟩ = some (.int .i64 0) := (blk_cell BK503.out 2).trans rfl; have hfz26_0 := blk_frozen BK503.out 0; have hfz26_1 := blk_frozen BK503.out 1; have hfz26_2 := blk_frozen BK503.out 2)))
          go_roundg k1
          case measure => have := HK1.out; omega
          case rel => exact ⟨(wrap64 (x16_1 + 1)), zF, H', ⟨by have := HK1.out; omega⟩, ⟨by (with_reducible repeat (first | apply Kd.R_alloc | apply Kd.R_drewN | apply Kd.R_drew)); exact Kd.R_mono (Kd.R_far (p := ⟨gb503, 2, none⟩) (Kd.R_far (p := ⟨gb503, 1, none⟩) (Kd.R_far (p := ⟨gb503, 0, none⟩) (Kd.R_mono HO_14.out (fun k_ hk => (⟨hk, hk.2⟩ : _ ∧ k_ ≠ gb503))) (fun _ hk => hk.2) (.int .i64 ((rd_T85 t499 x16_1).f0))) (fun _ hk => hk.2) (.int .i64 ((rd_T85 t499 x16_1).f1))) (fun _ hk => hk.2) (.int .i64 ((rd_T85 t499 x16_1).f2))) (fun _ hk => trivial)⟩, ⟨zG GE503.out⟩⟩
        ·rw [if_neg c14] at H
         exact absurd H (by simp)
       ·rw [if_neg c12] at H
        exact absurd H (by simp)
      ·rw [if_neg c10] at H
       exact absurd H (by simp)
     ·rw [if_neg c9] at H
      exact absurd H (by simp)
    ·rw [if_neg c8] at H
     exact absurd H (by simp)
   ·rw [if_neg c7] at H
    have c7b0 : decide (x16_1 < (t499.length : Int)) = false := decide_eq_false c7
    clear c7
    obtain rfl := Option.some.inj H
    go_wp2
    repeat (go_quiet (fail); try go_wp2)
    go_ret
    exact ⟨zE, zB⟩
end Go.Proofs.Ytbjncemaeagjjaa.PX
namespace Go.Proofs.Ytbjncemaeagjjaa.M
open Go.RowKit Go.Proofs.YtbjncemaeagjjaaW.PrintWords Go.Proofs.Ytbjncemaeagjjaa.PX Go.Proofs.Ytbjncemaeagjjaa.G Go.Proofs.YtbjncemaeagjjaaW.PrintMore
def bitsChk : Bool := (List.range 128).all fun s => decide (spec_l7Bits.f 20 (s : Int) = some (popN s : Int))
theorem bitsChk_ok : bitsChk = true := by decide +kernel
theorem bits_ev {s : Nat} (hs : s < 128) : Ev (fun k => spec_l7Bits.f k (s : Int)) (popN s : Int) := Ev.of (spec_l7Bits.mono _) (of_decide_eq_true (List.all_eq_true.1 bitsChk_ok s (List.mem_range.2 hs)))
end Go.Proofs.Ytbjncemaeagjjaa.M
namespace Go.Proofs.Ytbjncemaeagjjaa.M
open Go.RowKit Go.Proofs.YtbjncemaeagjjaaW.PrintWords Go.Proofs.Ytbjncemaeagjjaa.PX Go.Proofs.Ytbjncemaeagjjaa.G Go.Proofs.YtbjncemaeagjjaaW.PrintMore
def cntChk : Bool := (List.range 128).all fun s => decide (bits_OnesCount.f (IntKind.u64.wrap (s : Int)) = some (popN s : Int))
theorem cntChk_ok : cntChk = true := by decide +kernel
theorem ones_f {s : Nat} (hs : s < 128) : bits_OnesCount.f (IntKind.u64.wrap (s : Int)) = some (popN s : Int) := of_decide_eq_true (List.all_eq_true.1 cntChk_ok s (List.mem_range.2 hs))
end Go.Proofs.Ytbjncemaeagjjaa.M
namespace Go.Proofs.Ytbjncemaeagjjaa.M
open Go.RowKit Go.Proofs.YtbjncemaeagjjaaW.PrintWords Go.Proofs.Ytbjncemaeagjjaa.PX Go.Proofs.Ytbjncemaeagjjaa.G Go.Proofs.YtbjncemaeagjjaaW.PrintMore
theorem full_ev {n : Nat} (hn : n ≤ 7) : wrap64 (shl .i64 1 (n : Int) - 1) = ((2 ^ n - 1 : Nat) : Int) := by
  have := pow_128 hn
  have : 0 < 2 ^ n := Nat.pow_pos (by omega)
  rw [shl_id hn, wrap_id (by omega) (by omega)]
  omega
theorem fullSet_f {n : Nat} (hn : n ≤ 7) : impl_fullSet.f (n : Int) = some ((2 ^ n - 1 : Nat) : Int) := by
  unfold impl_fullSet.f
  rw [if_pos (by omega), full_ev hn]
/-- Is a number a set of n elements? -/
def setB (n : Nat) (s : Int) : Bool := decide (0 ≤ s) && decide (s < ((2 ^ n : Nat) : Int))
theorem spec_set {n : Nat} (hn : n ≤ 7) (s : Int) : spec_l1In.f s 0 (wrap64 (shl .i64 1 (IntKind.u64.wrap (n : Int)) - 1)) = some (setB n s) := by
  rw [u64_id hn, full_ev hn, spec_in]
  unfold setB
  have : 0 < 2 ^ n := Nat.pow_pos (by omega)
  congr 2
  exact decide_eq_decide.2 (by omega)
theorem set_nat {n : Nat} (hn : n ≤ 7) {s : Int} (h : setB n s = true) : ∃ S : Nat, s = (S : Int) ∧ S < 2 ^ n ∧ S < 128 := by
  simp only [setB, Bool.and_eq_true, decide_eq_true_eq] at h
  have := pow_128 hn
  exact ⟨s.toNat, by omega, by omega, by omega⟩
end Go.Proofs.Ytbjncemaeagjjaa.M
namespace Go.Proofs.Ytbjncemaeagjjaa.M
open Go.RowKit Go.Proofs.YtbjncemaeagjjaaW.PrintWords Go.Proofs.Ytbjncemaeagjjaa.PX Go.Proofs.Ytbjncemaeagjjaa.G
/-- The byte of a sign. -/
def sgC (x : Int) : UInt8 := if x > 0 then 43 else 45
def mkB (l : List UInt8) : ByteArray := ⟨l.toArray⟩
theorem mkB_size (l : List UInt8) : (mkB l).size = l.length := by simp [mkB, ByteArray.size]
theorem mkB_append (l l' : List UInt8) : mkB l ++ mkB l' = mkB (l ++ l') := by
  apply ByteArray.ext
  rw [ByteArray.data_append]
  simp [mkB]
theorem mkB_list (t : ByteArray) : mkB t.data.toList = t := rfl
theorem byte_ev (x : Int) : spec_l3Byte.f x = some (mkB [sgC x]) := by
  unfold spec_l3Byte.f sgC
  split <;> rfl
/-- The bytes of the places (i, j, m), m from k on. -/
def byt (n : Nat) (t : ByteArray) (l : List Nat) (i j k : Nat) : UInt8 := sgC (chi n t (l.getD i 0) (l.getD j 0) (l.getD k 0))
def pk2 (n : Nat) (t : ByteArray) (l : List Nat) (i j k d : Nat) : List UInt8 := (List.range' k d).map fun k => byt n t l i j k
def pk1 (n : Nat) (t : ByteArray) (l : List Nat) (i j d : Nat) : List UInt8 := (List.range' j d).flatMap fun j => pk2 n t l i j (j + 1) (l.length - (j + 1))
def pk0 (n : Nat) (t : ByteArray) (l : List Nat) (i d : Nat) : List UInt8 := (List.range' i d).flatMap fun i => pk1 n t l i (i + 1) (l.length - (i + 1))
theorem pk2_length (n : Nat) (t : ByteArray) (l : List Nat) (i j k d : Nat) : (pk2 n t l i j k d).length = d := by simp [pk2]
theorem pk1_length (n : Nat) (t : ByteArray) (l : List Nat) (hl : l.length ≤ 7) (i : Nat) (d : Nat) : ∀ j, (pk1 n t l i j d).length ≤ 7 * d := by
  induction d with
  | zero => intro j; simp [pk1]
  | succ d ih =>
    intro j
    have e : pk1 n t l i j (d + 1) = pk2 n t l i j (j + 1) (l.length - (j + 1)) ++ pk1 n t l i (j + 1) d := by rw [pk1, List.range'_succ, List.flatMap_cons]; rfl
    have := ih (j + 1)
    rw [e, List.length_append, pk2_length]
    omega
/-- The places of a list's triples in the text, as the tables hold them. -/
def lkL (n : Nat) (l : List Nat) : List (Option (Bool × Nat)) := (List.range' 0 l.length).flatMap fun i => (List.range' (i + 1) (l.length - (i + 1))).flatMap fun j => (List.range' (j + 1) (l.length - (j + 1))).map fun k => lookT (tripN n) 0 (ix3 (l.getD i 0) (l.getD j 0) (l.getD k 0))
def lkB (t : ByteArray) (z : Option (Bool × Nat)) : UInt8 := sgC (match z with | some z => sgv z.1 (sgB t z.2) | none => 0)
theorem pk0_look (n : Nat) (t : ByteArray) (l : List Nat) : pk0 n t l 0 l.length = (lkL n l).map (lkB t) := by
  simp only [pk0, pk1, pk2, lkL, List.map_flatMap, List.map_map]
  rfl
theorem lkB_text {t : ByteArray} (ht : ∀ c ∈ t.data.toList, c = 43 ∨ c = 45) {p : Nat} (hp : p < t.data.toList.length) : lkB t (some (false, p)) = t.data.toList[p] := by
  show sgC (sgB t p) = _
  unfold sgB
  rw [bt_nat hp]
  rcases ht _ (List.getElem_mem hp) with e | e <;> rw [e] <;> rfl
theorem lkB_neg {t : ByteArray} (ht : ∀ c ∈ t.data.toList, c = 43 ∨ c = 45) {p : Nat} (hp : p < t.data.toList.length) : lkB t (some (true, p)) = oppB t.data.toList[p] := by
  show sgC (-sgB t p) = _
  unfold sgB
  rw [bt_nat hp]
  rcases ht _ (List.getElem_mem hp) with e | e <;> rw [e] <;> rfl
end Go.Proofs.Ytbjncemaeagjjaa.M
namespace Go.Proofs.Ytbjncemaeagjjaa.M
open Go.RowKit Go.Proofs.YtbjncemaeagjjaaW.PrintWords Go.Proofs.Ytbjncemaeagjjaa.PX Go.Proofs.Ytbjncemaeagjjaa.G
theorem list_ext0 {l l' : List Int} (h : l.length = l'.length) (h' : ∀ x, x < l.length → l.getD x 0 = l'.getD x 0) : l = l' := by
  refine List.ext_getElem h fun x h1 h2 => ?_
  have := h' x h1
  rw [List.getD_eq_getElem?_getD, List.getD_eq_getElem?_getD, List.getElem?_eq_getElem h1, List.getElem?_eq_getElem h2] at this
  exact this
/-- The sign at a cell, out of the signs at the places. -/
def valS (n : Nat) (s : Nat → Int) (x : Nat) : Int := match lookT (tripN n) 0 x with | some z => sgv z.1 (s z.2) | none => 0
/-- The sign of three elements, out of the signs at the places. -/
def chiS (n : Nat) (s : Nat → Int) (a b c : Nat) : Int := valS n s (ix3 a b c)
def tblS (n : Nat) (s : Nat → Int) : List Int := (n : Int) :: (List.range 343).map fun x => valS n s (x + 1)
theorem tblS_length (n : Nat) (s : Nat → Int) : (tblS n s).length = 344 := by simp [tblS]
theorem tblS_getD (n : Nat) (s : Nat → Int) {x : Nat} (h0 : x ≠ 0) (hx : x < 344) : (tblS n s).getD x 0 = valS n s x := by
  obtain ⟨y, rfl⟩ : ∃ y, x = y + 1 := ⟨x - 1, by omega⟩
  rw [tblS, List.getD_cons_succ, List.getD_eq_getElem?_getD, List.getElem?_map, List.getElem?_range (by omega)]
  rfl
theorem tblS_n (n : Nat) (s : Nat → Int) : rd (tblS n s) 0 = n := rfl
theorem tblS_rd (n : Nat) (s : Nat → Int) {a b c : Nat} (ha : a < 7) (hb : b < 7) (hc : c < 7) : rd3 (tblS n s) (a : Int) (b : Int) (c : Int) = chiS n s a b c := by
  have e : rd3 (tblS n s) (a : Int) (b : Int) (c : Int) = (tblS n s).getD (ix3 a b c) 0 := by
    unfold rd3 rd
    have : (1 + (a : Int) * 49 + (b : Int) * 7 + (c : Int)).toNat = ix3 a b c := by unfold ix3; omega
    rw [this]
  rw [e, tblS_getD n s (by unfold ix3; omega) (by unfold ix3; omega)]
  rfl
theorem chi_chiS (n : Nat) (t : ByteArray) (a b c : Nat) : chi n t a b c = chiS n (sgB t) a b c := rfl
theorem tblL_S (n : Nat) (t : ByteArray) : tblL n t = tblS n (sgB t) := by
  refine list_ext0 (by rw [tblL_length, tblS_length]) fun x hx => ?_
  rw [tblL_length] at hx
  by_cases h0 : x = 0
  · subst h0
    exact tbl_n n t
  · rw [tblS_getD n _ h0 hx]
    unfold tblL valS
    rw [foldTbl_getD t _ _ _ _ (by rw [List.length_cons, List.length_replicate]; exact hx)]
    obtain ⟨y, rfl⟩ : ∃ y, x = y + 1 := ⟨x - 1, by omega⟩
    have : ((n : Int) :: List.replicate 343 (0 : Int)).getD (y + 1) 0 = 0 := by
      rw [List.getD_cons_succ, List.getD_eq_getElem?_getD, List.getElem?_replicate]
      split <;> rfl
    rw [this]
    cases lookT (tripN n) 0 (y + 1) <;> rfl
theorem tblS_zero (n : Nat) : (n : Int) :: List.replicate 343 (0 : Int) = tblS n (fun _ => 0) := by
  unfold tblS
  congr 1
  refine List.ext_getElem (by rw [List.length_replicate, List.length_map, List.length_range]) fun x h1 h2 => ?_
  simp only [List.getElem_replicate, List.getElem_map, List.getElem_range, valS]
  cases lookT (tripN n) 0 (x + 1) with
  | none => rfl
  | some z => obtain ⟨b, m⟩ := z; cases b <;> rfl
theorem six_mem {i j k m x : Nat} {z : Bool × Nat} (h : six i j k m x = some z) : z.2 = m := six_snd h
/-- What a cell's place is: the three elements there, in some order. -/
theorem lookT_at (ts : List S85) : ∀ (m0 x : Nat) (z : Bool × Nat), lookT ts m0 x = some z → ∃ p, ∃ h : p < ts.length, z.2 = m0 + p ∧ six ts[p].f0.toNat ts[p].f1.toNat ts[p].f2.toNat (m0 + p) x = some z := by
  induction ts with
  | nil => intro m0 x z h; cases h
  | cons y r ih =>
    intro m0 x z h
    rw [lookT] at h
    cases hr : lookT r (m0 + 1) x with
    | some z' =>
      rw [hr] at h
      cases h
      obtain ⟨p, hp, h1, h2⟩ := ih (m0 + 1) x _ hr
      refine ⟨p + 1, by simp only [List.length_cons]; omega, by omega, ?_⟩
      simp only [List.getElem_cons_succ]
      rw [show m0 + (p + 1) = m0 + 1 + p by omega]
      exact h2
    | none =>
      rw [hr] at h
      have h' : six y.f0.toNat y.f1.toNat y.f2.toNat m0 x = some z := h
      exact ⟨0, by simp, by rw [six_snd h']; rfl, h'⟩
def idx6 (a b c : Nat) : List Nat := [ix3 b a c, ix3 c b a, ix3 a c b, ix3 c a b, ix3 b c a, ix3 a b c]
theorem six_none {a b c m x : Nat} : six a b c m x = none ↔ x ∉ idx6 a b c := by
  unfold six idx6
  simp only [List.mem_cons, List.not_mem_nil, or_false, not_or]
  constructor
  · intro h
    (repeat' split at h) <;> first | exact ⟨by assumption, by assumption, by assumption, by assumption, by assumption, by assumption⟩ | cases h
  · rintro ⟨h1, h2, h3, h4, h5, h6⟩
    rw [if_neg h1, if_neg h2, if_neg h3, if_neg h4, if_neg h5, if_neg h6]
def tripAt (n p : Nat) : S85 := (tripN n).getD p ⟨0, 0, 0⟩
theorem tripAt_eq {n p : Nat} (h : p < (tripN n).length) : tripAt n p = (tripN n)[p] := by
  unfold tripAt
  rw [List.getD_eq_getElem?_getD, List.getElem?_eq_getElem h]; rfl
def chkP1 (n a b c : Nat) : Bool :=
  match lookT (tripN n) 0 (ix3 a b c) with
  | some (neg, p) => decide (p < (tripN n).length) && (lookT (tripN n) 0 (ix3 b a c) == some (!neg, p)) && (lookT (tripN n) 0 (ix3 c b a) == some (!neg, p)) && (lookT (tripN n) 0 (ix3 a c b) == some (!neg, p)) &&
      (lookT (tripN n) 0 (ix3 c a b) == some (neg, p)) && (lookT (tripN n) 0 (ix3 b c a) == some (neg, p)) &&
      ((idx6 (tripAt n p).f0.toNat (tripAt n p).f1.toNat (tripAt n p).f2.toNat).all fun x => (idx6 a b c).contains x)
  | none => false
def chkP (n : Nat) : Bool := (List.range n).all fun a => (List.range n).all fun b => (List.range n).all fun c => (decide (a = b) || decide (b = c) || decide (a = c)) || chkP1 n a b c
theorem chkP_all {n : Nat} (h0 : 3 ≤ n) (h1 : n ≤ 7) : chkP n = true := by
  refine five (p := fun n => chkP n = true) h0 h1 ?_ ?_ ?_ ?_ ?_ <;> decide +kernel
theorem look_of {n a b c : Nat} (h0 : 3 ≤ n) (h1 : n ≤ 7) (ha : a < n) (hb : b < n) (hc : c < n) (hab : a ≠ b) (hbc : b ≠ c) (hac : a ≠ c) :
    ∃ neg p, lookT (tripN n) 0 (ix3 a b c) = some (neg, p) ∧ p < (tripN n).length ∧ lookT (tripN n) 0 (ix3 b a c) = some (!neg, p) ∧ lookT (tripN n) 0 (ix3 c b a) = some (!neg, p) ∧ lookT (tripN n) 0 (ix3 a c b) = some (!neg, p) ∧
      lookT (tripN n) 0 (ix3 c a b) = some (neg, p) ∧ lookT (tripN n) 0 (ix3 b c a) = some (neg, p) ∧ ∀ x ∈ idx6 (tripAt n p).f0.toNat (tripAt n p).f1.toNat (tripAt n p).f2.toNat, x ∈ idx6 a b c := by
  have h := chkP_all h0 h1
  have h := List.all_eq_true.1 h a (List.mem_range.2 ha)
  have h := List.all_eq_true.1 h b (List.mem_range.2 hb)
  have h := List.all_eq_true.1 h c (List.mem_range.2 hc)
  rw [decide_eq_false hab, decide_eq_false hbc, decide_eq_false hac] at h
  simp only [Bool.or_self, Bool.false_or] at h
  unfold chkP1 at h
  split at h
  · rename_i neg p hp
    simp only [Bool.and_eq_true, decide_eq_true_eq, beq_iff_eq, List.all_eq_true, List.contains_iff_mem] at h
    obtain ⟨⟨⟨⟨⟨⟨g0, g1⟩, g2⟩, g3⟩, g4⟩, g5⟩, g6⟩ := h
    exact ⟨neg, p, hp, g0, g1, g2, g3, g4, g5, g6⟩
  · cases h
def upd (s : Nat → Int) (p : Nat) (v : Int) : Nat → Int := fun q => if q = p then v else s q
theorem upd_self (s : Nat → Int) (p : Nat) (v : Int) : upd s p v p = v := if_pos rfl
theorem upd_ne (s : Nat → Int) {p q : Nat} (v : Int) (h : q ≠ p) : upd s p v q = s q := if_neg h
theorem sgv_sgv (f neg : Bool) (v : Int) : sgv (f ^^ neg) (sgv neg v) = sgv f v := by
  cases f <;> cases neg <;> simp [sgv]
/-- Giving three elements a sign, in any order. -/
theorem set_tblS {n a b c p : Nat} {neg : Bool} (s : Nat → Int) (v : Int) (h0 : 3 ≤ n) (h1 : n ≤ 7) (ha : a < n) (hb : b < n) (hc : c < n) (hab : a ≠ b) (hbc : b ≠ c) (hac : a ≠ c) (hl : lookT (tripN n) 0 (ix3 a b c) = some (neg, p)) :
    set6 (tblS n s) a b c v = tblS n (upd s p (sgv neg v)) := by
  obtain ⟨neg', p', e0, hp, e1, e2, e3, e4, e5, e6⟩ := look_of h0 h1 ha hb hc hab hbc hac
  rw [hl] at e0
  cases e0
  refine list_ext0 (by rw [set6_length, tblS_length, tblS_length]) fun x hx => ?_
  rw [set6_length] at hx
  have hx' := hx
  rw [tblS_length] at hx'
  rw [set6_getD _ _ _ _ 0 _ _ hx]
  have key : ∀ (f : Bool) (y : Nat), y ≠ 0 → y < 344 → lookT (tripN n) 0 y = some (f ^^ neg, p) → sgv f v = (tblS n (upd s p (sgv neg v))).getD y 0 := by
    intro f y hy0 hy hly
    rw [tblS_getD _ _ hy0 hy]
    unfold valS
    rw [hly]
    show _ = sgv (f ^^ neg) (upd s p (sgv neg v) p)
    rw [upd_self, sgv_sgv]
  have nz : ∀ i j k : Nat, ix3 i j k ≠ 0 := fun i j k => by unfold ix3; omega
  cases hs : six a b c 0 x with
  | some z =>
    have hs' := hs
    unfold six at hs'
    split at hs'
    · rename_i e; cases hs'; subst e; exact key true _ (nz _ _ _) hx' (by rw [e1]; cases neg <;> rfl)
    split at hs'
    · rename_i e; cases hs'; subst e; exact key true _ (nz _ _ _) hx' (by rw [e2]; cases neg <;> rfl)
    split at hs'
    · rename_i e; cases hs'; subst e; exact key true _ (nz _ _ _) hx' (by rw [e3]; cases neg <;> rfl)
    split at hs'
    · rename_i e; cases hs'; subst e; exact key false _ (nz _ _ _) hx' (by rw [e4]; cases neg <;> rfl)
    split at hs'
    · rename_i e; cases hs'; subst e; exact key false _ (nz _ _ _) hx' (by rw [e5]; cases neg <;> rfl)
    split at hs'
    · rename_i e; cases hs'; subst e; exact key false _ (nz _ _ _) hx' (by rw [hl]; cases neg <;> rfl)
    · cases hs'
  | none =>
    show (tblS n s).getD x 0 = _
    by_cases hz : x = 0
    · subst hz; rfl
    rw [tblS_getD _ _ hz hx', tblS_getD _ _ hz hx']
    unfold valS
    cases hx0 : lookT (tripN n) 0 x with
    | none => rfl
    | some z =>
      show sgv z.1 (s z.2) = sgv z.1 (upd s p (sgv neg v) z.2)
      rw [upd_ne]
      intro hzp
      obtain ⟨q, hq, g1, g2⟩ := lookT_at (tripN n) 0 x z hx0
      obtain rfl : q = p := by omega
      rw [← tripAt_eq hq] at g2
      refine six_none.1 hs (e6 x ?_)
      refine Classical.byContradiction fun hn => ?_
      rw [six_none.2 hn] at g2
      cases g2
theorem tblS_congr {n : Nat} {s s' : Nat → Int} (h : ∀ p, p < (tripN n).length → s p = s' p) : tblS n s = tblS n s' := by
  unfold tblS
  congr 1
  refine List.map_congr_left fun x _ => ?_
  unfold valS
  cases hx0 : lookT (tripN n) 0 (x + 1) with
  | none => rfl
  | some z =>
    obtain ⟨q, hq, g1, g2⟩ := lookT_at (tripN n) 0 _ z hx0
    show sgv z.1 (s z.2) = sgv z.1 (s' z.2)
    rw [h z.2 (by omega)]
def chkI (n : Nat) : Bool := (List.range (tripN n).length).all fun p => (lookT (tripN n) 0 (ix3 (tripAt n p).f0.toNat (tripAt n p).f1.toNat (tripAt n p).f2.toNat) == some (false, p)) && decide ((tripAt n p).f0 < (tripAt n p).f1) && decide ((tripAt n p).f1 < (tripAt n p).f2) && decide ((tripAt n p).f2 < n) && decide (0 ≤ (tripAt n p).f0)
theorem chkI_all {n : Nat} (h0 : 3 ≤ n) (h1 : n ≤ 7) : (chkI n && decide ((tripN n).length ≤ 35)) = true := by
  refine five (p := fun n => (chkI n && decide ((tripN n).length ≤ 35)) = true) h0 h1 ?_ ?_ ?_ ?_ ?_ <;> decide +kernel
theorem trip_len {n : Nat} (h0 : 3 ≤ n) (h1 : n ≤ 7) : (tripN n).length ≤ 35 := by
  have h := chkI_all h0 h1
  simp only [Bool.and_eq_true, decide_eq_true_eq] at h
  exact h.2
theorem tripN_L {n : Nat} (h0 : 3 ≤ n) (h1 : n ≤ 7) : tripN n = (tripsL n).map fun q => ⟨(q.1 : Int), (q.2.1 : Int), (q.2.2 : Int)⟩ := by
  refine five (p := fun n => tripN n = (tripsL n).map fun q => ⟨(q.1 : Int), (q.2.1 : Int), (q.2.2 : Int)⟩) h0 h1 ?_ ?_ ?_ ?_ ?_ <;> kernel_rfl
/-- The elements at a place: ascending, and their sign is the place's. -/
theorem trip_at {n p : Nat} (h0 : 3 ≤ n) (h1 : n ≤ 7) (hp : p < (tripN n).length) : ∃ a b c : Nat, (tripN n)[p] = ⟨(a : Int), (b : Int), (c : Int)⟩ ∧ a < b ∧ b < c ∧ c < n ∧ lookT (tripN n) 0 (ix3 a b c) = some (false, p) := by
  have h := chkI_all h0 h1
  simp only [Bool.and_eq_true, decide_eq_true_eq] at h
  have h := List.all_eq_true.1 h.1 p (List.mem_range.2 hp)
  simp only [Bool.and_eq_true, decide_eq_true_eq, beq_iff_eq] at h
  obtain ⟨⟨⟨⟨g0, g1⟩, g2⟩, g3⟩, g4⟩ := h
  rw [tripAt_eq hp] at *
  generalize (tripN n)[p] = y at *
  obtain ⟨x0, x1, x2⟩ := y
  simp only at *
  refine ⟨x0.toNat, x1.toNat, x2.toNat, ?_, by omega, by omega, by omega, g0⟩
  rw [Int.toNat_of_nonneg (by omega), Int.toNat_of_nonneg (by omega), Int.toNat_of_nonneg (by omega)]
theorem chiS_at {n p a b c : Nat} {neg : Bool} (s : Nat → Int) (h : lookT (tripN n) 0 (ix3 a b c) = some (neg, p)) : chiS n s a b c = sgv neg (s p) := by
  unfold chiS valS
  rw [h]
/-- The text of a table. -/
def txtS (n : Nat) (s : Nat → Int) : ByteArray := mkB ((List.range (tripN n).length).map fun p => sgC (s p))
theorem foldl_snoc {α β : Type} (f : α → β) (l : List α) : ∀ s : List β, l.foldl (fun s a => s ++ [f a]) s = s ++ l.map f := by
  induction l with
  | nil => intro s; simp
  | cons x l ih => intro s; rw [List.foldl_cons, ih, List.map_cons, List.append_assoc]; rfl
theorem txtS_list (n : Nat) (s : Nat → Int) : (txtS n s).data.toList = (List.range (tripN n).length).map fun p => sgC (s p) := rfl
theorem txtS_congr {n : Nat} {s s' : Nat → Int} (h : ∀ p, p < (tripN n).length → s p = s' p) : txtS n s = txtS n s' := by
  unfold txtS
  congr 1
  refine List.map_congr_left fun p hp => ?_
  rw [h p (List.mem_range.1 hp)]
theorem txtS_ok {n : Nat} (s : Nat → Int) (h0 : 3 ≤ n) (h1 : n ≤ 7) : areOk n (txtS n s) = true := by
  rw [areOk_iff]
  refine ⟨by omega, ?_, fun c hc => ?_⟩
  · rw [← (trip_small h0 h1).2, txtS, mkB_size, List.length_map, List.length_range]
  · rw [txtS_list, List.mem_map] at hc
    obtain ⟨p, _, rfl⟩ := hc
    unfold sgC
    split <;> simp
theorem sgB_txtS {n p : Nat} {s : Nat → Int} (hp : p < (tripN n).length) (hs : s p = 1 ∨ s p = -1) : sgB (txtS n s) p = s p := by
  have hl : p < (txtS n s).data.toList.length := by rw [txtS_list, List.length_map, List.length_range]; exact hp
  unfold sgB
  rw [bt_nat hl]
  have : (txtS n s).data.toList[p] = sgC (s p) := by simp only [txtS_list, List.getElem_map, List.getElem_range]
  rw [this]
  rcases hs with h | h <;> rw [h] <;> rfl
theorem tblL_txtS {n : Nat} {s : Nat → Int} (hs : ∀ p, p < (tripN n).length → s p = 1 ∨ s p = -1) : tblL n (txtS n s) = tblS n s := by
  rw [tblL_S]
  exact tblS_congr fun p hp => sgB_txtS hp (hs p hp)
theorem txtS_sgB {n : Nat} {t : ByteArray} (h : areOk n t = true) : txtS n (sgB t) = t := by
  obtain ⟨⟨h0, h1⟩, h2, ht⟩ := (areOk_iff _ _).1 h
  have hc := (trip_small (n := n) (by omega) (by omega)).2
  rw [size_list] at h2
  have e : (List.range (tripN n).length).map (fun p => sgC (sgB t p)) = t.data.toList := ?_
  · unfold txtS
    rw [e]
    rfl
  refine List.ext_getElem (by rw [List.length_map, List.length_range]; omega) fun p hp1 hp2 => ?_
  simp only [List.getElem_map, List.getElem_range]
  unfold sgB
  rw [bt_nat hp2]
  rcases ht _ (List.getElem_mem hp2) with e | e
  · rw [e]; rfl
  · rw [e]; rfl
theorem chiS_pm {n a b c : Nat} {s : Nat → Int} (h0 : 3 ≤ n) (h1 : n ≤ 7) (hs : ∀ p, p < (tripN n).length → s p = 1 ∨ s p = -1) (ha : a < n) (hb : b < n) (hc : c < n) (hab : a ≠ b) (hbc : b ≠ c) (hac : a ≠ c) : chiS n s a b c = 1 ∨ chiS n s a b c = -1 := by
  obtain ⟨neg, p, e0, hp, _⟩ := look_of h0 h1 ha hb hc hab hbc hac
  rw [chiS_at s e0]
  rcases hs p hp with e | e <;> rw [e] <;> cases neg <;> simp [sgv]
theorem chi_txtS {n a b c : Nat} {s : Nat → Int} (hs : ∀ p, p < (tripN n).length → s p = 1 ∨ s p = -1) : chi n (txtS n s) a b c = chiS n s a b c := by
  rw [chi_chiS]
  unfold chiS valS
  cases hx0 : lookT (tripN n) 0 (ix3 a b c) with
  | none => rfl
  | some z =>
    obtain ⟨q, hq, g1, g2⟩ := lookT_at (tripN n) 0 _ z hx0
    show sgv z.1 _ = sgv z.1 _
    have hz : z.2 < (tripN n).length := by omega
    rw [sgB_txtS hz (hs _ hz)]
theorem rd_trip {ts : List S85} {i : Nat} (h : i < ts.length) : rd_T85 ts (i : Int) = ts[i] := by
  unfold rd_T85
  rw [Int.toNat_natCast, List.getD_eq_getElem?_getD, List.getElem?_eq_getElem h]
  rfl
end Go.Proofs.Ytbjncemaeagjjaa.M
namespace Go.Proofs.Ytbjncemaeagjjaa.M
open Go.RowKit Go.Proofs.YtbjncemaeagjjaaW.PrintWords Go.Proofs.Ytbjncemaeagjjaa.PX Go.Proofs.Ytbjncemaeagjjaa.G Go.Proofs.YtbjncemaeagjjaaW.PrintMore
def toS3 (q : Nat × Nat × Nat) : S85 := ⟨(q.1 : Int), (q.2.1 : Int), (q.2.2 : Int)⟩
theorem tripN_S {n : Nat} (h0 : 3 ≤ n) (h1 : n ≤ 7) : tripN n = (tripsL n).map toS3 := tripN_L h0 h1
theorem rd_toS3 {qs : List (Nat × Nat × Nat)} {i : Nat} (h : i < qs.length) : rd_T85 (qs.map toS3) (i : Int) = toS3 qs[i] := by
  rw [rd_trip (by rw [List.length_map]; exact h), List.getElem_map]
theorem quads_len {n : Nat} (h0 : 3 ≤ n) (h1 : n ≤ 7) : (tripsL n).length ≤ 35 := by
  refine five (p := fun n => (tripsL n).length ≤ 35) h0 h1 ?_ ?_ ?_ ?_ ?_ <;> decide +kernel
/-- Is p another element than three, and inside their triangle? -/
def insB (n : Nat) (t : ByteArray) (p a b c : Nat) : Bool := decide (p ≠ a) && decide (p ≠ b) && decide (p ≠ c) && (innerV n t p a b c == (p : Int))
def cntV (n : Nat) (t : ByteArray) (a b c : Nat) : Nat := ((List.range n).filter fun p => insB n t p a b c).length
theorem insB_dist {n : Nat} {t : ByteArray} {p a b c : Nat} (h1 : p ≠ a) (h2 : p ≠ b) (h3 : p ≠ c) : insB n t p a b c = (innerV n t p a b c == (p : Int)) := by
  unfold insB
  rw [decide_eq_true h1, decide_eq_true h2, decide_eq_true h3]
  rfl
theorem cnt_fold {ρ : Type} (c : Nat → Bool) (n : Nat) : (List.range' 0 (n - 0)).foldlM (fun (s : Nat) p => (.ok (if c p then s + 1 else s) : Except ρ Nat)) 0 = .ok ((List.range n).filter c).length := by
  rw [foldlM_ok, Nat.sub_zero, ← List.range_eq_range']
  have key : ∀ (l : List Nat) (s : Nat), l.foldl (fun s p => if c p then s + 1 else s) s = s + (l.filter c).length := by
    intro l
    induction l with
    | nil => intro s; rfl
    | cons x l ih =>
      intro s
      rw [List.foldl_cons, ih, List.filter_cons]
      split
      · rw [List.length_cons]; omega
      · rfl
  rw [key, Nat.zero_add]
section
variable {n : Nat} {t : ByteArray} (h : areOk n t = true) {a b c : Nat} (ha : a < n) (hb : b < n) (hc : c < n) (hab : a ≠ b) (hac : a ≠ c) (hbc : b ≠ c)
include h ha hb hc hab hac hbc
end
end Go.Proofs.Ytbjncemaeagjjaa.M
namespace Go.Proofs.Ytbjncemaeagjjaa.M
open Go.RowKit Go.Proofs.YtbjncemaeagjjaaW.PrintWords Go.Proofs.Ytbjncemaeagjjaa.PX Go.Proofs.Ytbjncemaeagjjaa.G Go.Proofs.YtbjncemaeagjjaaW.PrintMore
theorem spec_max (a b : Int) : spec_l1Max.f a b = some (mx a b) := by
  unfold spec_l1Max.f mx
  split <;> simp <;> omega
section
variable {n : Nat} {t : ByteArray} (h : areOk n t = true) {a b c d : Nat} (ha : a < n) (hb : b < n) (hc : c < n) (hd : d < n) (hx : dist4 a b c d = true)
include h ha hb hc hd hx
theorem impl_inner : Ev (fun k => impl_chi_inner.f k (tblL n t) (a : Int) (b : Int) (c : Int) (d : Int)) (innerV n t a b c d) := by
  obtain ⟨⟨h0, h1⟩, _, _⟩ := (areOk_iff _ _).1 h
  obtain ⟨l1, l2⟩ := splitV_lt t (a := a) (b := b) (c := c) (d := d) (n := n) (by omega) (by omega) (by omega) (by omega) hx
  unfold impl_chi_inner.f
  exact Ev.bind (impl_split h ha hb hc hd hx) (Ev.bind (single_ev l1) (Ev.bind (single_ev l2) (Ev.now _)))
theorem spec_inner : Ev (fun k => spec_l5Inner.f k (n : Int) t [(a : Int), (b : Int), (c : Int), (d : Int)]) (innerV n t a b c d) := by
  obtain ⟨⟨h0, h1⟩, _, _⟩ := (areOk_iff _ _).1 h
  obtain ⟨l1, l2⟩ := splitV_lt t (a := a) (b := b) (c := c) (d := d) (n := n) (by omega) (by omega) (by omega) (by omega) hx
  unfold spec_l5Inner.f
  exact Ev.bind (spec_split h ha hb hc hd hx) (Ev.bind (only_ev l1) (Ev.bind (only_ev l2) (ev_call (spec_max _ _) (Ev.now _))))
theorem impl_inside : Ev (fun k => impl_chi_isInside.f k (tblL n t) (a : Int) (b : Int) (c : Int) (d : Int)) (innerV n t a b c d == (a : Int)) := by
  unfold impl_chi_isInside.f
  exact Ev.bind (impl_inner h ha hb hc hd hx) (Ev.now _)
end
/-- Four numbers as different elements. -/
theorem four_nat {n : Nat} {a b c d : Int} (h : areD n [a, b, c, d] = true) : ∃ A B C D : Nat, a = (A : Int) ∧ b = (B : Int) ∧ c = (C : Int) ∧ d = (D : Int) ∧ A < n ∧ B < n ∧ C < n ∧ D < n ∧ dist4 A B C D = true := by
  obtain ⟨⟨ha, hb, hc, hd⟩, e1, e2, e3, e4, e5, e6⟩ := (areD_4 _ _ _ _ _).1 h
  refine ⟨a.toNat, b.toNat, c.toNat, d.toNat, by omega, by omega, by omega, by omega, by omega, by omega, by omega, by omega, ?_⟩
  rw [dist4_iff]
  omega
end Go.Proofs.Ytbjncemaeagjjaa.M
namespace Go.Proofs.Ytbjncemaeagjjaa.M
open Go.RowKit Go.Proofs.YtbjncemaeagjjaaW.PrintWords Go.Proofs.Ytbjncemaeagjjaa.PX Go.Proofs.Ytbjncemaeagjjaa.G Go.Proofs.YtbjncemaeagjjaaW.PrintMore
/-- Is p inside a triangle of a set's elements? -/
def inB (n : Nat) (t : ByteArray) (s p : Nat) : Bool := (tripsL n).any fun q => insB n t p q.1 q.2.1 q.2.2 && s.testBit q.1 && s.testBit q.2.1 && s.testBit q.2.2
theorem has_ev {s k : Nat} (hs : s < 128) (hk : k ≤ 7) : spec_l6Has.f (s : Int) (k : Int) = some (s.testBit k) := by
  unfold spec_l6Has.f
  rw [u64_id hk, if_pos (by omega)]
  have e := bitQ_eq hs hk
  unfold bitQ at e
  rw [e]
  cases s.testBit k <;> rfl
section
variable {n : Nat} {t : ByteArray} (h : areOk n t = true)
include h
theorem spec_in6 {s p : Nat} (hs : s < 128) (hp : p < n) : Ev (fun k => spec_l6In.f k (n : Int) t (s : Int) (p : Int)) (inB n t s p) := by
  obtain ⟨⟨h0, h1⟩, _, _⟩ := (areOk_iff _ _).1 h
  have h0 : 3 ≤ n := by omega
  have h1 : n ≤ 7 := by omega
  unfold spec_l6In.f
  have key := loops3 (σ := Unit) (ρ := Bool) (n := n) (K := fun _ _ => some false) (L0 := fun a _ k => spec_l6In.l0 k (s : Int) (p : Int) a (n : Int) t) (L1 := fun a b _ k => spec_l6In.l1 k (s : Int) (p : Int) a b (n : Int) t) (L2 := fun a b c _ k => spec_l6In.l2 k (s : Int) (p : Int) a b c (n : Int) t)
    (fun _ q => if insB n t p q.1 q.2.1 q.2.2 && s.testBit q.1 && s.testBit q.2.1 && s.testBit q.2.2 then .error true else .ok ()) (fun u => ?_) (fun a ha u => ?_) (fun a ha u => ?_) (fun a b hab hb u => ?_) (fun a b hab hb u => ?_) (fun a b c hab hbc hc u => ?_) ()
  · rw [foldlM_any (fun q : Nat × Nat × Nat => insB n t p q.1 q.2.1 q.2.2 && s.testBit q.1 && s.testBit q.2.1 && s.testBit q.2.2)] at key
    unfold inB
    cases hq : (tripsL n).any fun q => insB n t p q.1 q.2.1 q.2.2 && s.testBit q.1 && s.testBit q.2.1 && s.testBit q.2.2 with
    | true => rw [hq] at key; exact key
    | false => rw [hq] at key; exact key _ (Ev.now _)
  · refine Goes.step ?_
    simp only [spec_l6In.l0]
    exact Goes.neg (by omega) (Goes.ok (K := fun _ _ => some false) u)
  · refine Goes.step ?_
    simp only [spec_l6In.l0]
    refine Goes.pos (by omega) ?_
    rw [wrap_id (by omega) (by omega)]
    exact Goes.ok (K := fun _ k => spec_l6In.l1 k (s : Int) (p : Int) (a : Int) ((a + 1 : Nat) : Int) (n : Int) t) u
  · refine Goes.step ?_
    simp only [spec_l6In.l1]
    refine Goes.neg (by omega) ?_
    rw [wrap_id (by omega) (by omega)]
    exact Goes.ok (K := fun _ k => spec_l6In.l0 k (s : Int) (p : Int) ((a + 1 : Nat) : Int) (n : Int) t) u
  · refine Goes.step ?_
    simp only [spec_l6In.l1]
    refine Goes.pos (by omega) ?_
    rw [wrap_id (by omega) (by omega)]
    exact Goes.ok (K := fun _ k => spec_l6In.l2 k (s : Int) (p : Int) (a : Int) (b : Int) ((b + 1 : Nat) : Int) (n : Int) t) u
  · refine Goes.step ?_
    simp only [spec_l6In.l2]
    refine Goes.neg (by omega) ?_
    rw [wrap_id (by omega) (by omega)]
    exact Goes.ok (K := fun _ k => spec_l6In.l1 k (s : Int) (p : Int) (a : Int) ((b + 1 : Nat) : Int) (n : Int) t) u
  · refine Goes.step ?_
    simp only [spec_l6In.l2]
    refine Goes.pos (by omega) ?_
    rw [wrap_id (by omega) (by omega)]
    have on : Goes (ρ := Bool) (.ok ()) (fun (_ : Unit) k => spec_l6In.l2 k (s : Int) (p : Int) (a : Int) (b : Int) ((c + 1 : Nat) : Int) (n : Int) t) (fun k => spec_l6In.l2 k (s : Int) (p : Int) (a : Int) (b : Int) ((c : Int) + 1) (n : Int) t) := Goes.ok (K := fun (_ : Unit) k => spec_l6In.l2 k (s : Int) (p : Int) (a : Int) (b : Int) ((c + 1 : Nat) : Int) (n : Int) t) ()
    by_cases e1 : p = a
    · rw [show insB n t p a b c = false by simp [insB, e1]]
      exact Goes.pos (by omega) on
    refine Goes.neg (by omega) ?_
    by_cases e2 : p = b
    · rw [show insB n t p a b c = false by simp [insB, e2]]
      exact Goes.pos (by omega) on
    refine Goes.neg (by omega) ?_
    by_cases e3 : p = c
    · rw [show insB n t p a b c = false by simp [insB, e3]]
      exact Goes.pos (by omega) on
    refine Goes.neg (by omega) (Goes.call (has_ev hs (by omega)) ?_)
    rw [insB_dist e1 e2 e3]
    cases s.testBit a with
    | false => rw [Bool.and_false, Bool.false_and, Bool.false_and]; exact Goes.neg (by decide) on
    | true =>
      refine Goes.pos (by trivial) (Goes.call (has_ev hs (by omega)) ?_)
      cases s.testBit b with
      | false => rw [Bool.and_false, Bool.false_and]; exact Goes.neg (by decide) on
      | true =>
        refine Goes.pos (by trivial) (Goes.call (has_ev hs (by omega)) ?_)
        cases s.testBit c with
        | false => rw [Bool.and_false]; exact Goes.neg (by decide) on
        | true =>
          refine Goes.pos (by trivial) (Goes.ev (spec_inner h hp (by omega) (by omega) hc (dist4_iff.2 (by omega))) ?_)
          by_cases g : innerV n t p a b c = (p : Int)
          · rw [beq_iff_eq.2 g]
            exact Goes.pos g (Goes.ret _)
          · rw [beq_eq_false_iff_ne.2 g]
            exact Goes.neg g on
theorem impl_inHull {s p : Nat} (hs : s < 128) (hp : p < n) (hsp : s.testBit p = false) : Ev (fun k => impl_chi_inHull.f k (tblL n t) (s : Int) (p : Int)) (inB n t s p) := by
  obtain ⟨⟨h0, h1⟩, _, _⟩ := (areOk_iff _ _).1 h
  have h0 : 3 ≤ n := by omega
  have h1 : n ≤ 7 := by omega
  unfold impl_chi_inHull.f
  rw [tbl_n]
  refine Ev.bind (triples_ev h0 h1) ?_
  rw [tripN_S h0 h1]
  have hl : ((tripsL n).map toS3).length = (tripsL n).length := List.length_map ..
  have h35 := quads_len h0 h1
  have key := loop_up (σ := Unit) (ρ := Bool) (lo := 0) (n := (tripsL n).length) (K := fun _ _ => some false) (L := fun i _ k => impl_chi_inHull.l0 k (tblL n t) (s : Int) (p : Int) ((tripsL n).map toS3) (((tripsL n).map toS3).length : Int) i)
    (fun _ i => if insB n t p ((tripsL n).getD i (0, 0, 0)).1 ((tripsL n).getD i (0, 0, 0)).2.1 ((tripsL n).getD i (0, 0, 0)).2.2 && s.testBit ((tripsL n).getD i (0, 0, 0)).1 && s.testBit ((tripsL n).getD i (0, 0, 0)).2.1 && s.testBit ((tripsL n).getD i (0, 0, 0)).2.2 then .error true else .ok ())
    (fun u => ?_) (fun i _ hi u => ?_) (by omega) ()
  · rw [foldlM_index (0, 0, 0) (fun (_ : Unit) (q : Nat × Nat × Nat) => if insB n t p q.1 q.2.1 q.2.2 && s.testBit q.1 && s.testBit q.2.1 && s.testBit q.2.2 then (.error true : Except Bool Unit) else .ok ()),
      foldlM_any (fun q : Nat × Nat × Nat => insB n t p q.1 q.2.1 q.2.2 && s.testBit q.1 && s.testBit q.2.1 && s.testBit q.2.2)] at key
    unfold inB
    cases hq : (tripsL n).any fun q => insB n t p q.1 q.2.1 q.2.2 && s.testBit q.1 && s.testBit q.2.1 && s.testBit q.2.2 with
    | true => rw [hq] at key; exact key
    | false => rw [hq] at key; exact key _ (Ev.now _)
  · refine Goes.step ?_
    simp only [impl_chi_inHull.l0]
    exact Goes.neg (by omega) (Goes.ok (K := fun _ _ => some false) u)
  · have hg : (tripsL n).getD i (0, 0, 0) = (tripsL n)[i] := by rw [List.getD_eq_getElem?_getD, List.getElem?_eq_getElem hi]; rfl
    have hm := List.getElem_mem hi
    rw [hg]
    refine Goes.step ?_
    simp only [impl_chi_inHull.l0, rd_toS3 hi]
    generalize (tripsL n)[i] = q at *
    obtain ⟨a, b, c⟩ := q
    obtain ⟨hab, hbc, hc⟩ := mem_trips hm
    simp only [toS3]
    refine Goes.pos (by omega) (Goes.pos (by omega) (Goes.pos (by omega) (Goes.pos (by omega) (Goes.pos (by omega) (Goes.pos (by omega) ?_)))))
    rw [wrap_id (x := (i : Int) + 1) (by omega) (by omega)]
    have on : Goes (ρ := Bool) (.ok ()) (fun (_ : Unit) k => impl_chi_inHull.l0 k (tblL n t) (s : Int) (p : Int) ((tripsL n).map toS3) (((tripsL n).map toS3).length : Int) ((i + 1 : Nat) : Int)) (fun k => impl_chi_inHull.l0 k (tblL n t) (s : Int) (p : Int) ((tripsL n).map toS3) (((tripsL n).map toS3).length : Int) ((i : Int) + 1)) :=
      Goes.ok (K := fun (_ : Unit) k => impl_chi_inHull.l0 k (tblL n t) (s : Int) (p : Int) ((tripsL n).map toS3) (((tripsL n).map toS3).length : Int) ((i + 1 : Nat) : Int)) ()
    have hmask := (set_facts hs).2.1 a b c hab hbc (by omega)
    by_cases g : Go.bits .and .i64 (s : Int) (mask3 a b c) = mask3 a b c
    · obtain ⟨g1, g2, g3⟩ := hmask.1 g
      have e1 : p ≠ a := fun e => by rw [e, g1] at hsp; cases hsp
      have e2 : p ≠ b := fun e => by rw [e, g2] at hsp; cases hsp
      have e3 : p ≠ c := fun e => by rw [e, g3] at hsp; cases hsp
      rw [g1, g2, g3, insB_dist e1 e2 e3, Bool.and_true, Bool.and_true, Bool.and_true]
      refine Goes.pos g (Goes.ev (impl_inside h hp (by omega) (by omega) hc (dist4_iff.2 (by omega))) ?_)
      cases innerV n t p a b c == (p : Int) with
      | true => exact Goes.pos (by trivial) (Goes.ret _)
      | false => exact Goes.neg (by decide) on
    · have e : (insB n t p a b c && s.testBit a && s.testBit b && s.testBit c) = false := by
        rw [Bool.eq_false_iff]
        simp only [ne_eq, Bool.and_eq_true]
        exact fun e => g (hmask.2 ⟨e.1.1.2, e.1.2, e.2⟩)
      rw [e]
      exact Goes.neg g on
end
end Go.Proofs.Ytbjncemaeagjjaa.M
namespace Go.Proofs.Ytbjncemaeagjjaa.PX
open Go.RowKit Go.Proofs.Ytbjncemaeagjjaa.G Go.Proofs.YtbjncemaeagjjaaW.PrintWords Go.Proofs.YtbjncemaeagjjaaW.PrintLast Go.Proofs.YtbjncemaeagjjaaW.PrintMore
attribute [local go_sem] max2_int min2_int max_two min_two max_three min_three max_four min_four   -- for this text's walks alone
set_option linter.unusedVariables false
set_option linter.unusedSimpArgs false
/-! ### spec_l6Extreme: function 46 -/
def spec_l6Extreme.l0 : Nat → Int → Int → Int → Int → ByteArray → Option (Int)
 | 0, _, _, _, _, _ => none
 | k + 1, x1, x5, x6, x467000, x467001 => if x6 < x467000 then ((spec_l6Has.f x1 x6).bind fun t467 => (if t467 = true then ((spec_l6In.f k x467000 x467001 x1 x6).bind fun t468 => (if t468 = true then (spec_l6Extreme.l0 k x1 x5 (wrap64 (x6 + 1)) x467000 x467001) else (if 0 ≤ (IntKind.u64.wrap (x6)) then (spec_l6Extreme.l0 k x1 (wrap64 (x5 + (shl .i64 1 (IntKind.u64.wrap (x6))))) (wrap64 (x6 + 1)) x467000 x467001) else (none)))) else (spec_l6Extreme.l0 k x1 x5 (wrap64 (x6 + 1)) x467000 x467001))) else (some x5)
def spec_l6Extreme.f (k : Nat) (a0_0 : Int) (a0_1 : ByteArray) (a1 : Int) : Option (Int) := spec_l6Extreme.l0 k a1 0 0 a0_0 a0_1
theorem spec_l6Extreme.mono_l : ∀ k, (∀ y0 y1 y2 y3 y4, LeO (spec_l6Extreme.l0 k y0 y1 y2 y3 y4) (spec_l6Extreme.l0 (k + 1) y0 y1 y2 y3 y4))
 | 0 => fun _ _ _ _ _ r h => by simp [spec_l6Extreme.l0] at h
 | k + 1 => by
  have ih0 := spec_l6Extreme.mono_l k
  ·intro y0 y1 y2 y3 y4
   unfold spec_l6Extreme.l0
   repeat' first
   | (with_reducible exact ih0 _ _ _ _ _)
   | (with_reducible exact spec_l6In.mono _ _ _ _ _)
   | (with_reducible exact LeO.refl _)
   | (with_reducible exact LeO.none _)
   | (with_reducible refine LeO.ite ?_ ?_)
   | (with_reducible refine LeO.bind ?_ (fun _ => ?_))
   | exact ih0 _ _ _ _ _
   | exact spec_l6In.mono _ _ _ _ _
   | exact LeO.none _
   | refine LeO.ite ?_ ?_
   | refine LeO.bind ?_ (fun _ => ?_)
theorem spec_l6Extreme.mono : ∀ a0 a1 a2 k, LeO (spec_l6Extreme.f k a0 a1 a2) (spec_l6Extreme.f (k + 1) a0 a1 a2) := by
 intro a0 a1 a2 k
 have ih0 := spec_l6Extreme.mono_l k
 unfold spec_l6Extreme.f
 repeat' first
   | (with_reducible exact ih0 _ _ _ _ _)
   | (with_reducible exact spec_l6In.mono _ _ _ _ _)
   | (with_reducible exact LeO.refl _)
   | (with_reducible exact LeO.none _)
   | (with_reducible refine LeO.ite ?_ ?_)
   | (with_reducible refine LeO.bind ?_ (fun _ => ?_))
   | exact ih0 _ _ _ _ _
   | exact spec_l6In.mono _ _ _ _ _
   | exact LeO.none _
   | refine LeO.ite ?_ ?_
   | refine LeO.bind ?_ (fun _ => ?_)
set_option maxHeartbeats 8000000 in
set_option maxRecDepth 100000 in
theorem spec_l6Extreme.calls (k : Nat) (a0_0 : Int) (a0_1 : ByteArray) (a1 : Int) (r : Int) (w : World) (h : spec_l6Extreme.f k a0_0 a0_1 a1 = some r) :
  Calls Try.prog 46 #[.agg #[.int .i64 a0_0, .string a0_1], .int .i64 a1] w fun e w' => e = .returned (.int .i64 r) ∧ Below w.heap.size w w' := by
 have hu26 := Try.underlying26
 have HB := Aside0.mk (Below.refl w.heap.size w)
 have H : (spec_l6Extreme.l0 k a1 0 0 a0_0 a0_1) = some r := h
 clear h
 have H' := Aside0.mk H
 clear H
 go_enter Try.func46, Try.ntmps46
 go_wp2_with (first | ((with_reducible refine gate_dst (N := 2) rfl ?_); refine box_event ?hg (N := 2) ?hd (cs := #[.int .i64 a0_0, .string a0_1]) (t := 26) ?hr ?_; (case hd => rfl); (case hg => rfl); (case hr => first | (go_simp; done) | (go_simp; rfl)); intro gb466 hg w3 hbox hb; have BK466 := Aside0.mk (hbox); have GW466 := Aside0.mk ((by rw [hg]; exact (below_size zB) : w.heap.size ≤ gb466)); have GE466 := Aside0.mk ((by rw [hg]; exact (below_size zB) : w.heap.size ≤ gb466)); replace HB := Aside0.mk (below_step zB hb); clear hb hbox hg))
 go_loopg [5, 6] k (fun kq v5 v6 w' => ∃ (x5_1 : Int) (x6_1 : Int), v5 = .int .i64 x5_1 ∧ v6 = .int .i64 x6_1 ∧ Aside0 (spec_l6Extreme.l0 kq a1 x5_1 x6_1 a0_0 a0_1 = some r) ∧ Aside0 (kq ≤ k) ∧ Aside0 (w'.heap[gb466]? = some (.cells #[.int .i64 a0_0, .string a0_1] 26 (0, 0))) ∧ Aside0 (Below w.heap.size w w'))
 case atStart => exact ⟨(0), (0), zF, zF, H', ⟨Nat.le_refl _⟩, ⟨zK BK466.out⟩, ⟨zG GE466.out⟩⟩
 case round =>
  clear H'
  try clear p2
  obtain ⟨x5_1, x6_1, rfl, rfl, HA, HK1, BK466, HB⟩ := hrel
  cases gk with
  | zero => exact absurd HA.out (by simp [spec_l6Extreme.l0])
  | succ k1 =>
   have H := HA.out
   clear HA
   simp only [spec_l6Extreme.l0] at H
   by_cases c4 : x6_1 < a0_0
   ·rw [if_pos c4] at H
    have c4b0 : decide (x6_1 < a0_0) = true := decide_eq_true c4
    clear c4
    replace H := Option.bind_eq_some_iff.mp H
    obtain ⟨t467, A50, H⟩ := H
    replace H : (if t467 = true then ((spec_l6In.f k1 a0_0 a0_1 a1 x6_1).bind fun t468 => (if t468 = true then (spec_l6Extreme.l0 k1 a1 x5_1 (wrap64 (x6_1 + 1)) a0_0 a0_1) else (if 0 ≤ (IntKind.u64.wrap (x6_1)) then (spec_l6Extreme.l0 k1 a1 (wrap64 (x5_1 + (shl .i64 1 (IntKind.u64.wrap (x6_1))))) (wrap64 (x6_1 + 1)) a0_0 a0_1) else (none)))) else (spec_l6Extreme.l0 k1 a1 x5_1 (wrap64 (x6_1 + 1)) a0_0 a0_1)) = some r := H
    have A5 := Aside0.mk A50
    clear A50
    by_cases c6 : t467 = true
    ·subst c6
     have H1 : ((spec_l6In.f k1 a0_0 a0_1 a1 x6_1).bind fun t468 => (if t468 = true then (spec_l6Extreme.l0 k1 a1 x5_1 (wrap64 (x6_1 + 1)) a0_0 a0_1) else (if 0 ≤ (IntKind.u64.wrap (x6_1)) then (spec_l6Extreme.l0 k1 a1 (wrap64 (x5_1 + (shl .i64 1 (IntKind.u64.wrap (x6_1))))) (wrap64 (x6_1 + 1)) a0_0 a0_1) else (none)))) = some r := by rw [if_pos rfl] at H; exact H
     clear H
     have H := H1
     clear H1
     replace H := Option.bind_eq_some_iff.mp H
     obtain ⟨t468, A70, H⟩ := H
     replace H : (if t468 = true then (spec_l6Extreme.l0 k1 a1 x5_1 (wrap64 (x6_1 + 1)) a0_0 a0_1) else (if 0 ≤ (IntKind.u64.wrap (x6_1)) then (spec_l6Extreme.l0 k1 a1 (wrap64 (x5_1 + (shl .i64 1 (IntKind.u64.wrap (x6_1))))) (wrap64 (x6_1 + 1)) a0_0 a0_1) else (none))) = some r := H
     have A7 := Aside0.mk A70
     clear A70
     by_cases c8 : t468 = true
     ·subst c8
      have H1 : (spec_l6Extreme.l0 k1 a1 x5_1 (wrap64 (x6_1 + 1)) a0_0 a0_1) = some r := by rw [if_pos rfl] at H; exact H
      clear H
      have H := H1
      clear H1
      have H' := Aside0.mk H
      clear H
      have hcz9_0 : wr.cell? ⟨gb466, 0, none⟩ = some (.int .i64 a0_0) := (blk_cell BK466.out 0).trans rfl
      have hcz9_1 : wr.cell? ⟨gb466, 1, none⟩ = some (.string a0_1) := (blk_cell BK466.out 1).trans rfl
      have hfz9_0 := blk_frozen BK466.out 0
      have hfz9_1 := blk_frozen BK466.out 1
      go_wp2_with (first | ((with_reducible refine gate_callee (f := 51) rfl ?_); refine goesL_ (some 15) rfl rfl Try.func51 (by kernel_rfl) rfl #[.int .i64 a1, .int .i64 x6_1] rfl zM ?_; (with_reducible refine (spec_l6Has.calls a1 x6_1 true _ A5.out).mono ?_); rintro e w' ⟨rfl, ⟨nd, rfl⟩⟩; refine ⟨_, rfl, ?_⟩) | (go_at_call 69; (with_reducible refine (spec_l6In.calls k1 a0_0 a0_1 a1 x6_1 true _ A7.out).mono ?_); rintro e w10 ⟨rfl, hb⟩; replace BK466 := Aside0.mk (blk_below (g := gb466) (o := .cells #[.int .i64 a0_0, .string a0_1] 26 (0, 0)) (zK BK466.out) hb); replace HB := Aside0.mk (below_step (zG GE466.out) hb); (try clear hb); (try clear hb2); (try clear hk); (try clear hi)))
      go_roundg k1
      case measure => have := HK1.out; omega
      case rel => exact ⟨(x5_1), (wrap64 (x6_1 + 1)), zF, zF, H', ⟨by have := HK1.out; omega⟩, ⟨zK BK466.out⟩, ⟨zG GE466.out⟩⟩
     ·replace c8 := Bool.eq_false_iff.mpr c8
      subst c8
      have H1 : (if 0 ≤ (IntKind.u64.wrap (x6_1)) then (spec_l6Extreme.l0 k1 a1 (wrap64 (x5_1 + (shl .i64 1 (IntKind.u64.wrap (x6_1))))) (wrap64 (x6_1 + 1)) a0_0 a0_1) else (none)) = some r := by rw [if_neg (show ¬ (false = true) by decide)] at H; exact H
      clear H
      have H := H1
      clear H1
      obtain ⟨ji11, hji11⟩ : ∃ j_ : Int, (IntKind.u64.wrap (x6_1)) = j_ := ⟨_, rfl⟩
      replace H : (if 0 ≤ (ji11) then (spec_l6Extreme.l0 k1 a1 (wrap64 (x5_1 + (shl .i64 1 (ji11)))) (wrap64 (x6_1 + 1)) a0_0 a0_1) else (none)) = some r := by first | (rw [hji11] at H; exact H) | (simp only [hji11] at H ⊢; exact H)
      (try rw [hji11] at A5)
      (try rw [hji11] at A7)
      by_cases c12 : 0 ≤ (ji11)
      ·rw [if_pos c12] at H
       have c12b0 := eq_true c12
       have c12b1 : decide (0 ≤ (ji11)) = true := decide_eq_true c12
       clear c12
       obtain ⟨ji13, hji13⟩ : ∃ j_ : Int, (shl .i64 1 (ji11)) = j_ := ⟨_, rfl⟩
       replace H : (spec_l6Extreme.l0 k1 a1 (wrap64 (x5_1 + (ji13))) (wrap64 (x6_1 + 1)) a0_0 a0_1) = some r := by first | (rw [hji13] at H; exact H) | (simp only [hji13] at H ⊢; exact H)
       (try rw [hji13] at A5)
       (try rw [hji13] at A7)
       have hji13_ : (IntKind.i64.wrap (1 * 2 ^ min (ji11).toNat 64)) = ji13 := hji13
       have hji13z : (ji11) ≤ 64 → (IntKind.i64.wrap (1 * 2 ^ (ji11).toNat)) = ji13 := shl_small hji13
       have hji13u : (IntKind.i64.wrap (2 ^ min (ji11).toNat 64)) = ji13 := by have h_ := hji13_; rw [Int.one_mul] at h_; exact h_
       have hji13v : (ji11) ≤ 64 → (IntKind.i64.wrap (2 ^ (ji11).toNat)) = ji13 := fun hle_ => by have h_ := hji13z hle_; rw [Int.one_mul] at h_; exact h_
       have hji13y : (wrap64 (1 * 2 ^ min (ji11).toNat 64)) = ji13 := (i64_w _).symm.trans hji13_
       have hji13x : (ji11) ≤ 64 → (wrap64 (1 * 2 ^ (ji11).toNat)) = ji13 := fun h_ => (i64_w _).symm.trans (hji13z h_)
       have H' := Aside0.mk H
       clear H
       have hcz14_0 : wr.cell? ⟨gb466, 0, none⟩ = some (.int .i64 a0_0) := (blk_cell BK466.out 0).trans rfl
       have hcz14_1 : wr.cell? ⟨gb466, 1, none⟩ = some (.string a0_1) := (blk_cell BK466.out 1).trans rfl
       have hfz14_0 := blk_frozen BK466.out 0
       have hfz14_1 := blk_frozen BK466.out 1
       go_wp2_with (first | ((with_reducible refine gate_callee (f := 51) rfl ?_); refine goesL_ (some 15) rfl rfl Try.func51 (by kernel_rfl) rfl #[.int .i64 a1, .int .i64 x6_1] rfl zM ?_; (with_reducible refine (spec_l6Has.calls a1 x6_1 true _ A5.out).mono ?_); rintro e w' ⟨rfl, ⟨nd, rfl⟩⟩; refine ⟨_, rfl, ?_⟩) | (go_at_call 69; (with_reducible refine (spec_l6In.calls k1 a0_0 a0_1 a1 x6_1 false _ A7.out).mono ?_); rintro e w15 ⟨rfl, hb⟩; replace BK466 := Aside0.mk (blk_below (g := gb466) (o := .cells #[.int .i64 a0_0, .string a0_1] 26 (0, 0)) (zK BK466.out) hb); replace HB := Aside0.mk (below_step (zG GE466.out) hb); (try clear hb); (try clear hb2); (try clear hk); (try clear hi)))
       go_roundg k1
       case measure => have := HK1.out; omega
       case rel => exact ⟨(wrap64 (x5_1 + (ji13))), (wrap64 (x6_1 + 1)), (by first | rfl | (simp; done) | (simp only [← hji13] <;> (first | rfl | simp)) | (simp [*]; done)), zF, H', ⟨by have := HK1.out; omega⟩, ⟨zK BK466.out⟩, ⟨zG GE466.out⟩⟩
      ·rw [if_neg c12] at H
       exact absurd H (by simp)
    ·replace c6 := Bool.eq_false_iff.mpr c6
     subst c6
     have H1 : (spec_l6Extreme.l0 k1 a1 x5_1 (wrap64 (x6_1 + 1)) a0_0 a0_1) = some r := by rw [if_neg (show ¬ (false = true) by decide)] at H; exact H
     clear H
     have H := H1
     clear H1
     have H' := Aside0.mk H
     clear H
     have hcz16_0 : wr.cell? ⟨gb466, 0, none⟩ = some (.int .i64 a0_0) := (blk_cell BK466.out 0).trans rfl
     have hcz16_1 : wr.cell? ⟨gb466, 1, none⟩ = some (.string a0_1) := (blk_cell BK466.out 1).trans rfl
     have hfz16_0 := blk_frozen BK466.out 0
     have hfz16_1 := blk_frozen BK466.out 1
     go_wp2_with (first | ((with_reducible refine gate_callee (f := 51) rfl ?_); refine goesL_ (some 15) rfl rfl Try.func51 (by kernel_rfl) rfl #[.int .i64 a1, .int .i64 x6_1] rfl zM ?_; (with_reducible refine (spec_l6Has.calls a1 x6_1 false _ A5.out).mono ?_); rintro e w' ⟨rfl, ⟨nd, rfl⟩⟩; refine ⟨_, rfl, ?_⟩))
     go_roundg k1
     case measure => have := HK1.out; omega
     case rel => exact ⟨(x5_1), (wrap64 (x6_1 + 1)), zF, zF, H', ⟨by have := HK1.out; omega⟩, ⟨zK BK466.out⟩, ⟨zG GE466.out⟩⟩
   ·rw [if_neg c4] at H
    have c4b0 : decide (x6_1 < a0_0) = false := decide_eq_false c4
    clear c4
    obtain rfl := Option.some.inj H
    have hcz17_0 : wr.cell? ⟨gb466, 0, none⟩ = some (.int .i64 a0_0) := (blk_cell BK466.out 0).trans rfl
    have hcz17_1 : wr.cell? ⟨gb466, 1, none⟩ = some (.string a0_1) := (blk_cell BK466.out 1).trans rfl
    have hfz17_0 := blk_frozen BK466.out 0
    have hfz17_1 := blk_frozen BK466.out 1
    go_wp2
    go_ret
    exact ⟨zE, zG GE466.out⟩
/-! ### impl_chi_extremeIn: function 49 -/
def impl_chi_extremeIn.l0 : Nat → List Int → Int → Int → Int → Option (Int)
 | 0, _, _, _, _ => none
 | k + 1, x0, x1, x5, x6 => if x6 < (rd x0 0) then (if 0 ≤ x6 then (if (Go.bits .and .i64 (shr .i64 x1 x6) 1) = 1 then ((impl_chi_inHull.f k x0 (Go.bits .andNot .i64 x1 (shl .i64 1 x6)) x6).bind fun t506 => (if t506 = true then (impl_chi_extremeIn.l0 k x0 x1 x5 (wrap64 (x6 + 1))) else (impl_chi_extremeIn.l0 k x0 x1 (Go.bits .or .i64 x5 (shl .i64 1 x6)) (wrap64 (x6 + 1))))) else (impl_chi_extremeIn.l0 k x0 x1 x5 (wrap64 (x6 + 1)))) else (none)) else (some x5)
def impl_chi_extremeIn.f (k : Nat) (l0 : List Int) (a1 : Int) : Option (Int) := impl_chi_extremeIn.l0 k l0 a1 0 0
theorem impl_chi_extremeIn.mono_l : ∀ k, (∀ y0 y1 y2 y3, LeO (impl_chi_extremeIn.l0 k y0 y1 y2 y3) (impl_chi_extremeIn.l0 (k + 1) y0 y1 y2 y3))
 | 0 => fun _ _ _ _ r h => by simp [impl_chi_extremeIn.l0] at h
 | k + 1 => by
  have ih0 := impl_chi_extremeIn.mono_l k
  ·intro y0 y1 y2 y3
   unfold impl_chi_extremeIn.l0
   repeat' first
   | (with_reducible exact ih0 _ _ _ _)
   | (with_reducible exact impl_chi_inHull.mono _ _ _ _)
   | (with_reducible exact LeO.refl _)
   | (with_reducible exact LeO.none _)
   | (with_reducible refine LeO.ite ?_ ?_)
   | (with_reducible refine LeO.bind ?_ (fun _ => ?_))
   | exact ih0 _ _ _ _
   | exact impl_chi_inHull.mono _ _ _ _
   | exact LeO.none _
   | refine LeO.ite ?_ ?_
   | refine LeO.bind ?_ (fun _ => ?_)
theorem impl_chi_extremeIn.mono : ∀ a0 a1 k, LeO (impl_chi_extremeIn.f k a0 a1) (impl_chi_extremeIn.f (k + 1) a0 a1) := by
 intro a0 a1 k
 have ih0 := impl_chi_extremeIn.mono_l k
 unfold impl_chi_extremeIn.f
 repeat' first
   | (with_reducible exact ih0 _ _ _ _)
   | (with_reducible exact impl_chi_inHull.mono _ _ _ _)
   | (with_reducible exact LeO.refl _)
   | (with_reducible exact LeO.none _)
   | (with_reducible refine LeO.ite ?_ ?_)
   | (with_reducible refine LeO.bind ?_ (fun _ => ?_))
   | exact ih0 _ _ _ _
   | exact impl_chi_inHull.mono _ _ _ _
   | exact LeO.none _
   | refine LeO.ite ?_ ?_
   | refine LeO.bind ?_ (fun _ => ?_)
set_option maxHeartbeats 8000000 in
set_option maxRecDepth 100000 in
theorem impl_chi_extremeIn.calls (k : Nat) (g0 : Nat) (l0 : List Int) (a1 : Int) (r : Int) (w : World) (hr0 : Kd.C (Kd.int .i64) w (some ⟨g0, 0, none⟩) l0.length l0) (hc0 : l0.length = 344) (h : impl_chi_extremeIn.f k l0 a1 = some r) :
  Calls Try.prog 49 #[.pointer (some ⟨g0, 0, none⟩), .int .i64 a1] w fun e w' => e = .returned (.int .i64 r) ∧ Below w.heap.size w w' := by
 have hu68 := Try.underlying68
 have HR0 := Aside0.mk hr0
 have HC0 := Aside0.mk hc0
 clear hr0 hc0
 have HB := Aside0.mk (Below.refl w.heap.size w)
 have H : (impl_chi_extremeIn.l0 k l0 a1 0 0) = some r := h
 clear h
 have H' := Aside0.mk H
 clear H
 go_enter Try.func49, Try.ntmps49
 go_wp2
 go_loopg [5, 6] k (fun kq v5 v6 w' => ∃ (x5_1 : Int) (x6_1 : Int), v5 = .int .i64 x5_1 ∧ v6 = .int .i64 x6_1 ∧ Aside0 (impl_chi_extremeIn.l0 kq l0 a1 x5_1 x6_1 = some r) ∧ Aside0 (kq ≤ k) ∧ Aside0 (Below w.heap.size w w'))
 case atStart => exact ⟨(0), (0), zF, zF, H', ⟨Nat.le_refl _⟩, ⟨zB⟩⟩
 case round =>
  clear H'
  try clear p2
  obtain ⟨x5_1, x6_1, rfl, rfl, HA, HK1, HB⟩ := hrel
  cases gk with
  | zero => exact absurd HA.out (by simp [impl_chi_extremeIn.l0])
  | succ k1 =>
   have H := HA.out
   clear HA
   simp only [impl_chi_extremeIn.l0] at H
   by_cases c3 : x6_1 < (rd l0 0)
   ·rw [if_pos c3] at H
    have c3b0 : decide (x6_1 < (rd l0 0)) = true := decide_eq_true c3
    clear c3
    by_cases c4 : 0 ≤ x6_1
    ·rw [if_pos c4] at H
     have c4b0 := eq_true c4
     have c4b1 : decide (0 ≤ x6_1) = true := decide_eq_true c4
     clear c4
     obtain ⟨ji5, hji5⟩ : ∃ j_ : Int, (shr .i64 a1 x6_1) = j_ := ⟨_, rfl⟩
     replace H : (if (Go.bits .and .i64 (ji5) 1) = 1 then ((impl_chi_inHull.f k1 l0 (Go.bits .andNot .i64 a1 (shl .i64 1 x6_1)) x6_1).bind fun t506 => (if t506 = true then (impl_chi_extremeIn.l0 k1 l0 a1 x5_1 (wrap64 (x6_1 + 1))) else (impl_chi_extremeIn.l0 k1 l0 a1 (Go.bits .or .i64 x5_1 (shl .i64 1 x6_1)) (wrap64 (x6_1 + 1))))) else (impl_chi_extremeIn.l0 k1 l0 a1 x5_1 (wrap64 (x6_1 + 1)))) = some r := by first | (rw [hji5] at H; exact H) | (simp only [hji5] at H ⊢; exact H)
     have hji5_ : (a1 / 2 ^ min x6_1.toNat 64) = ji5 := hji5
     have hji5z : x6_1 ≤ 64 → (a1 / 2 ^ x6_1.toNat) = ji5 := shr_small hji5
     by_cases c6 : (Go.bits .and .i64 (ji5) 1) = 1
     ·rw [if_pos c6] at H
      have c6b0 : ((Go.bits .and .i64 (ji5) 1) == 1) = true := beq_iff_eq.mpr c6
      have c6b1 : ((Go.bits .and .i64 (ji5) 1) != 1) = false := bne_eq_false_iff_eq.mpr c6
      clear c6
      have c7b0 := eq_true (zA : 0 ≤ x6_1)
      obtain ⟨ji8, hji8⟩ : ∃ j_ : Int, (shl .i64 1 x6_1) = j_ := ⟨_, rfl⟩
      replace H : ((impl_chi_inHull.f k1 l0 (Go.bits .andNot .i64 a1 (ji8)) x6_1).bind fun t506 => (if t506 = true then (impl_chi_extremeIn.l0 k1 l0 a1 x5_1 (wrap64 (x6_1 + 1))) else (impl_chi_extremeIn.l0 k1 l0 a1 (Go.bits .or .i64 x5_1 (ji8)) (wrap64 (x6_1 + 1))))) = some r := by first | (rw [hji8] at H; exact H) | (simp only [hji8] at H ⊢; exact H)
      have hji8_ : (IntKind.i64.wrap (1 * 2 ^ min x6_1.toNat 64)) = ji8 := hji8
      have hji8z : x6_1 ≤ 64 → (IntKind.i64.wrap (1 * 2 ^ x6_1.toNat)) = ji8 := shl_small hji8
      have hji8u : (IntKind.i64.wrap (2 ^ min x6_1.toNat 64)) = ji8 := by have h_ := hji8_; rw [Int.one_mul] at h_; exact h_
      have hji8v : x6_1 ≤ 64 → (IntKind.i64.wrap (2 ^ x6_1.toNat)) = ji8 := fun hle_ => by have h_ := hji8z hle_; rw [Int.one_mul] at h_; exact h_
      have hji8y : (wrap64 (1 * 2 ^ min x6_1.toNat 64)) = ji8 := (i64_w _).symm.trans hji8_
      have hji8x : x6_1 ≤ 64 → (wrap64 (1 * 2 ^ x6_1.toNat)) = ji8 := fun h_ => (i64_w _).symm.trans (hji8z h_)
      replace H := Option.bind_eq_some_iff.mp H
      obtain ⟨t506, A90, H⟩ := H
      replace H : (if t506 = true then (impl_chi_extremeIn.l0 k1 l0 a1 x5_1 (wrap64 (x6_1 + 1))) else (impl_chi_extremeIn.l0 k1 l0 a1 (Go.bits .or .i64 x5_1 (ji8)) (wrap64 (x6_1 + 1)))) = some r := H
      have A9 := Aside0.mk A90
      clear A90
      by_cases c10 : t506 = true
      ·subst c10
       have H1 : (impl_chi_extremeIn.l0 k1 l0 a1 x5_1 (wrap64 (x6_1 + 1))) = some r := by rw [if_pos rfl] at H; exact H
       clear H
       have H := H1
       clear H1
       have H' := Aside0.mk H
       clear H
       have hL505 := HC0.out
       have dq505 : decide (0 < (l0.length : Int)) = true := decide_eq_true (by omega)
       clear hL505
       have p505 : 0 ≤ (0 : Int) := (by omega)
       have q505 : 0 < (l0.length : Int) := zA
       obtain ⟨ad505, e505, hx505_0⟩ := Kd.at_int HR0.out 0 p505 q505
       obtain rfl : (⟨g0, 0, none⟩ : Addr) = ad505 := (by injection e505)
       (first | simp only [add_plain] at hx505_0 | simp only [add_at] at hx505_0 | simp only [Addr.add, Nat.zero_add] at hx505_0 | skip)
       have qi505 : (0 < l0.length) = True := eq_true (by omega)
       (try rw [show ((0 : Int)).toNat = 0 from rfl] at hx505_0)
       (try rw [Addr.add_zero'] at hx505_0)
       replace hx505_0 := (HB.out.cell (World.block_lt_of_cell? w _ hx505_0)).trans hx505_0
       replace p505 := eq_true p505
       replace q505 := eq_true q505
       clear dq505
       go_wp2_with (first | (go_at_call 70; (with_reducible refine (impl_chi_inHull.calls k1 _ l0 (Go.bits .andNot .i64 a1 (ji8)) x6_1 true _ ?side1 ?side2 A9.out).mono ?_); (case side1 => repeat (first | exact (Kd.C_below HR0.out HB.out) | (with_reducible refine Kd.C_alloc ?_ _) | (with_reducible refine Kd.C_drewN ?_ _) | (with_reducible refine Kd.C_drew ?_))); (case side2 => exact HC0.out); rintro e w11 ⟨rfl, hb⟩; replace HB := Aside0.mk (below_step zB hb); (try clear hb); (try clear hb2); (try clear hk); (try clear hi)))
       go_roundg k1
       case measure => have := HK1.out; omega
       case rel => exact ⟨(x5_1), (wrap64 (x6_1 + 1)), zF, zF, H', ⟨by have := HK1.out; omega⟩, ⟨zB⟩⟩
      ·replace c10 := Bool.eq_false_iff.mpr c10
       subst c10
       have H1 : (impl_chi_extremeIn.l0 k1 l0 a1 (Go.bits .or .i64 x5_1 (ji8)) (wrap64 (x6_1 + 1))) = some r := by rw [if_neg (show ¬ (false = true) by decide)] at H; exact H
       clear H
       have H := H1
       clear H1
       have c12b0 := eq_true (zA : 0 ≤ x6_1)
       have H' := Aside0.mk H
       clear H
       have hL505 := HC0.out
       have dq505 : decide (0 < (l0.length : Int)) = true := decide_eq_true (by omega)
       clear hL505
       have p505 : 0 ≤ (0 : Int) := (by omega)
       have q505 : 0 < (l0.length : Int) := zA
       obtain ⟨ad505, e505, hx505_0⟩ := Kd.at_int HR0.out 0 p505 q505
       obtain rfl : (⟨g0, 0, none⟩ : Addr) = ad505 := (by injection e505)
       (first | simp only [add_plain] at hx505_0 | simp only [add_at] at hx505_0 | simp only [Addr.add, Nat.zero_add] at hx505_0 | skip)
       have qi505 : (0 < l0.length) = True := eq_true (by omega)
       (try rw [show ((0 : Int)).toNat = 0 from rfl] at hx505_0)
       (try rw [Addr.add_zero'] at hx505_0)
       replace hx505_0 := (HB.out.cell (World.block_lt_of_cell? w _ hx505_0)).trans hx505_0
       replace p505 := eq_true p505
       replace q505 := eq_true q505
       clear dq505
       go_wp2_with (first | (go_at_call 70; (with_reducible refine (impl_chi_inHull.calls k1 _ l0 (Go.bits .andNot .i64 a1 (ji8)) x6_1 false _ ?side1 ?side2 A9.out).mono ?_); (case side1 => repeat (first | exact (Kd.C_below HR0.out HB.out) | (with_reducible refine Kd.C_alloc ?_ _) | (with_reducible refine Kd.C_drewN ?_ _) | (with_reducible refine Kd.C_drew ?_))); (case side2 => exact HC0.out); rintro e w14 ⟨rfl, hb⟩; replace HB := Aside0.mk (below_step zB hb); (try clear hb); (try clear hb2); (try clear hk); (try clear hi)))
       go_roundg k1
       case measure => have := HK1.out; omega
       case rel => exact ⟨(Go.bits .or .i64 x5_1 (ji8)), (wrap64 (x6_1 + 1)), (by first | rfl | (simp; done) | (simp only [← hji8] <;> (first | rfl | simp)) | (simp [*]; done)), zF, H', ⟨by have := HK1.out; omega⟩, ⟨zB⟩⟩
     ·rw [if_neg c6] at H
      have c6b0 : ((Go.bits .and .i64 (ji5) 1) == 1) = false := beq_eq_false_iff_ne.mpr c6
      have c6b1 : ((Go.bits .and .i64 (ji5) 1) != 1) = true := bne_iff_ne.mpr c6
      have H' := Aside0.mk H
      clear H
      have hL505 := HC0.out
      have dq505 : decide (0 < (l0.length : Int)) = true := decide_eq_true (by omega)
      clear hL505
      have p505 : 0 ≤ (0 : Int) := (by omega)
      have q505 : 0 < (l0.length : Int) := zA
      obtain ⟨ad505, e505, hx505_0⟩ := Kd.at_int HR0.out 0 p505 q505
      obtain rfl : (⟨g0, 0, none⟩ : Addr) = ad505 := (by injection e505)
      (first | simp only [add_plain] at hx505_0 | simp only [add_at] at hx505_0 | simp only [Addr.add, Nat.zero_add] at hx505_0 | skip)
      have qi505 : (0 < l0.length) = True := eq_true (by omega)
      (try rw [show ((0 : Int)).toNat = 0 from rfl] at hx505_0)
      (try rw [Addr.add_zero'] at hx505_0)
      replace hx505_0 := (HB.out.cell (World.block_lt_of_cell? w _ hx505_0)).trans hx505_0
      replace p505 := eq_true p505
      replace q505 := eq_true q505
      clear dq505
      go_wp2
      go_roundg k1
      case measure => have := HK1.out; omega
      case rel => exact ⟨(x5_1), (wrap64 (x6_1 + 1)), zF, zF, H', ⟨by have := HK1.out; omega⟩, ⟨zB⟩⟩
    ·rw [if_neg c4] at H
     exact absurd H (by simp)
   ·rw [if_neg c3] at H
    have c3b0 : decide (x6_1 < (rd l0 0)) = false := decide_eq_false c3
    clear c3
    obtain rfl := Option.some.inj H
    have hL505 := HC0.out
    have dq505 : decide (0 < (l0.length : Int)) = true := decide_eq_true (by omega)
    clear hL505
    have p505 : 0 ≤ (0 : Int) := (by omega)
    have q505 : 0 < (l0.length : Int) := zA
    obtain ⟨ad505, e505, hx505_0⟩ := Kd.at_int HR0.out 0 p505 q505
    obtain rfl : (⟨g0, 0, none⟩ : Addr) = ad505 := (by injection e505)
    (first | simp only [add_plain] at hx505_0 | simp only [add_at] at hx505_0 | simp only [Addr.add, Nat.zero_add] at hx505_0 | skip)
    have qi505 : (0 < l0.length) = True := eq_true (by omega)
    (try rw [show ((0 : Int)).toNat = 0 from rfl] at hx505_0)
    (try rw [Addr.add_zero'] at hx505_0)
    replace hx505_0 := (HB.out.cell (World.block_lt_of_cell? w _ hx505_0)).trans hx505_0
    replace p505 := eq_true p505
    replace q505 := eq_true q505
    clear dq505
    go_wp2
    go_ret
    exact ⟨zE, zB⟩
end Go.Proofs.Ytbjncemaeagjjaa.PX
namespace Go.Proofs.Ytbjncemaeagjjaa.M
open Go.RowKit Go.Proofs.YtbjncemaeagjjaaW.PrintWords Go.Proofs.Ytbjncemaeagjjaa.PX Go.Proofs.Ytbjncemaeagjjaa.G Go.Proofs.YtbjncemaeagjjaaW.PrintMore
/-- Is p an extreme element of a set? -/
def extB (n : Nat) (t : ByteArray) (s p : Nat) : Bool := s.testBit p && !inB n t s p
/-- The extreme elements of a set. -/
def extN (n : Nat) (t : ByteArray) (s : Nat) : Nat := sumN (extB n t s) n
theorem sum_fold {ρ : Type} (c : Nat → Bool) (n : Nat) : (List.range' 0 (n - 0)).foldlM (fun (s : Nat) p => (.ok (if c p then s + 2 ^ p else s) : Except ρ Nat)) 0 = .ok (sumN c n) := by
  rw [foldlM_ok, Nat.sub_zero, ← List.range_eq_range']
  congr 1
  induction n with
  | zero => rfl
  | succ n ih => rw [List.range_succ, List.foldl_append, ih]; rfl
theorem inB_rem {n : Nat} {t : ByteArray} {s p : Nat} (hn : n ≤ 7) (hs : s < 128) (hp : p < 7) : inB n t (remN s p) p = inB n t s p := by
  have hm : ∀ q ∈ tripsL n, (insB n t p q.1 q.2.1 q.2.2 && (remN s p).testBit q.1 && (remN s p).testBit q.2.1 && (remN s p).testBit q.2.2) = (insB n t p q.1 q.2.1 q.2.2 && s.testBit q.1 && s.testBit q.2.1 && s.testBit q.2.2) := fun q hq => by
    obtain ⟨a, b, c⟩ := q
    obtain ⟨hab, hbc, hc⟩ := mem_trips hq
    have hr := ((set_facts hs).1 p hp).2.2
    simp only
    rw [hr a (by omega), hr b (by omega), hr c (by omega)]
    by_cases e1 : p = a
    · rw [show insB n t p a b c = false by simp [insB, e1]]; simp
    by_cases e2 : p = b
    · rw [show insB n t p a b c = false by simp [insB, e2]]; simp
    by_cases e3 : p = c
    · rw [show insB n t p a b c = false by simp [insB, e3]]; simp
    have d1 : decide (a ≠ p) = true := decide_eq_true (fun e => e1 e.symm)
    have d2 : decide (b ≠ p) = true := decide_eq_true (fun e => e2 e.symm)
    have d3 : decide (c ≠ p) = true := decide_eq_true (fun e => e3 e.symm)
    rw [d1, d2, d3, Bool.and_true, Bool.and_true, Bool.and_true]
  unfold inB
  rw [Bool.eq_iff_iff, List.any_eq_true, List.any_eq_true]
  constructor
  · rintro ⟨q, hq, e⟩
    exact ⟨q, hq, (hm q hq) ▸ e⟩
  · rintro ⟨q, hq, e⟩
    exact ⟨q, hq, (hm q hq).symm ▸ e⟩
section
variable {n : Nat} {t : ByteArray} (h : areOk n t = true)
include h
theorem impl_ext {s : Nat} (hs : s < 128) : Ev (fun k => impl_chi_extremeIn.f k (tblL n t) (s : Int)) (extN n t s : Int) := by
  obtain ⟨⟨h0, h1⟩, _, _⟩ := (areOk_iff _ _).1 h
  unfold impl_chi_extremeIn.f
  have key := loop_up' (σ := Nat) (ρ := Int) (lo := 0) (n := n) (K := fun u _ => some (u : Int)) (L := fun i u k => impl_chi_extremeIn.l0 k (tblL n t) (s : Int) (u : Int) i)
    (fun i u => u < 2 ^ i) (fun u p => .ok (if extB n t s p then u + 2 ^ p else u)) (fun u _ => ?_) (fun p _ hp u hu => ?_) (fun p _ hp u hu u' e => ?_) (by omega) 0 (by decide)
  · rw [sum_fold] at key
    exact key _ (Ev.now _)
  · refine Goes.step ?_
    simp only [impl_chi_extremeIn.l0, tbl_n]
    exact Goes.neg (by omega) (Goes.ok (K := fun u _ => some (u : Int)) u)
  · refine Goes.step ?_
    simp only [impl_chi_extremeIn.l0, tbl_n]
    refine Goes.pos (by omega) (Goes.pos (by omega) ?_)
    have hp7 : p < 7 := by omega
    have hbq := bitQ_eq hs (k := p) (by omega)
    unfold bitQ at hbq
    rw [hbq, wrap_id (x := (p : Int) + 1) (by omega) (by omega)]
    unfold extB
    have pw := pow_128 (k := p) (by omega)
    cases hb : s.testBit p with
    | false => exact Goes.neg (by simp) (Goes.ok (K := fun (u : Nat) k => impl_chi_extremeIn.l0 k (tblL n t) (s : Int) (u : Int) ((p + 1 : Nat) : Int)) u)
    | true =>
      obtain ⟨r1, r2, r3⟩ := (set_facts hs).1 p hp7
      have hrp : (remN s p).testBit p = false := by rw [r3 p hp7]; simp
      rw [r1, ((set_facts (s := u) (by omega)).2.2 p hp7 hu).1]
      refine Goes.pos (by simp) (Goes.ev (impl_inHull h r2 hp hrp) ?_)
      rw [inB_rem (by omega) hs hp7]
      cases inB n t s p with
      | true => exact Goes.pos (by trivial) (Goes.ok (K := fun (u : Nat) k => impl_chi_extremeIn.l0 k (tblL n t) (s : Int) (u : Int) ((p + 1 : Nat) : Int)) u)
      | false => exact Goes.neg (by decide) (Goes.ok (K := fun (u : Nat) k => impl_chi_extremeIn.l0 k (tblL n t) (s : Int) (u : Int) ((p + 1 : Nat) : Int)) (u + 2 ^ p))
  · cases e
    rw [Nat.pow_succ]
    split <;> omega
theorem spec_ext {s : Nat} (hs : s < 128) : Ev (fun k => spec_l6Extreme.f k (n : Int) t (s : Int)) (extN n t s : Int) := by
  obtain ⟨⟨h0, h1⟩, _, _⟩ := (areOk_iff _ _).1 h
  unfold spec_l6Extreme.f
  have key := loop_up' (σ := Nat) (ρ := Int) (lo := 0) (n := n) (K := fun u _ => some (u : Int)) (L := fun i u k => spec_l6Extreme.l0 k (s : Int) (u : Int) i (n : Int) t)
    (fun i u => u < 2 ^ i) (fun u p => .ok (if extB n t s p then u + 2 ^ p else u)) (fun u _ => ?_) (fun p _ hp u hu => ?_) (fun p _ hp u hu u' e => ?_) (by omega) 0 (by decide)
  · rw [sum_fold] at key
    exact key _ (Ev.now _)
  · refine Goes.step ?_
    simp only [spec_l6Extreme.l0]
    exact Goes.neg (by omega) (Goes.ok (K := fun u _ => some (u : Int)) u)
  · refine Goes.step ?_
    simp only [spec_l6Extreme.l0]
    refine Goes.pos (by omega) (Goes.call (has_ev hs (by omega)) ?_)
    have pw := pow_128 (k := p) (by omega)
    rw [u64_id (k := p) (by omega), shl_id (k := p) (by omega), wrap_id (x := (p : Int) + 1) (by omega) (by omega), wrap_id (x := (u : Int) + ((2 ^ p : Nat) : Int)) (by omega) (by omega)]
    unfold extB
    cases hb : s.testBit p with
    | false => exact Goes.neg (by simp) (Goes.ok (K := fun (u : Nat) k => spec_l6Extreme.l0 k (s : Int) (u : Int) ((p + 1 : Nat) : Int) (n : Int) t) u)
    | true =>
      refine Goes.pos (by trivial) (Goes.ev (spec_in6 h hs hp) ?_)
      cases inB n t s p with
      | true => exact Goes.pos (by trivial) (Goes.ok (K := fun (u : Nat) k => spec_l6Extreme.l0 k (s : Int) (u : Int) ((p + 1 : Nat) : Int) (n : Int) t) u)
      | false => exact Goes.neg (by decide) (Goes.pos (by omega) (Goes.ok (K := fun (u : Nat) k => spec_l6Extreme.l0 k (s : Int) (u : Int) ((p + 1 : Nat) : Int) (n : Int) t) (u + 2 ^ p)))
  · cases e
    rw [Nat.pow_succ]
    split <;> omega
end
theorem extN_lt {n : Nat} (t : ByteArray) (s : Nat) (hn : n ≤ 7) : extN n t s < 128 := sumN_lt7 _ hn
theorem extN_bit {n : Nat} (t : ByteArray) (s : Nat) {p : Nat} (hn : n ≤ 7) (hp : p < n) : (extN n t s).testBit p = extB n t s p := sumN_bit _ hn hp
end Go.Proofs.Ytbjncemaeagjjaa.M
namespace Go.Proofs.Ytbjncemaeagjjaa.PX
open Go.RowKit Go.Proofs.Ytbjncemaeagjjaa.G Go.Proofs.YtbjncemaeagjjaaW.PrintWords Go.Proofs.YtbjncemaeagjjaaW.PrintLast Go.Proofs.YtbjncemaeagjjaaW.PrintMore
attribute [local go_sem] max2_int min2_int max_two min_two max_three min_three max_four min_four   -- for this text's walks alone
set_option linter.unusedVariables false
set_option linter.unusedSimpArgs false
/-! ### spec_l8Convex: function 71 -/
def spec_l8Convex.f (k : Nat) (a0_0 : Int) (a0_1 : ByteArray) (a1 : Int) : Option (Bool) := (spec_l7Bits.f k a1).bind fun t600 => (if t600 ≥ 3 then ((spec_l6Extreme.f k a0_0 a0_1 a1).bind fun t601 => (some (t601 == a1))) else (some false))
theorem spec_l8Convex.mono : ∀ a0 a1 a2 k, LeO (spec_l8Convex.f k a0 a1 a2) (spec_l8Convex.f (k + 1) a0 a1 a2) := by
 intro a0 a1 a2 k
 unfold spec_l8Convex.f
 repeat' first
   | (with_reducible exact spec_l6Extreme.mono _ _ _ _)
   | (with_reducible exact spec_l7Bits.mono _ _)
   | (with_reducible exact LeO.refl _)
   | (with_reducible exact LeO.none _)
   | (with_reducible refine LeO.ite ?_ ?_)
   | (with_reducible refine LeO.bind ?_ (fun _ => ?_))
   | exact spec_l6Extreme.mono _ _ _ _
   | exact spec_l7Bits.mono _ _
   | exact LeO.none _
   | refine LeO.ite ?_ ?_
   | refine LeO.bind ?_ (fun _ => ?_)
set_option maxHeartbeats 8000000 in
set_option maxRecDepth 100000 in
theorem spec_l8Convex.calls (k : Nat) (a0_0 : Int) (a0_1 : ByteArray) (a1 : Int) (r : Bool) (w : World) (h : spec_l8Convex.f k a0_0 a0_1 a1 = some r) :
  Calls Try.prog 71 #[.agg #[.int .i64 a0_0, .string a0_1], .int .i64 a1] w fun e w' => e = .returned (.bool r) ∧ Below w.heap.size w w' := by
 have hu26 := Try.underlying26
 have HB := Aside0.mk (Below.refl w.heap.size w)
 have H : ((spec_l7Bits.f k a1).bind fun t600 => (if t600 ≥ 3 then ((spec_l6Extreme.f k a0_0 a0_1 a1).bind fun t601 => (some (t601 == a1))) else (some false))) = some r := h
 clear h
 replace H := Option.bind_eq_some_iff.mp H
 obtain ⟨t600, A30, H⟩ := H
 replace H : (if t600 ≥ 3 then ((spec_l6Extreme.f k a0_0 a0_1 a1).bind fun t601 => (some (t601 == a1))) else (some false)) = some r := H
 have A3 := Aside0.mk A30
 clear A30
 by_cases c4 : t600 ≥ 3
 ·rw [if_pos c4] at H
  have c4b0 : decide (3 ≤ t600) = true := decide_eq_true c4
  clear c4
  replace H := Option.bind_eq_some_iff.mp H
  obtain ⟨t601, A50, H⟩ := H
  replace H : (some (t601 == a1)) = some r := H
  have A5 := Aside0.mk A50
  clear A50
  obtain rfl := Option.some.inj H
  go_enter Try.func71, Try.ntmps71
  go_wp2_with (first | ((with_reducible refine gate_dst (N := 2) rfl ?_); refine box_event ?hg (N := 2) ?hd (cs := #[.int .i64 a0_0, .string a0_1]) (t := 26) ?hr ?_; (case hd => rfl); (case hg => rfl); (case hr => first | (go_simp; done) | (go_simp; rfl)); intro gb599 hg w6 hbox hb; have BK599 := Aside0.mk (hbox); have GW599 := Aside0.mk ((by rw [hg]; exact (below_size zB) : w.heap.size ≤ gb599)); have GE599 := Aside0.mk ((by rw [hg]; exact (below_size zB) : w.heap.size ≤ gb599)); replace HB := Aside0.mk (below_step zB hb); clear hb hbox hg) | ((with_reducible refine gate_callee (f := 56) rfl ?_); refine goesL_ (some 6) rfl rfl Try.func56 (by kernel_rfl) rfl #[.int .i64 a1] rfl zM ?_; (with_reducible refine (spec_l7Bits.calls k a1 t600 _ A3.out).mono ?_); rintro e w' ⟨rfl, ⟨nd, rfl⟩⟩; refine ⟨_, rfl, ?_⟩; have hcz7_0 : w6.cell? ⟨gb599, 0, none⟩ = some (.int .i64 a0_0) := (blk_cell BK599.out 0).trans rfl; have hcz7_1 : w6.cell? ⟨gb599, 1, none⟩ = some (.string a0_1) := (blk_cell BK599.out 1).trans rfl; have hfz7_0 := blk_frozen BK599.out 0; have hfz7_1 := blk_frozen BK599.out 1) | (go_at_call 46; (with_reducible refine (spec_l6Extreme.calls k a0_0 a0_1 a1 t601 _ A5.out).mono ?_); rintro e w8 ⟨rfl, hb⟩; replace BK599 := Aside0.mk (blk_below (g := gb599) (o := .cells #[.int .i64 a0_0, .string a0_1] 26 (0, 0)) (zK BK599.out) hb); replace HB := Aside0.mk (below_step (zG GE599.out) hb); (try clear hb); (try clear hb2); (try clear hk); (try clear hi)))
  go_ret
  exact ⟨zE, zG GE599.out⟩
 ·rw [if_neg c4] at H
  have c4b0 : decide (3 ≤ t600) = false := decide_eq_false c4
  clear c4
  obtain rfl := Option.some.inj H
  go_enter Try.func71, Try.ntmps71
  go_wp2_with (first | ((with_reducible refine gate_dst (N := 2) rfl ?_); refine box_event ?hg (N := 2) ?hd (cs := #[.int .i64 a0_0, .string a0_1]) (t := 26) ?hr ?_; (case hd => rfl); (case hg => rfl); (case hr => first | (go_simp; done) | (go_simp; rfl)); intro gb599 hg w9 hbox hb; have BK599 := Aside0.mk (hbox); have GW599 := Aside0.mk ((by rw [hg]; exact (below_size zB) : w.heap.size ≤ gb599)); have GE599 := Aside0.mk ((by rw [hg]; exact (below_size zB) : w.heap.size ≤ gb599)); replace HB := Aside0.mk (below_step zB hb); clear hb hbox hg) | ((with_reducible refine gate_callee (f := 56) rfl ?_); refine goesL_ (some 6) rfl rfl Try.func56 (by kernel_rfl) rfl #[.int .i64 a1] rfl zM ?_; (with_reducible refine (spec_l7Bits.calls k a1 t600 _ A3.out).mono ?_); rintro e w' ⟨rfl, ⟨nd, rfl⟩⟩; refine ⟨_, rfl, ?_⟩))
  go_ret
  exact ⟨zE, zG GE599.out⟩
/-! ### impl_chi_isConvexSet: function 73 -/
def impl_chi_isConvexSet.f (k : Nat) (l0 : List Int) (a1 : Int) : Option (Bool) := (bits_OnesCount.f (IntKind.u64.wrap (a1))).bind fun t626 => (if t626 ≥ 3 then ((impl_chi_extremeIn.f k l0 a1).bind fun t627 => (some (t627 == a1))) else (some false))
theorem impl_chi_isConvexSet.mono : ∀ a0 a1 k, LeO (impl_chi_isConvexSet.f k a0 a1) (impl_chi_isConvexSet.f (k + 1) a0 a1) := by
 intro a0 a1 k
 unfold impl_chi_isConvexSet.f
 repeat' first
   | (with_reducible exact impl_chi_extremeIn.mono _ _ _)
   | (with_reducible exact LeO.refl _)
   | (with_reducible exact LeO.none _)
   | (with_reducible refine LeO.ite ?_ ?_)
   | (with_reducible refine LeO.bind ?_ (fun _ => ?_))
   | exact impl_chi_extremeIn.mono _ _ _
   | exact LeO.none _
   | refine LeO.ite ?_ ?_
   | refine LeO.bind ?_ (fun _ => ?_)
set_option maxHeartbeats 8000000 in
set_option maxRecDepth 100000 in
theorem impl_chi_isConvexSet.calls (k : Nat) (g0 : Nat) (l0 : List Int) (a1 : Int) (r : Bool) (w : World) (hr0 : Kd.C (Kd.int .i64) w (some ⟨g0, 0, none⟩) l0.length l0) (hc0 : l0.length = 344) (h : impl_chi_isConvexSet.f k l0 a1 = some r) :
  Calls Try.prog 73 #[.pointer (some ⟨g0, 0, none⟩), .int .i64 a1] w fun e w' => e = .returned (.bool r) ∧ Below w.heap.size w w' := by
 have HR0 := Aside0.mk hr0
 have HC0 := Aside0.mk hc0
 clear hr0 hc0
 have HB := Aside0.mk (Below.refl w.heap.size w)
 have H : ((bits_OnesCount.f (IntKind.u64.wrap (a1))).bind fun t626 => (if t626 ≥ 3 then ((impl_chi_extremeIn.f k l0 a1).bind fun t627 => (some (t627 == a1))) else (some false))) = some r := h
 clear h
 replace H := Option.bind_eq_some_iff.mp H
 obtain ⟨t626, A30, H⟩ := H
 replace H : (if t626 ≥ 3 then ((impl_chi_extremeIn.f k l0 a1).bind fun t627 => (some (t627 == a1))) else (some false)) = some r := H
 have A3 := Aside0.mk A30
 clear A30
 by_cases c4 : t626 ≥ 3
 ·rw [if_pos c4] at H
  have c4b0 : decide (3 ≤ t626) = true := decide_eq_true c4
  clear c4
  replace H := Option.bind_eq_some_iff.mp H
  obtain ⟨t627, A50, H⟩ := H
  replace H : (some (t627 == a1)) = some r := H
  have A5 := Aside0.mk A50
  clear A50
  obtain rfl := Option.some.inj H
  go_enter Try.func73, Try.ntmps73
  go_wp2_with (first | ((with_reducible refine gate_callee (f := 58) rfl ?_); refine goesL_ (some 7) rfl rfl Try.func58 (by kernel_rfl) rfl #[.int .u64 (IntKind.u64.wrap (a1))] rfl zM ?_; (with_reducible refine (bits_OnesCount.calls (IntKind.u64.wrap (a1)) t626 _ A3.out).mono ?_); rintro e w' ⟨rfl, ⟨nd, rfl⟩⟩; refine ⟨_, rfl, ?_⟩) | (go_at_call 49; (with_reducible refine (impl_chi_extremeIn.calls k _ l0 a1 t627 _ ?side1 ?side2 A5.out).mono ?_); (case side1 => repeat (first | exact HR0.out | (with_reducible refine Kd.C_alloc ?_ _) | (with_reducible refine Kd.C_drewN ?_ _) | (with_reducible refine Kd.C_drew ?_))); (case side2 => exact HC0.out); rintro e w6 ⟨rfl, hb⟩; replace HB := Aside0.mk (below_step zB hb); (try clear hb); (try clear hb2); (try clear hk); (try clear hi)))
  go_ret
  exact ⟨zE, zB⟩
 ·rw [if_neg c4] at H
  have c4b0 : decide (3 ≤ t626) = false := decide_eq_false c4
  clear c4
  obtain rfl := Option.some.inj H
  go_enter Try.func73, Try.ntmps73
  go_wp2_with (first | ((with_reducible refine gate_callee (f := 58) rfl ?_); refine goesL_ (some 7) rfl rfl Try.func58 (by kernel_rfl) rfl #[.int .u64 (IntKind.u64.wrap (a1))] rfl zM ?_; (with_reducible refine (bits_OnesCount.calls (IntKind.u64.wrap (a1)) t626 _ A3.out).mono ?_); rintro e w' ⟨rfl, ⟨nd, rfl⟩⟩; refine ⟨_, rfl, ?_⟩))
  go_ret
  exact ⟨zE, zB⟩
end Go.Proofs.Ytbjncemaeagjjaa.PX
namespace Go.Proofs.Ytbjncemaeagjjaa.M
open Go.RowKit Go.Proofs.YtbjncemaeagjjaaW.PrintWords Go.Proofs.Ytbjncemaeagjjaa.PX Go.Proofs.Ytbjncemaeagjjaa.G Go.Proofs.YtbjncemaeagjjaaW.PrintMore
/-- Is a set of three elements or more convex? -/
def convB (n : Nat) (t : ByteArray) (s : Nat) : Bool := decide (3 ≤ popN s) && (extN n t s == s)
section
variable {n : Nat} {t : ByteArray} (h : areOk n t = true)
include h
theorem impl_convSet {s : Nat} (hs : s < 128) : Ev (fun k => impl_chi_isConvexSet.f k (tblL n t) (s : Int)) (convB n t s) := by
  unfold impl_chi_isConvexSet.f convB
  refine ev_call (ones_f hs) ?_
  by_cases g : 3 ≤ popN s
  · rw [decide_eq_true g, Bool.true_and]
    refine ev_pos (by omega) (Ev.bind (impl_ext h hs) (ev_cast (Ev.now _) ?_))
    rw [Bool.eq_iff_iff, beq_iff_eq, beq_iff_eq]
    omega
  · rw [decide_eq_false g, Bool.false_and]
    exact ev_neg (by omega) (Ev.now _)
theorem spec_convSet {s : Nat} (hs : s < 128) : Ev (fun k => spec_l8Convex.f k (n : Int) t (s : Int)) (convB n t s) := by
  unfold spec_l8Convex.f convB
  refine Ev.bind (bits_ev hs) ?_
  by_cases g : 3 ≤ popN s
  · rw [decide_eq_true g, Bool.true_and]
    refine ev_pos (by omega) (Ev.bind (spec_ext h hs) (ev_cast (Ev.now _) ?_))
    rw [Bool.eq_iff_iff, beq_iff_eq, beq_iff_eq]
    omega
  · rw [decide_eq_false g, Bool.false_and]
    exact ev_neg (by omega) (Ev.now _)
end
end Go.Proofs.Ytbjncemaeagjjaa.M
namespace Go.Proofs.Ytbjncemaeagjjaa.PX
open Go.RowKit Go.Proofs.Ytbjncemaeagjjaa.G Go.Proofs.YtbjncemaeagjjaaW.PrintWords Go.Proofs.YtbjncemaeagjjaaW.PrintLast Go.Proofs.YtbjncemaeagjjaaW.PrintMore
attribute [local go_sem] max2_int min2_int max_two min_two max_three min_three max_four min_four   -- for this text's walks alone
set_option linter.unusedVariables false
set_option linter.unusedSimpArgs false
/-! ### spec_l8Empty: function 72 -/
def spec_l8Empty.l0 : Nat → Int → Int → Int → ByteArray → Option (Bool)
 | 0, _, _, _, _ => none
 | k + 1, x1, x5, x603000, x603001 => if x5 < x603000 then ((spec_l6Has.f x1 x5).bind fun t603 => (if t603 = true then (spec_l8Empty.l0 k x1 (wrap64 (x5 + 1)) x603000 x603001) else ((spec_l6In.f k x603000 x603001 x1 x5).bind fun t604 => (if t604 = true then (some false) else (spec_l8Empty.l0 k x1 (wrap64 (x5 + 1)) x603000 x603001))))) else (some true)
def spec_l8Empty.f (k : Nat) (a0_0 : Int) (a0_1 : ByteArray) (a1 : Int) : Option (Bool) := spec_l8Empty.l0 k a1 0 a0_0 a0_1
theorem spec_l8Empty.mono_l : ∀ k, (∀ y0 y1 y2 y3, LeO (spec_l8Empty.l0 k y0 y1 y2 y3) (spec_l8Empty.l0 (k + 1) y0 y1 y2 y3))
 | 0 => fun _ _ _ _ r h => by simp [spec_l8Empty.l0] at h
 | k + 1 => by
  have ih0 := spec_l8Empty.mono_l k
  ·intro y0 y1 y2 y3
   unfold spec_l8Empty.l0
   repeat' first
   | (with_reducible exact ih0 _ _ _ _)
   | (with_reducible exact spec_l6In.mono _ _ _ _ _)
   | (with_reducible exact LeO.refl _)
   | (with_reducible exact LeO.none _)
   | (with_reducible refine LeO.ite ?_ ?_)
   | (with_reducible refine LeO.bind ?_ (fun _ => ?_))
   | exact ih0 _ _ _ _
   | exact spec_l6In.mono _ _ _ _ _
   | exact LeO.none _
   | refine LeO.ite ?_ ?_
   | refine LeO.bind ?_ (fun _ => ?_)
theorem spec_l8Empty.mono : ∀ a0 a1 a2 k, LeO (spec_l8Empty.f k a0 a1 a2) (spec_l8Empty.f (k + 1) a0 a1 a2) := by
 intro a0 a1 a2 k
 have ih0 := spec_l8Empty.mono_l k
 unfold spec_l8Empty.f
 repeat' first
   | (with_reducible exact ih0 _ _ _ _)
   | (with_reducible exact spec_l6In.mono _ _ _ _ _)
   | (with_reducible exact LeO.refl _)
   | (with_reducible exact LeO.none _)
   | (with_reducible refine LeO.ite ?_ ?_)
   | (with_reducible refine LeO.bind ?_ (fun _ => ?_))
   | exact ih0 _ _ _ _
   | exact spec_l6In.mono _ _ _ _ _
   | exact LeO.none _
   | refine LeO.ite ?_ ?_
   | refine LeO.bind ?_ (fun _ => ?_)
set_option maxHeartbeats 8000000 in
set_option maxRecDepth 100000 in
theorem spec_l8Empty.calls (k : Nat) (a0_0 : Int) (a0_1 : ByteArray) (a1 : Int) (r : Bool) (w : World) (h : spec_l8Empty.f k a0_0 a0_1 a1 = some r) :
  Calls Try.prog 72 #[.agg #[.int .i64 a0_0, .string a0_1], .int .i64 a1] w fun e w' => e = .returned (.bool r) ∧ Below w.heap.size w w' := by
 have hu26 := Try.underlying26
 have HB := Aside0.mk (Below.refl w.heap.size w)
 have H : (spec_l8Empty.l0 k a1 0 a0_0 a0_1) = some r := h
 clear h
 have H' := Aside0.mk H
 clear H
 go_enter Try.func72, Try.ntmps72
 go_wp2_with (first | ((with_reducible refine gate_dst (N := 2) rfl ?_); refine box_event ?hg (N := 2) ?hd (cs := #[.int .i64 a0_0, .string a0_1]) (t := 26) ?hr ?_; (case hd => rfl); (case hg => rfl); (case hr => first | (go_simp; done) | (go_simp; rfl)); intro gb602 hg w3 hbox hb; have BK602 := Aside0.mk (hbox); have GW602 := Aside0.mk ((by rw [hg]; exact (below_size zB) : w.heap.size ≤ gb602)); have GE602 := Aside0.mk ((by rw [hg]; exact (below_size zB) : w.heap.size ≤ gb602)); replace HB := Aside0.mk (below_step zB hb); clear hb hbox hg))
 go_loopg [5] k (fun kq v5 w' => ∃ (x5_1 : Int), v5 = .int .i64 x5_1 ∧ Aside0 (spec_l8Empty.l0 kq a1 x5_1 a0_0 a0_1 = some r) ∧ Aside0 (kq ≤ k) ∧ Aside0 (w'.heap[gb602]? = some (.cells #[.int .i64 a0_0, .string a0_1] 26 (0, 0))) ∧ Aside0 (Below w.heap.size w w'))
 case atStart => exact ⟨(0), zF, H', ⟨Nat.le_refl _⟩, ⟨zK BK602.out⟩, ⟨zG GE602.out⟩⟩
 case round =>
  clear H'
  try clear p2
  obtain ⟨x5_1, rfl, HA, HK1, BK602, HB⟩ := hrel
  cases gk with
  | zero => exact absurd HA.out (by simp [spec_l8Empty.l0])
  | succ k1 =>
   have H := HA.out
   clear HA
   simp only [spec_l8Empty.l0] at H
   by_cases c4 : x5_1 < a0_0
   ·rw [if_pos c4] at H
    have c4b0 : decide (x5_1 < a0_0) = true := decide_eq_true c4
    clear c4
    replace H := Option.bind_eq_some_iff.mp H
    obtain ⟨t603, A50, H⟩ := H
    replace H : (if t603 = true then (spec_l8Empty.l0 k1 a1 (wrap64 (x5_1 + 1)) a0_0 a0_1) else ((spec_l6In.f k1 a0_0 a0_1 a1 x5_1).bind fun t604 => (if t604 = true then (some false) else (spec_l8Empty.l0 k1 a1 (wrap64 (x5_1 + 1)) a0_0 a0_1)))) = some r := H
    have A5 := Aside0.mk A50
    clear A50
    by_cases c6 : t603 = true
    ·subst c6
     have H1 : (spec_l8Empty.l0 k1 a1 (wrap64 (x5_1 + 1)) a0_0 a0_1) = some r := by rw [if_pos rfl] at H; exact H
     clear H
     have H := H1
     clear H1
     have H' := Aside0.mk H
     clear H
     have hcz7_0 : wr.cell? ⟨gb602, 0, none⟩ = some (.int .i64 a0_0) := (blk_cell BK602.out 0).trans rfl
     have hcz7_1 : wr.cell? ⟨gb602, 1, none⟩ = some (.string a0_1) := (blk_cell BK602.out 1).trans rfl
     have hfz7_0 := blk_frozen BK602.out 0
     have hfz7_1 := blk_frozen BK602.out 1
     go_wp2_with (first | ((with_reducible refine gate_callee (f := 51) rfl ?_); refine goesL_ (some 14) rfl rfl Try.func51 (by kernel_rfl) rfl #[.int .i64 a1, .int .i64 x5_1] rfl zM ?_; (with_reducible refine (spec_l6Has.calls a1 x5_1 true _ A5.out).mono ?_); rintro e w' ⟨rfl, ⟨nd, rfl⟩⟩; refine ⟨_, rfl, ?_⟩))
     go_roundg k1
     case measure => have := HK1.out; omega
     case rel => exact ⟨(wrap64 (x5_1 + 1)), zF, H', ⟨by have := HK1.out; omega⟩, ⟨zK BK602.out⟩, ⟨zG GE602.out⟩⟩
    ·replace c6 := Bool.eq_false_iff.mpr c6
     subst c6
     have H1 : ((spec_l6In.f k1 a0_0 a0_1 a1 x5_1).bind fun t604 => (if t604 = true then (some false) else (spec_l8Empty.l0 k1 a1 (wrap64 (x5_1 + 1)) a0_0 a0_1))) = some r := by rw [if_neg (show ¬ (false = true) by decide)] at H; exact H
     clear H
     have H := H1
     clear H1
     replace H := Option.bind_eq_some_iff.mp H
     obtain ⟨t604, A80, H⟩ := H
     replace H : (if t604 = true then (some false) else (spec_l8Empty.l0 k1 a1 (wrap64 (x5_1 + 1)) a0_0 a0_1)) = some r := H
     have A8 := Aside0.mk A80
     clear A80
     by_cases c9 : t604 = true
     ·subst c9
      have H1 : (some false) = some r := by rw [if_pos rfl] at H; exact H
      clear H
      have H := H1
      clear H1
      obtain rfl := Option.some.inj H
      have hcz10_0 : wr.cell? ⟨gb602, 0, none⟩ = some (.int .i64 a0_0) := (blk_cell BK602.out 0).trans rfl
      have hcz10_1 : wr.cell? ⟨gb602, 1, none⟩ = some (.string a0_1) := (blk_cell BK602.out 1).trans rfl
      have hfz10_0 := blk_frozen BK602.out 0
      have hfz10_1 := blk_frozen BK602.out 1
      go_wp2_with (first | ((with_reducible refine gate_callee (f := 51) rfl ?_); refine goesL_ (some 14) rfl rfl Try.func51 (by kernel_rfl) rfl #[.int .i64 a1, .int .i64 x5_1] rfl zM ?_; (with_reducible refine (spec_l6Has.calls a1 x5_1 false _ A5.out).mono ?_); rintro e w' ⟨rfl, ⟨nd, rfl⟩⟩; refine ⟨_, rfl, ?_⟩) | (go_at_call 69; (with_reducible refine (spec_l6In.calls k1 a0_0 a0_1 a1 x5_1 true _ A8.out).mono ?_); rintro e w11 ⟨rfl, hb⟩; replace BK602 := Aside0.mk (blk_below (g := gb602) (o := .cells #[.int .i64 a0_0, .string a0_1] 26 (0, 0)) (zK BK602.out) hb); replace HB := Aside0.mk (below_step (zG GE602.out) hb); (try clear hb); (try clear hb2); (try clear hk); (try clear hi)))
      go_ret
      exact ⟨zE, zG GE602.out⟩
     ·replace c9 := Bool.eq_false_iff.mpr c9
      subst c9
      have H1 : (spec_l8Empty.l0 k1 a1 (wrap64 (x5_1 + 1)) a0_0 a0_1) = some r := by rw [if_neg (show ¬ (false = true) by decide)] at H; exact H
      clear H
      have H := H1
      clear H1
      have H' := Aside0.mk H
      clear H
      have hcz12_0 : wr.cell? ⟨gb602, 0, none⟩ = some (.int .i64 a0_0) := (blk_cell BK602.out 0).trans rfl
      have hcz12_1 : wr.cell? ⟨gb602, 1, none⟩ = some (.string a0_1) := (blk_cell BK602.out 1).trans rfl
      have hfz12_0 := blk_frozen BK602.out 0
      have hfz12_1 := blk_frozen BK602.out 1
      go_wp2_with (first | ((with_reducible refine gate_callee (f := 51) rfl ?_); refine goesL_ (some 14) rfl rfl Try.func51 (by kernel_rfl) rfl #[.int .i64 a1, .int .i64 x5_1] rfl zM ?_; (with_reducible refine (spec_l6Has.calls a1 x5_1 false _ A5.out).mono ?_); rintro e w' ⟨rfl, ⟨nd, rfl⟩⟩; refine ⟨_, rfl, ?_⟩) | (go_at_call 69; (with_reducible refine (spec_l6In.calls k1 a0_0 a0_1 a1 x5_1 false _ A8.out).mono ?_); rintro e w13 ⟨rfl, hb⟩; replace BK602 := Aside0.mk (blk_below (g := gb602) (o := .cells #[.int .i64 a0_0, .string a0_1] 26 (0, 0)) (zK BK602.out) hb); replace HB := Aside0.mk (below_step (zG GE602.out) hb); (try clear hb); (try clear hb2); (try clear hk); (try clear hi)))
      go_roundg k1
      case measure => have := HK1.out; omega
      case rel => exact ⟨(wrap64 (x5_1 + 1)), zF, H', ⟨by have := HK1.out; omega⟩, ⟨zK BK602.out⟩, ⟨zG GE602.out⟩⟩
   ·rw [if_neg c4] at H
    have c4b0 : decide (x5_1 < a0_0) = false := decide_eq_false c4
    clear c4
    obtain rfl := Option.some.inj H
    have hcz14_0 : wr.cell? ⟨gb602, 0, none⟩ = some (.int .i64 a0_0) := (blk_cell BK602.out 0).trans rfl
    have hcz14_1 : wr.cell? ⟨gb602, 1, none⟩ = some (.string a0_1) := (blk_cell BK602.out 1).trans rfl
    have hfz14_0 := blk_frozen BK602.out 0
    have hfz14_1 := blk_frozen BK602.out 1
    go_wp2
    go_ret
    exact ⟨zE, zG GE602.out⟩
/-! ### spec_l8Sets: function 54 -/
mutual
def spec_l8Sets.j0 : Nat → Int → Bool → List Int → Bool → Int → ByteArray → Option (List Int)
 | 0, _, _, _, _, _, _ => none
 | k + 1, x1, x2, x7, x19, x606000, x606001 => if x19 = true then (some x7) else (spec_l8Sets.l0 k x1 x2 x7 0 x606000 x606001)
def spec_l8Sets.l0 : Nat → Int → Bool → List Int → Int → Int → ByteArray → Option (List Int)
 | 0, _, _, _, _, _, _ => none
 | k + 1, x1, x2, x7, x8, x606000, x606001 => if 0 ≤ (IntKind.u64.wrap (x606000)) then (if x8 < (shl .i64 1 (IntKind.u64.wrap (x606000))) then ((spec_l7Bits.f k x8).bind fun t611 => (if t611 = x1 then ((spec_l8Convex.f k x606000 x606001 x8).bind fun t612 => (if t612 = true then (if x2 = true then ((spec_l8Empty.f k x606000 x606001 x8).bind fun t613 => (if t613 = true then (if x7.length < 17592186044416 then (spec_l8Sets.l0 k x1 x2 (x7 ++ [x8]) (wrap64 (x8 + 1)) x606000 x606001) else (none)) else (spec_l8Sets.l0 k x1 x2 x7 (wrap64 (x8 + 1)) x606000 x606001))) else (if x7.length < 17592186044416 then (spec_l8Sets.l0 k x1 x2 (x7 ++ [x8]) (wrap64 (x8 + 1)) x606000 x606001) else (none))) else (spec_l8Sets.l0 k x1 x2 x7 (wrap64 (x8 + 1)) x606000 x606001))) else (spec_l8Sets.l0 k x1 x2 x7 (wrap64 (x8 + 1)) x606000 x606001))) else (some x7)) else (none)
end
def spec_l8Sets.f (k : Nat) (a0_0 : Int) (a0_1 : ByteArray) (a1 : Int) (a2 : Bool) : Option (List Int) := (some (([] : List Int) : List Int)).bind fun y606 => ((spec_IsAcyclic.f k a0_0 a0_1).bind fun t609 => (if t609 = true then ((spec_l1In.f a1 3 a0_0).bind fun t610 => (spec_l8Sets.j0 k a1 a2 y606 (!t610) a0_0 a0_1)) else (spec_l8Sets.j0 k a1 a2 y606 true a0_0 a0_1)))
theorem spec_l8Sets.mono_l : ∀ k, (∀ y0 y1 y2 y3 y4 y5, LeO (spec_l8Sets.j0 k y0 y1 y2 y3 y4 y5) (spec_l8Sets.j0 (k + 1) y0 y1 y2 y3 y4 y5)) ∧ (∀ y0 y1 y2 y3 y4 y5, LeO (spec_l8Sets.l0 k y0 y1 y2 y3 y4 y5) (spec_l8Sets.l0 (k + 1) y0 y1 y2 y3 y4 y5))
 | 0 => ⟨fun _ _ _ _ _ _ r h => by simp [spec_l8Sets.j0] at h, fun _ _ _ _ _ _ r h => by simp [spec_l8Sets.l0] at h⟩
 | k + 1 => by
  obtain ⟨ih0, ih1⟩ := spec_l8Sets.mono_l k
  refine ⟨?_, ?_⟩ <;> intros <;> (first | unfold spec_l8Sets.j0 | unfold spec_l8Sets.l0) <;> repeat' first
  | (with_reducible exact ih0 _ _ _ _ _ _)
  | (with_reducible exact ih1 _ _ _ _ _ _)
  | (with_reducible exact spec_IsAcyclic.mono _ _ _)
  | (with_reducible exact spec_l7Bits.mono _ _)
  | (with_reducible exact spec_l8Convex.mono _ _ _ _)
  | (with_reducible exact spec_l8Empty.mono _ _ _ _)
  | (with_reducible exact LeO.refl _)
  | (with_reducible exact LeO.none _)
  | (with_reducible refine LeO.ite ?_ ?_)
  | (with_reducible refine LeO.bind ?_ (fun _ => ?_))
  | exact ih0 _ _ _ _ _ _
  | exact ih1 _ _ _ _ _ _
  | exact spec_IsAcyclic.mono _ _ _
  | exact spec_l7Bits.mono _ _
  | exact spec_l8Convex.mono _ _ _ _
  | exact spec_l8Empty.mono _ _ _ _
  | exact LeO.none _
  | refine LeO.ite ?_ ?_
  | refine LeO.bind ?_ (fun _ => ?_)
theorem spec_l8Sets.mono : ∀ a0 a1 a2 a3 k, LeO (spec_l8Sets.f k a0 a1 a2 a3) (spec_l8Sets.f (k + 1) a0 a1 a2 a3) := by
 intro a0 a1 a2 a3 k
 obtain ⟨ih0, ih1⟩ := spec_l8Sets.mono_l k
 unfold spec_l8Sets.f
 repeat' first
   | (with_reducible exact ih0 _ _ _ _ _ _)
   | (with_reducible exact ih1 _ _ _ _ _ _)
   | (with_reducible exact spec_IsAcyclic.mono _ _ _)
   | (with_reducible exact spec_l7Bits.mono _ _)
   | (with_reducible exact spec_l8Convex.mono _ _ _ _)
   | (with_reducible exact spec_l8Empty.mono _ _ _ _)
   | (with_reducible exact LeO.refl _)
   | (with_reducible exact LeO.none _)
   | (with_reducible refine LeO.ite ?_ ?_)
   | (with_reducible refine LeO.bind ?_ (fun _ => ?_))
   | exact ih0 _ _ _ _ _ _
   | exact ih1 _ _ _ _ _ _
   | exact spec_IsAcyclic.mono _ _ _
   | exact spec_l7Bits.mono _ _
   | exact spec_l8Convex.mono _ _ _ _
   | exact spec_l8Empty.mono _ _ _ _
   | exact LeO.none _
   | refine LeO.ite ?_ ?_
   | refine LeO.bind ?_ (fun _ => ?_)
set_option maxHeartbeats 8000000 in
set_option maxRecDepth 100000 in
theorem spec_l8Sets.calls (k : Nat) (a0_0 : Int) (a0_1 : ByteArray) (a1 : Int) (a2 : Bool) (r : List Int) (w : World) (h : spec_l8Sets.f k a0_0 a0_1 a1 a2 = some r) :
  Calls Try.prog 54 #[.agg #[.int .i64 a0_0, .string a0_1], .int .i64 a1, .bool a2] w fun e w' => ∃ v0_ : Value, e = .returned (v0_) ∧ Kd.R (Kd.int .i64) 3 w' w.heap.size (fun _ => True) v0_ r ∧ Below w.heap.size w w' := by
 have hu26 := Try.underlying26
 have HB := Aside0.mk (Below.refl w.heap.size w)
 have H : ((some (([] : List Int) : List Int)).bind fun y606 => ((spec_IsAcyclic.f k a0_0 a0_1).bind fun t609 => (if t609 = true then ((spec_l1In.f a1 3 a0_0).bind fun t610 => (spec_l8Sets.j0 k a1 a2 y606 (!t610) a0_0 a0_1)) else (spec_l8Sets.j0 k a1 a2 y606 true a0_0 a0_1)))) = some r := h
 clear h
 obtain ⟨y606, hy606⟩ : ∃ y_ : List Int, y_ = (([] : List Int)) := ⟨_, rfl⟩
 replace H : ((spec_IsAcyclic.f k a0_0 a0_1).bind fun t609 => (if t609 = true then ((spec_l1In.f a1 3 a0_0).bind fun t610 => (spec_l8Sets.j0 k a1 a2 y606 (!t610) a0_0 a0_1)) else (spec_l8Sets.j0 k a1 a2 y606 true a0_0 a0_1))) = some r := by first | (rw [hy606]; with_reducible exact H) | (have H2_ := (Option.bind_some _ _).symm.trans H; rw [hy606]; with_reducible exact H2_) | (have H2_ := (Option.bind_some _ _).symm.trans H; with_reducible exact H2_) | with_reducible exact H | (rw [hy606]; exact H) | exact H
 have Ny606 := Aside0.mk hy606
 clear hy606
 have HC4 := Aside0.mk H
 clear H
 go_enter Try.func54, Try.ntmps54
 go_upto_region 2 with (first | ((with_reducible refine gate_dst (N := 3) rfl ?_); refine box_event ?hg (N := 3) ?hd (cs := #[.int .i64 a0_0, .string a0_1]) (t := 26) ?hr ?_; (case hd => rfl); (case hg => rfl); (case hr => first | (go_simp; done) | (go_simp; rfl)); intro gb605 hg w5 hbox hb; have BK605 := Aside0.mk (hbox); have GW605 := Aside0.mk ((by rw [hg]; exact (below_size zB) : w.heap.size ≤ gb605)); have GE605 := Aside0.mk ((by rw [hg]; exact (below_size zB) : w.heap.size ≤ gb605)); replace HB := Aside0.mk (below_step zB hb); clear hb hbox hg) | ((with_reducible refine gate_dst (N := 9) rfl ?_); refine Kd.R_lit (Kd.int .i64) _ 3 ?hg (N := 9) ?hd (xs := ([] : List Int)) (inner := []) (ok := fun _ => True) (okp := fun _ => True) ?hr ?hp (fun _ hk => hk) trivial (Below.refl _ _) (Nat.le_refl _) (by simp) ?_; (case hd => rfl); (case hg => rfl); (case hr => first | (go_simp; done) | (go_simp; rfl)); (case hp => exact (Reps.none _ _)); intro v607 w6 ho7 hb hg_ hnew_; clear hg_ hnew_; (first | rw [← Ny606.out] at ho7 | (simp only [Int.reduceToNat] at ho7; rw [← Ny606.out] at ho7)); have HO608 := Aside0.mk (Kd.R_lower ho7 (below_size (zG GE605.out))); replace BK605 := Aside0.mk (blk_below (g := gb605) (o := .cells #[.int .i64 a0_0, .string a0_1] 26 (0, 0)) (zK BK605.out) hb); replace HB := Aside0.mk (below_step (zG GE605.out) hb); clear hb ho7))
 (try simp only [Act.put, List.setIfInBounds_toArray, List.set_cons_zero, List.set_cons_succ])
 go_cut [19] (fun v19 wc => ∃ (kq : Nat) (x19_3 : Bool), v19 = .bool x19_3 ∧ Aside0 (spec_l8Sets.j0 kq a1 a2 y606 x19_3 a0_0 a0_1 = some r) ∧ Aside0 (kq ≤ k) ∧ Aside0 (Kd.R (Kd.int .i64) 3 wc w.heap.size (fun _ => True) v607 y606) ∧ Aside0 (wc.heap[gb605]? = some (.cells #[.int .i64 a0_0, .string a0_1] 26 (0, 0))) ∧ Aside0 (Below w.heap.size w wc))
 case first =>
  have H := HC4.out
  clear HC4
  replace H := Option.bind_eq_some_iff.mp H
  obtain ⟨t609, A80, H⟩ := H
  replace H : (if t609 = true then ((spec_l1In.f a1 3 a0_0).bind fun t610 => (spec_l8Sets.j0 k a1 a2 y606 (!t610) a0_0 a0_1)) else (spec_l8Sets.j0 k a1 a2 y606 true a0_0 a0_1)) = some r := H
  have A8 := Aside0.mk A80
  clear A80
  by_cases c9 : t609 = true
  ·subst c9
   have H1 : ((spec_l1In.f a1 3 a0_0).bind fun t610 => (spec_l8Sets.j0 k a1 a2 y606 (!t610) a0_0 a0_1)) = some r := by rw [if_pos rfl] at H; exact H
   clear H
   have H := H1
   clear H1
   replace H := Option.bind_eq_some_iff.mp H
   obtain ⟨t610, A100, H⟩ := H
   replace H : (spec_l8Sets.j0 k a1 a2 y606 (!t610) a0_0 a0_1) = some r := H
   have A10 := Aside0.mk A100
   clear A100
   have H' := Aside0.mk H
   clear H
   have hcz11_0 : w6.cell? ⟨gb605, 0, none⟩ = some (.int .i64 a0_0) := (blk_cell BK605.out 0).trans rfl
   have hcz11_1 : w6.cell? ⟨gb605, 1, none⟩ = some (.string a0_1) := (blk_cell BK605.out 1).trans rfl
   have hfz11_0 := blk_frozen BK605.out 0
   have hfz11_1 := blk_frozen BK605.out 1
   go_wp2_with (first | ((with_reducible refine gate_callee (f := 38) rfl ?_); refine goesL_ (some 11) rfl rfl Try.func38 (by kernel_rfl) rfl #[.agg #[.int .i64 a0_0, .string a0_1]] rfl zM ?_; (with_reducible refine (spec_IsAcyclic.calls k a0_0 a0_1 true _ A8.out).mono ?_); rintro e w12 ⟨rfl, hb⟩; refine ⟨_, rfl, ?_⟩; replace HO608 := Aside0.mk (Kd.R_below (zR HO608.out) hb); replace BK605 := Aside0.mk (blk_below (g := gb605) (o := .cells #[.int .i64 a0_0, .string a0_1] 26 (0, 0)) (zK BK605.out) hb); replace HB := Aside0.mk (below_step (zG GE605.out) hb); (try clear hb); have hcz13_0 : w12.cell? ⟨gb605, 0, none⟩ = some (.int .i64 a0_0) := (blk_cell BK605.out 0).trans rfl; have hcz13_1 : w12.cell? ⟨gb605, 1, none⟩ = some (.string a0_1) := (blk_cell BK605.out 1).trans rfl; have hfz13_0 := blk_frozen BK605.out 0; have hfz13_1 := blk_frozen BK605.out 1) | (go_at_call 45; (with_reducible refine (spec_l1In.calls a1 3 a0_0 t610 _ A10.out).mono ?_); rintro e w' ⟨rfl, ⟨nd, rfl⟩⟩))
   go_meet
   case rel => exact ⟨_, (!t610), zF, H', ⟨by first | omega | exact Nat.le_refl _⟩, ⟨zR HO608.out⟩, ⟨zK BK605.out⟩, ⟨zG GE605.out⟩⟩
  ·replace c9 := Bool.eq_false_iff.mpr c9
   subst c9
   have H1 : (spec_l8Sets.j0 k a1 a2 y606 true a0_0 a0_1) = some r := by rw [if_neg (show ¬ (false = true) by decide)] at H; exact H
   clear H
   have H := H1
   clear H1
   have H' := Aside0.mk H
   clear H
   have hcz14_0 : w6.cell? ⟨gb605, 0, none⟩ = some (.int .i64 a0_0) := (blk_cell BK605.out 0).trans rfl
   have hcz14_1 : w6.cell? ⟨gb605, 1, none⟩ = some (.string a0_1) := (blk_cell BK605.out 1).trans rfl
   have hfz14_0 := blk_frozen BK605.out 0
   have hfz14_1 := blk_frozen BK605.out 1
   go_wp2_with (first | ((with_reducible refine gate_callee (f := 38) rfl ?_); refine goesL_ (some 11) rfl rfl Try.func38 (by kernel_rfl) rfl #[.agg #[.int .i64 a0_0, .string a0_1]] rfl zM ?_; (with_reducible refine (spec_IsAcyclic.calls k a0_0 a0_1 false _ A8.out).mono ?_); rintro e w15 ⟨rfl, hb⟩; refine ⟨_, rfl, ?_⟩; replace HO608 := Aside0.mk (Kd.R_below (zR HO608.out) hb); replace BK605 := Aside0.mk (blk_below (g := gb605) (o := .cells #[.int .i64 a0_0, .string a0_1] 26 (0, 0)) (zK BK605.out) hb); replace HB := Aside0.mk (below_step (zG GE605.out) hb); (try clear hb)))
   go_meet
   case rel => exact ⟨_, (true), zF, H', ⟨by first | omega | exact Nat.le_refl _⟩, ⟨zR HO608.out⟩, ⟨zK BK605.out⟩, ⟨zG GE605.out⟩⟩
 case rest =>
  clear HC4
  try clear p2
  try clear c3
  try clear c5
  try clear c9
  try clear hcz11_0
  try clear hcz11_1
  try clear hcz13_0
  try clear hcz13_1
  try clear hcz14_0
  try clear hcz14_1
  try clear hfz11_0
  try clear hfz11_1
  try clear hfz13_0
  try clear hfz13_1
  try clear hfz14_0
  try clear hfz14_1
  obtain ⟨kq, x19_3, rfl, HA, HJ3, HO_7, BK605, HB⟩ := hcut
  cases kq with
  | zero => exact absurd HA.out (by simp [spec_l8Sets.j0])
  | succ kj3 =>
   have H := HA.out
   clear HA
   simp only [spec_l8Sets.j0] at H
   by_cases c16 : x19_3 = true
   ·subst c16
    have H1 : (some y606) = some r := by rw [if_pos rfl] at H; exact H
    clear H
    have H := H1
    clear H1
    obtain rfl := Option.some.inj H
    go_wp2
    go_ret
    exact ⟨_, zE, zR HO_7.out, zG GE605.out⟩
   ·replace c16 := Bool.eq_false_iff.mpr c16
    subst c16
    have H1 : (spec_l8Sets.l0 kj3 a1 a2 y606 0 a0_0 a0_1) = some r := by rw [if_neg (show ¬ (false = true) by decide)] at H; exact H
    clear H
    have H := H1
    clear H1
    have H' := Aside0.mk H
    clear H
    go_wp2
    go_loopg [7, 8] kj3 (fun kq v7 v8 w' => ∃ (x7_2 : List Int) (x8_2 : Int), v8 = .int .i64 x8_2 ∧ Aside0 (spec_l8Sets.l0 kq a1 a2 x7_2 x8_2 a0_0 a0_1 = some r) ∧ Aside0 (kq ≤ kj3) ∧ Aside0 (Kd.R (Kd.int .i64) 3 w' w.heap.size (fun _ => True) v7 x7_2) ∧ Aside0 (w'.heap[gb605]? = some (.cells #[.int .i64 a0_0, .string a0_1] 26 (0, 0))) ∧ Aside0 (Below w.heap.size w w'))
    case atStart => exact ⟨(y606), (0), zF, H', ⟨Nat.le_refl _⟩, ⟨zR HO_7.out⟩, ⟨zK BK605.out⟩, ⟨zG GE605.out⟩⟩
    case round =>
     clear H'
     try clear c1
     try clear p2
     try clear c3
     try clear c5
     try clear c9
     try clear c16
     try clear hcz11_0
     try clear hcz11_1
     try clear hcz13_0
     try clear hcz13_1
     try clear hcz14_0
     try clear hcz14_1
     try clear hfz11_0
     try clear hfz11_1
     try clear hfz13_0
     try clear hfz13_1
     try clear hfz14_0
     try clear hfz14_1
     try clear p2
     obtain ⟨x7_2, x8_2, rfl, HA, HK2, HO_7, BK605, HB⟩ := hrel
     cases gk with
     | zero => exact absurd HA.out (by simp [spec_l8Sets.l0])
     | succ k2 =>
      have H := HA.out
      clear HA
      simp only [spec_l8Sets.l0] at H
      obtain ⟨ji17, hji17⟩ : ∃ j_ : Int, (IntKind.u64.wrap (a0_0)) = j_ := ⟨_, rfl⟩
      replace H : (if 0 ≤ (ji17) then (if x8_2 < (shl .i64 1 (ji17)) then ((spec_l7Bits.f k2 x8_2).bind fun t611 => (if t611 = a1 then ((spec_l8Convex.f k2 a0_0 a0_1 x8_2).bind fun t612 => (if t612 = true then (if a2 = true then ((spec_l8Empty.f k2 a0_0 a0_1 x8_2).bind fun t613 => (if t613 = true then (if x7_2.length < 17592186044416 then (spec_l8Sets.l0 k2 a1 a2 (x7_2 ++ [x8_2]) (wrap64 (x8_2 + 1)) a0_0 a0_1) else (none)) else (spec_l8Sets.l0 k2 a1 a2 x7_2 (wrap64 (x8_2 + 1)) a0_0 a0_1))) else (if x7_2.length < 17592186044416 then (spec_l8Sets.l0 k2 a1 a2 (x7_2 ++ [x8_2]) (wrap64 (x8_2 + 1)) a0_0 a0_1) else (none))) else (spec_l8Sets.l0 k2 a1 a2 x7_2 (wrap64 (x8_2 + 1)) a0_0 a0_1))) else (spec_l8Sets.l0 k2 a1 a2 x7_2 (wrap64 (x8_2 + 1)) a0_0 a0_1))) else (some x7_2)) else (none)) = some r := by first | (rw [hji17] at H; exact H) | (simp only [hji17] at H ⊢; exact H)
      by_cases c18 : 0 ≤ (ji17)
      ·rw [if_pos c18] at H
       have c18b0 := eq_true c18
       have c18b1 : decide (0 ≤ (ji17)) = true := decide_eq_true c18
       clear c18
       obtain ⟨ji19, hji19⟩ : ∃ j_ : Int, (shl .i64 1 (ji17)) = j_ := ⟨_, rfl⟩
       replace H : (if x8_2 < (ji19) then ((spec_l7Bits.f k2 x8_2).bind fun t611 => (if t611 = a1 then ((spec_l8Convex.f k2 a0_0 a0_1 x8_2).bind fun t612 => (if t612 = true then (if a2 = true then ((spec_l8Empty.f k2 a0_0 a0_1 x8_2).bind fun t613 => (if t613 = true then (if x7_2.length < 17592186044416 then (spec_l8Sets.l0 k2 a1 a2 (x7_2 ++ [x8_2]) (wrap64 (x8_2 + 1)) a0_0 a0_1) else (none)) else (spec_l8Sets.l0 k2 a1 a2 x7_2 (wrap64 (x8_2 + 1)) a0_0 a0_1))) else (if x7_2.length < 17592186044416 then (spec_l8Sets.l0 k2 a1 a2 (x7_2 ++ [x8_2]) (wrap64 (x8_2 + 1)) a0_0 a0_1) else (none))) else (spec_l8Sets.l0 k2 a1 a2 x7_2 (wrap64 (x8_2 + 1)) a0_0 a0_1))) else (spec_l8Sets.l0 k2 a1 a2 x7_2 (wrap64 (x8_2 + 1)) a0_0 a0_1))) else (some x7_2)) = some r := by first | (rw [hji19] at H; exact H) | (simp only [hji19] at H ⊢; exact H)
       have hji19_ : (IntKind.i64.wrap (1 * 2 ^ min (ji17).toNat 64)) = ji19 := hji19
       have hji19z : (ji17) ≤ 64 → (IntKind.i64.wrap (1 * 2 ^ (ji17).toNat)) = ji19 := shl_small hji19
       have hji19u : (IntKind.i64.wrap (2 ^ min (ji17).toNat 64)) = ji19 := by have h_ := hji19_; rw [Int.one_mul] at h_; exact h_
       have hji19v : (ji17) ≤ 64 → (IntKind.i64.wrap (2 ^ (ji17).toNat)) = ji19 := fun hle_ => by have h_ := hji19z hle_; rw [Int.one_mul] at h_; exact h_
       have hji19y : (wrap64 (1 * 2 ^ min (ji17).toNat 64)) = ji19 := (i64_w _).symm.trans hji19_
       have hji19x : (ji17) ≤ 64 → (wrap64 (1 * 2 ^ (ji17).toNat)) = ji19 := fun h_ => (i64_w _).symm.trans (hji19z h_)
       by_cases c20 : x8_2 < (ji19)
       ·rw [if_pos c20] at H
        have c20b0 : decide (x8_2 < (ji19)) = true := decide_eq_true c20
        clear c20
        replace H := Option.bind_eq_some_iff.mp H
        obtain ⟨t611, A210, H⟩ := H
        replace H : (if t611 = a1 then ((spec_l8Convex.f k2 a0_0 a0_1 x8_2).bind fun t612 => (if t612 = true then (if a2 = true then ((spec_l8Empty.f k2 a0_0 a0_1 x8_2).bind fun t613 => (if t613 = true then (if x7_2.length < 17592186044416 then (spec_l8Sets.l0 k2 a1 a2 (x7_2 ++ [x8_2]) (wrap64 (x8_2 + 1)) a0_0 a0_1) else (none)) else (spec_l8Sets.l0 k2 a1 a2 x7_2 (wrap64 (x8_2 + 1)) a0_0 a0_1))) else (if x7_2.length < 17592186044416 then (spec_l8Sets.l0 k2 a1 a2 (x7_2 ++ [x8_2]) (wrap64 (x8_2 + 1)) a0_0 a0_1) else (none))) else (spec_l8Sets.l0 k2 a1 a2 x7_2 (wrap64 (x8_2 + 1)) a0_0 a0_1))) else (spec_l8Sets.l0 k2 a1 a2 x7_2 (wrap64 (x8_2 + 1)) a0_0 a0_1)) = some r := H
        have A21 := Aside0.mk A210
        clear A210
        by_cases c22 : t611 = a1
        ·rw [if_pos c22] at H
         have c22b0 : (t611 == a1) = true := beq_iff_eq.mpr c22
         have c22b1 : (t611 != a1) = false := bne_eq_false_iff_eq.mpr c22
         clear c22
         replace H := Option.bind_eq_some_iff.mp H
         obtain ⟨t612, A230, H⟩ := H
         replace H : (if t612 = true then (if a2 = true then ((spec_l8Empty.f k2 a0_0 a0_1 x8_2).bind fun t613 => (if t613 = true then (if x7_2.length < 17592186044416 then (spec_l8Sets.l0 k2 a1 a2 (x7_2 ++ [x8_2]) (wrap64 (x8_2 + 1)) a0_0 a0_1) else (none)) else (spec_l8Sets.l0 k2 a1 a2 x7_2 (wrap64 (x8_2 + 1)) a0_0 a0_1))) else (if x7_2.length < 17592186044416 then (spec_l8Sets.l0 k2 a1 a2 (x7_2 ++ [x8_2]) (wrap64 (x8_2 + 1)) a0_0 a0_1) else (none))) else (spec_l8Sets.l0 k2 a1 a2 x7_2 (wrap64 (x8_2 + 1)) a0_0 a0_1)) = some r := H
         have A23 := Aside0.mk A230
         clear A230
         by_cases c24 : t612 = true
         ·subst c24
          have H1 : (if a2 = true then ((spec_l8Empty.f k2 a0_0 a0_1 x8_2).bind fun t613 => (if t613 = true then (if x7_2.length < 17592186044416 then (spec_l8Sets.l0 k2 a1 a2 (x7_2 ++ [x8_2]) (wrap64 (x8_2 + 1)) a0_0 a0_1) else (none)) else (spec_l8Sets.l0 k2 a1 a2 x7_2 (wrap64 (x8_2 + 1)) a0_0 a0_1))) else (if x7_2.length < 17592186044416 then (spec_l8Sets.l0 k2 a1 a2 (x7_2 ++ [x8_2]) (wrap64 (x8_2 + 1)) a0_0 a0_1) else (none))) = some r := by rw [if_pos rfl] at H; exact H
          clear H
          have H := H1
          clear H1
          by_cases c25 : a2 = true
          ·subst c25
           have H1 : ((spec_l8Empty.f k2 a0_0 a0_1 x8_2).bind fun t613 => (if t613 = true then (if x7_2.length < 17592186044416 then (spec_l8Sets.l0 k2 a1 true (x7_2 ++ [x8_2]) (wrap64 (x8_2 + 1)) a0_0 a0_1) else (none)) else (spec_l8Sets.l0 k2 a1 true x7_2 (wrap64 (x8_2 + 1)) a0_0 a0_1))) = some r := by rw [if_pos rfl] at H; exact H
           clear H
           have H := H1
           clear H1
           replace H := Option.bind_eq_some_iff.mp H
           obtain ⟨t613, A260, H⟩ := H
           replace H : (if t613 = true then (if x7_2.length < 17592186044416 then (spec_l8Sets.l0 k2 a1 true (x7_2 ++ [x8_2]) (wrap64 (x8_2 + 1)) a0_0 a0_1) else (none)) else (spec_l8Sets.l0 k2 a1 true x7_2 (wrap64 (x8_2 + 1)) a0_0 a0_1)) = some r := H
           have A26 := Aside0.mk A260
           clear A260
           by_cases c27 : t613 = true
           ·subst c27
            have H1 : (if x7_2.length < 17592186044416 then (spec_l8Sets.l0 k2 a1 true (x7_2 ++ [x8_2]) (wrap64 (x8_2 + 1)) a0_0 a0_1) else (none)) = some r := by rw [if_pos rfl] at H; exact H
            clear H
            have H := H1
            clear H1
            by_cases c28 : x7_2.length < 17592186044416
            ·rw [if_pos c28] at H
             have LMc28 := Aside0.mk c28
             clear c28
             obtain ⟨y614, hy614⟩ : ∃ y_ : List Int, y_ = (x7_2 ++ [x8_2]) := ⟨_, rfl⟩
             replace H : (spec_l8Sets.l0 k2 a1 true y614 (wrap64 (x8_2 + 1)) a0_0 a0_1) = some r := by first | (rw [hy614]; with_reducible exact H) | (have H2_ := (Option.bind_some _ _).symm.trans H; rw [hy614]; with_reducible exact H2_) | (have H2_ := (Option.bind_some _ _).symm.trans H; with_reducible exact H2_) | with_reducible exact H | (rw [hy614]; exact H) | exact H
             have Ny614 := Aside0.mk hy614
             clear hy614
             have H' := Aside0.mk H
             clear H
             have hcz29_0 : wr.cell? ⟨gb605, 0, none⟩ = some (.int .i64 a0_0) := (blk_cell BK605.out 0).trans rfl
             have hcz29_1 : wr.cell? ⟨gb605, 1, none⟩ = some (.string a0_1) := (blk_cell BK605.out 1).trans rfl
             have hfz29_0 := blk_frozen BK605.out 0
             have hfz29_1 := blk_frozen BK605.out 1
             go_wp2_with (first | ((with_reducible refine gate_callee (f := 56) rfl ?_); refine goesL_ (some 30) rfl rfl Try.func56 (by kernel_rfl) rfl #[.int .i64 x8_2] rfl zM ?_; (with_reducible refine (spec_l7Bits.calls k2 x8_2 t611 _ A21.out).mono ?_); rintro e w' ⟨rfl, ⟨nd, rfl⟩⟩; refine ⟨_, rfl, ?_⟩) | (go_at_call 71; (with_reducible refine (spec_l8Convex.calls k2 a0_0 a0_1 x8_2 true _ A23.out).mono ?_); rintro e w30 ⟨rfl, hb⟩; replace HO_7 := Aside0.mk (Kd.R_below (zR HO_7.out) hb); replace BK605 := Aside0.mk (blk_below (g := gb605) (o := .cells #[.int .i64 a0_0, .string a0_1] 26 (0, 0)) (zK BK605.out) hb); replace HB := Aside0.mk (below_step (zG GE605.out) hb); (try clear hb); (try clear hb2); (try clear hk); (try clear hi); have hcz31_0 : w30.cell? ⟨gb605, 0, none⟩ = some (.int .i64 a0_0) := (blk_cell BK605.out 0).trans rfl; have hcz31_1 : w30.cell? ⟨gb605, 1, none⟩ = some (.string a0_1) := (blk_cell BK605.out 1).trans rfl; have hfz31_0 := blk_frozen BK605.out 0; have hfz31_1 := blk_frozen BK605.out 1) | (go_at_call 72; (with_reducible refine (spec_l8Empty.calls k2 a0_0 a0_1 x8_2 true _ A26.out).mono ?_); rintro e w32 ⟨rfl, hb⟩; replace HO_7 := Aside0.mk (Kd.R_below (zR HO_7.out) hb); replace BK605 := Aside0.mk (blk_below (g := gb605) (o := .cells #[.int .i64 a0_0, .string a0_1] 26 (0, 0)) (zK BK605.out) hb); replace HB := Aside0.mk (below_step (zG GE605.out) hb); (try clear hb); (try clear hb2); (try clear hk); (try clear hi)) | ((with_reducible refine gate_builtin (b := .append) (xs := #[.tmp 47, .tmp 49]) rfl ?_); at_builtin; refine Kd.R_append (Kd.int .i64) (w0 := w) w.heap.size rfl (.tmp 47) (.tmp 49) 34 3 (.int .i64 0) 8 rfl Try.underlying34 info3 rfl (by decide) (by omega) u7 x7_2 x8_2 [.int .i64 x8_2] (fun _ => True) (fun _ => False) rfl rfl ?aP (fun _ hk => hk.elim) ?aF ?aO ?aB ?aS ?aL ?_; (case aP => exact rfl); (case aB => exact (zG GE605.out)); (case aF => exact (fun _ _ => trivial)); (case aO => exact (zR HO_7.out)); (case aS => exact (below_size (zG GE605.out))); (case aL => have := LMc28.out; omega); intro v615 w33 ho hb hg hat; rw [← Ny614.out] at ho; have n0_ := Aside0.mk (blk_grown (g := gb605) (o := .cells #[.int .i64 a0_0, .string a0_1] 26 (0, 0)) (zK BK605.out) hg (Kd.R_ne HO_7.out BK605.out (by decide))); have n1_ := Aside0.mk (hb); have n2_ := Aside0.mk (ho); clear BK605; clear HB; clear HO_7; have BK605 := n0_; have HB := n1_; have HO616 := n2_; clear n0_ n1_ n2_; clear ho hb hg hat))
             go_roundg k2
             case measure => have := HJ3.out; have := HK2.out; omega
             case rel => exact ⟨(y614), (wrap64 (x8_2 + 1)), zF, H', ⟨by have := HJ3.out; have := HK2.out; omega⟩, ⟨zR HO616.out⟩, ⟨zK BK605.out⟩, ⟨zG GE605.out⟩⟩
            ·rw [if_neg c28] at H
             exact absurd H (by simp)
           ·replace c27 := Bool.eq_false_iff.mpr c27
            subst c27
            have H1 : (spec_l8Sets.l0 k2 a1 true x7_2 (wrap64 (x8_2 + 1)) a0_0 a0_1) = some r := by rw [if_neg (show ¬ (false = true) by decide)] at H; exact H
            clear H
            have H := H1
            clear H1
            have H' := Aside0.mk H
            clear H
            have hcz34_0 : wr.cell? ⟨gb605, 0, none⟩ = some (.int .i64 a0_0) := (blk_cell BK605.out 0).trans rfl
            have hcz34_1 : wr.cell? ⟨gb605, 1, none⟩ = some (.string a0_1) := (blk_cell BK605.out 1).trans rfl
            have hfz34_0 := blk_frozen BK605.out 0
            have hfz34_1 := blk_frozen BK605.out 1
            go_wp2_with (first | ((with_reducible refine gate_callee (f := 56) rfl ?_); refine goesL_ (some 30) rfl rfl Try.func56 (by kernel_rfl) rfl #[.int .i64 x8_2] rfl zM ?_; (with_reducible refine (spec_l7Bits.calls k2 x8_2 t611 _ A21.out).mono ?_); rintro e w' ⟨rfl, ⟨nd, rfl⟩⟩; refine ⟨_, rfl, ?_⟩) | (go_at_call 71; (with_reducible refine (spec_l8Convex.calls k2 a0_0 a0_1 x8_2 true _ A23.out).mono ?_); rintro e w35 ⟨rfl, hb⟩; replace HO_7 := Aside0.mk (Kd.R_below (zR HO_7.out) hb); replace BK605 := Aside0.mk (blk_below (g := gb605) (o := .cells #[.int .i64 a0_0, .string a0_1] 26 (0, 0)) (zK BK605.out) hb); replace HB := Aside0.mk (below_step (zG GE605.out) hb); (try clear hb); (try clear hb2); (try clear hk); (try clear hi); have hcz36_0 : w35.cell? ⟨gb605, 0, none⟩ = some (.int .i64 a0_0) := (blk_cell BK605.out 0).trans rfl; have hcz36_1 : w35.cell? ⟨gb605, 1, none⟩ = some (.string a0_1) := (blk_cell BK605.out 1).trans rfl; have hfz36_0 := blk_frozen BK605.out 0; have hfz36_1 := blk_frozen BK605.out 1) | (go_at_call 72; (with_reducible refine (spec_l8Empty.calls k2 a0_0 a0_1 x8_2 false _ A26.out).mono ?_); rintro e w37 ⟨rfl, hb⟩; replace HO_7 := Aside0.mk (Kd.R_below (zR HO_7.out) hb); replace BK605 := Aside0.mk (blk_below (g := gb605) (o := .cells #[.int .i64 a0_0, .string a0_1] 26 (0, 0)) (zK BK605.out) hb); replace HB := Aside0.mk (below_step (zG GE605.out) hb); (try clear hb); (try clear hb2); (try clear hk); (try clear hi)))
            go_roundg k2
            case measure => have := HJ3.out; have := HK2.out; omega
            case rel => exact ⟨(x7_2), (wrap64 (x8_2 + 1)), zF, H', ⟨by have := HJ3.out; have := HK2.out; omega⟩, ⟨zR HO_7.out⟩, ⟨zK BK605.out⟩, ⟨zG GE605.out⟩⟩
          ·replace c25 := Bool.eq_false_iff.mpr c25
           subst c25
           have H1 : (if x7_2.length < 17592186044416 then (spec_l8Sets.l0 k2 a1 false (x7_2 ++ [x8_2]) (wrap64 (x8_2 + 1)) a0_0 a0_1) else (none)) = some r := by rw [if_neg (show ¬ (false = true) by decide)] at H; exact H
           clear H
           have H := H1
           clear H1
           by_cases c38 : x7_2.length < 17592186044416
           ·rw [if_pos c38] at H
            have LMc38 := Aside0.mk c38
            clear c38
            obtain ⟨y617, hy617⟩ : ∃ y_ : List Int, y_ = (x7_2 ++ [x8_2]) := ⟨_, rfl⟩
            replace H : (spec_l8Sets.l0 k2 a1 false y617 (wrap64 (x8_2 + 1)) a0_0 a0_1) = some r := by first | (rw [hy617]; with_reducible exact H) | (have H2_ := (Option.bind_some _ _).symm.trans H; rw [hy617]; with_reducible exact H2_) | (have H2_ := (Option.bind_some _ _).symm.trans H; with_reducible exact H2_) | with_reducible exact H | (rw [hy617]; exact H) | exact H
            have Ny617 := Aside0.mk hy617
            clear hy617
            have H' := Aside0.mk H
            clear H
            have hcz39_0 : wr.cell? ⟨gb605, 0, none⟩ = some (.int .i64 a0_0) := (blk_cell BK605.out 0).trans rfl
            have hcz39_1 : wr.cell? ⟨gb605, 1, none⟩ = some (.string a0_1) := (blk_cell BK605.out 1).trans rfl
            have hfz39_0 := blk_frozen BK605.out 0
            have hfz39_1 := blk_frozen BK605.out 1
            go_wp2_with (first | ((with_reducible refine gate_callee (f := 56) rfl ?_); refine goesL_ (some 30) rfl rfl Try.func56 (by kernel_rfl) rfl #[.int .i64 x8_2] rfl zM ?_; (with_reducible refine (spec_l7Bits.calls k2 x8_2 t611 _ A21.out).mono ?_); rintro e w' ⟨rfl, ⟨nd, rfl⟩⟩; refine ⟨_, rfl, ?_⟩) | (go_at_call 71; (with_reducible refine (spec_l8Convex.calls k2 a0_0 a0_1 x8_2 true _ A23.out).mono ?_); rintro e w40 ⟨rfl, hb⟩; replace HO_7 := Aside0.mk (Kd.R_below (zR HO_7.out) hb); replace BK605 := Aside0.mk (blk_below (g := gb605) (o := .cells #[.int .i64 a0_0, .string a0_1] 26 (0, 0)) (zK BK605.out) hb); replace HB := Aside0.mk (below_step (zG GE605.out) hb); (try clear hb); (try clear hb2); (try clear hk); (try clear hi)) | ((with_reducible refine gate_builtin (b := .append) (xs := #[.tmp 47, .tmp 49]) rfl ?_); at_builtin; refine Kd.R_append (Kd.int .i64) (w0 := w) w.heap.size rfl (.tmp 47) (.tmp 49) 34 3 (.int .i64 0) 8 rfl Try.underlying34 info3 rfl (by decide) (by omega) u7 x7_2 x8_2 [.int .i64 x8_2] (fun _ => True) (fun _ => False) rfl rfl ?aP (fun _ hk => hk.elim) ?aF ?aO ?aB ?aS ?aL ?_; (case aP => exact rfl); (case aB => exact (zG GE605.out)); (case aF => exact (fun _ _ => trivial)); (case aO => exact (zR HO_7.out)); (case aS => exact (below_size (zG GE605.out))); (case aL => have := LMc38.out; omega); intro v618 w41 ho hb hg hat; rw [← Ny617.out] at ho; have n0_ := Aside0.mk (blk_grown (g := gb605) (o := .cells #[.int .i64 a0_0, .string a0_1] 26 (0, 0)) (zK BK605.out) hg (Kd.R_ne HO_7.out BK605.out (by decide))); have n1_ := Aside0.mk (hb); have n2_ := Aside0.mk (ho); clear BK605; clear HB; clear HO_7; have BK605 := n0_; have HB := n1_; have HO619 := n2_; clear n0_ n1_ n2_; clear ho hb hg hat))
            go_roundg k2
            case measure => have := HJ3.out; have := HK2.out; omega
            case rel => exact ⟨(y617), (wrap64 (x8_2 + 1)), zF, H', ⟨by have := HJ3.out; have := HK2.out; omega⟩, ⟨zR HO619.out⟩, ⟨zK BK605.out⟩, ⟨zG GE605.out⟩⟩
           ·rw [if_neg c38] at H
            exact absurd H (by simp)
         ·replace c24 := Bool.eq_false_iff.mpr c24
          subst c24
          have H1 : (spec_l8Sets.l0 k2 a1 a2 x7_2 (wrap64 (x8_2 + 1)) a0_0 a0_1) = some r := by rw [if_neg (show ¬ (false = true) by decide)] at H; exact H
          clear H
          have H := H1
          clear H1
          have H' := Aside0.mk H
          clear H
          have hcz42_0 : wr.cell? ⟨gb605, 0, none⟩ = some (.int .i64 a0_0) := (blk_cell BK605.out 0).trans rfl
          have hcz42_1 : wr.cell? ⟨gb605, 1, none⟩ = some (.string a0_1) := (blk_cell BK605.out 1).trans rfl
          have hfz42_0 := blk_frozen BK605.out 0
          have hfz42_1 := blk_frozen BK605.out 1
          go_wp2_with (first | ((with_reducible refine gate_callee (f := 56) rfl ?_); refine goesL_ (some 30) rfl rfl Try.func56 (by kernel_rfl) rfl #[.int .i64 x8_2] rfl zM ?_; (with_reducible refine (spec_l7Bits.calls k2 x8_2 t611 _ A21.out).mono ?_); rintro e w' ⟨rfl, ⟨nd, rfl⟩⟩; refine ⟨_, rfl, ?_⟩) | (go_at_call 71; (with_reducible refine (spec_l8Convex.calls k2 a0_0 a0_1 x8_2 false _ A23.out).mono ?_); rintro e w43 ⟨rfl, hb⟩; replace HO_7 := Aside0.mk (Kd.R_below (zR HO_7.out) hb); replace BK605 := Aside0.mk (blk_below (g := gb605) (o := .cells #[.int .i64 a0_0, .string a0_1] 26 (0, 0)) (zK BK605.out) hb); replace HB := Aside0.mk (below_step (zG GE605.out) hb); (try clear hb); (try clear hb2); (try clear hk); (try clear hi)))
          go_roundg k2
          case measure => have := HJ3.out; have := HK2.out; omega
          case rel => exact ⟨(x7_2), (wrap64 (x8_2 + 1)), zF, H', ⟨by have := HJ3.out; have := HK2.out; omega⟩, ⟨zR HO_7.out⟩, ⟨zK BK605.out⟩, ⟨zG GE605.out⟩⟩
        ·rw [if_neg c22] at H
         have c22b0 : (t611 == a1) = false := beq_eq_false_iff_ne.mpr c22
         have c22b1 : (t611 != a1) = true := bne_iff_ne.mpr c22
         have H' := Aside0.mk H
         clear H
         have hcz44_0 : wr.cell? ⟨gb605, 0, none⟩ = some (.int .i64 a0_0) := (blk_cell BK605.out 0).trans rfl
         have hcz44_1 : wr.cell? ⟨gb605, 1, none⟩ = some (.string a0_1) := (blk_cell BK605.out 1).trans rfl
         have hfz44_0 := blk_frozen BK605.out 0
         have hfz44_1 := blk_frozen BK605.out 1
         go_wp2_with (first | ((with_reducible refine gate_callee (f := 56) rfl ?_); refine goesL_ (some 30) rfl rfl Try.func56 (by kernel_rfl) rfl #[.int .i64 x8_2] rfl zM ?_; (with_reducible refine (spec_l7Bits.calls k2 x8_2 t611 _ A21.out).mono ?_); rintro e w' ⟨rfl, ⟨nd, rfl⟩⟩; refine ⟨_, rfl, ?_⟩))
         go_roundg k2
         case measure => have := HJ3.out; have := HK2.out; omega
         case rel => exact ⟨(x7_2), (wrap64 (x8_2 + 1)), zF, H', ⟨by have := HJ3.out; have := HK2.out; omega⟩, ⟨zR HO_7.out⟩, ⟨zK BK605.out⟩, ⟨zG GE605.out⟩⟩
       ·rw [if_neg c20] at H
        have c20b0 : decide (x8_2 < (ji19)) = false := decide_eq_false c20
        clear c20
        obtain rfl := Option.some.inj H
        have hcz45_0 : wr.cell? ⟨gb605, 0, none⟩ = some (.int .i64 a0_0) := (blk_cell BK605.out 0).trans rfl
        have hcz45_1 : wr.cell? ⟨gb605, 1, none⟩ = some (.string a0_1) := (blk_cell BK605.out 1).trans rfl
        have hfz45_0 := blk_frozen BK605.out 0
        have hfz45_1 := blk_frozen BK605.out 1
        go_wp2
        go_ret
        exact ⟨_, by first | rfl | (simp [errW_none, errW_some] <;> rfl) | (simp only [← hji17, ← hji19]; first | rfl | (simp [errW_none, errW_some] <;> rfl)) | (simp [*, errW_none, errW_some] <;> rfl), zR HO_7.out, zG GE605.out⟩
      ·rw [if_neg c18] at H
       exact absurd H (by simp)
/-! ### impl_chi_convexSets: function 55 -/
def impl_chi_convexSets.l0 : Nat → List Int → Int → List Int → Int → Option (List Int)
 | 0, _, _, _, _ => none
 | k + 1, x0, x1, x5, x6 => (impl_fullSet.f (rd x0 0)).bind fun t629 => (if x6 ≤ t629 then ((bits_OnesCount.f (IntKind.u64.wrap (x6))).bind fun t630 => (if t630 = x1 then ((impl_chi_isConvexSet.f k x0 x6).bind fun t631 => (if t631 = true then (if x5.length < 17592186044416 then (impl_chi_convexSets.l0 k x0 x1 (x5 ++ [x6]) (wrap64 (x6 + 1))) else (none)) else (impl_chi_convexSets.l0 k x0 x1 x5 (wrap64 (x6 + 1))))) else (impl_chi_convexSets.l0 k x0 x1 x5 (wrap64 (x6 + 1))))) else (some x5))
def impl_chi_convexSets.f (k : Nat) (l0 : List Int) (a1 : Int) : Option (List Int) := impl_chi_convexSets.l0 k l0 a1 ([] : List Int) 0
theorem impl_chi_convexSets.mono_l : ∀ k, (∀ y0 y1 y2 y3, LeO (impl_chi_convexSets.l0 k y0 y1 y2 y3) (impl_chi_convexSets.l0 (k + 1) y0 y1 y2 y3))
 | 0 => fun _ _ _ _ r h => by simp [impl_chi_convexSets.l0] at h
 | k + 1 => by
  have ih0 := impl_chi_convexSets.mono_l k
  ·intro y0 y1 y2 y3
   unfold impl_chi_convexSets.l0
   repeat' first
   | (with_reducible exact ih0 _ _ _ _)
   | (with_reducible exact impl_chi_isConvexSet.mono _ _ _)
   | (with_reducible exact LeO.refl _)
   | (with_reducible exact LeO.none _)
   | (with_reducible refine LeO.ite ?_ ?_)
   | (with_reducible refine LeO.bind ?_ (fun _ => ?_))
   | exact ih0 _ _ _ _
   | exact impl_chi_isConvexSet.mono _ _ _
   | exact LeO.none _
   | refine LeO.ite ?_ ?_
   | refine LeO.bind ?_ (fun _ => ?_)
theorem impl_chi_convexSets.mono : ∀ a0 a1 k, LeO (impl_chi_convexSets.f k a0 a1) (impl_chi_convexSets.f (k + 1) a0 a1) := by
 intro a0 a1 k
 have ih0 := impl_chi_convexSets.mono_l k
 unfold impl_chi_convexSets.f
 repeat' first
   | (with_reducible exact ih0 _ _ _ _)
   | (with_reducible exact impl_chi_isConvexSet.mono _ _ _)
   | (with_reducible exact LeO.refl _)
   | (with_reducible exact LeO.none _)
   | (with_reducible refine LeO.ite ?_ ?_)
   | (with_reducible refine LeO.bind ?_ (fun _ => ?_))
   | exact ih0 _ _ _ _
   | exact impl_chi_isConvexSet.mono _ _ _
   | exact LeO.none _
   | refine LeO.ite ?_ ?_
   | refine LeO.bind ?_ (fun _ => ?_)
set_option maxHeartbeats 8000000 in
set_option maxRecDepth 100000 in
theorem impl_chi_convexSets.calls (k : Nat) (g0 : Nat) (l0 : List Int) (a1 : Int) (r : List Int) (w : World) (hr0 : Kd.C (Kd.int .i64) w (some ⟨g0, 0, none⟩) l0.length l0) (hc0 : l0.length = 344) (h : impl_chi_convexSets.f k l0 a1 = some r) :
  Calls Try.prog 55 #[.pointer (some ⟨g0, 0, none⟩), .int .i64 a1] w fun e w' => ∃ v0_ : Value, e = .returned (v0_) ∧ Kd.R (Kd.int .i64) 3 w' w.heap.size (fun _ => True) v0_ r ∧ Below w.heap.size w w' := by
 have hu68 := Try.underlying68
 have HR0 := Aside0.mk hr0
 have HC0 := Aside0.mk hc0
 clear hr0 hc0
 have HB := Aside0.mk (Below.refl w.heap.size w)
 have H : (impl_chi_convexSets.l0 k l0 a1 ([] : List Int) 0) = some r := h
 clear h
 have H' := Aside0.mk H
 clear H
 go_enter Try.func55, Try.ntmps55
 go_wp2
 go_loopg [5, 6] k (fun kq v5 v6 w' => ∃ (x5_1 : List Int) (x6_1 : Int), v6 = .int .i64 x6_1 ∧ Aside0 (impl_chi_convexSets.l0 kq l0 a1 x5_1 x6_1 = some r) ∧ Aside0 (kq ≤ k) ∧ Aside0 (Kd.R (Kd.int .i64) 3 w' w.heap.size (fun _ => True) v5 x5_1) ∧ Aside0 (Below w.heap.size w w'))
 case atStart => exact ⟨(([] : List Int)), (0), zF, H', ⟨Nat.le_refl _⟩, ⟨by first | exact Kd.R_nil _ _ _ _ _ | exact Kd.N_nil _ _ _ _ _ | exact Kd.V_nil _ _ _ _ _ | exact Kd.Q_nil _ _ _ _ _ | exact Kd.S_nil _ _ _ _ _⟩, ⟨zB⟩⟩
 case round =>
  clear H'
  try clear p2
  obtain ⟨x5_1, x6_1, rfl, HA, HK1, HO_5, HB⟩ := hrel
  cases gk with
  | zero => exact absurd HA.out (by simp [impl_chi_convexSets.l0])
  | succ k1 =>
   have H := HA.out
   clear HA
   simp only [impl_chi_convexSets.l0] at H
   replace H := Option.bind_eq_some_iff.mp H
   obtain ⟨t629, A30, H⟩ := H
   replace H : (if x6_1 ≤ t629 then ((bits_OnesCount.f (IntKind.u64.wrap (x6_1))).bind fun t630 => (if t630 = a1 then ((impl_chi_isConvexSet.f k1 l0 x6_1).bind fun t631 => (if t631 = true then (if x5_1.length < 17592186044416 then (impl_chi_convexSets.l0 k1 l0 a1 (x5_1 ++ [x6_1]) (wrap64 (x6_1 + 1))) else (none)) else (impl_chi_convexSets.l0 k1 l0 a1 x5_1 (wrap64 (x6_1 + 1))))) else (impl_chi_convexSets.l0 k1 l0 a1 x5_1 (wrap64 (x6_1 + 1))))) else (some x5_1)) = some r := H
   have A3 := Aside0.mk A30
   clear A30
   by_cases c4 : x6_1 ≤ t629
   ·rw [if_pos c4] at H
    have c4b0 : decide (x6_1 ≤ t629) = true := decide_eq_true c4
    clear c4
    replace H := Option.bind_eq_some_iff.mp H
    obtain ⟨t630, A50, H⟩ := H
    replace H : (if t630 = a1 then ((impl_chi_isConvexSet.f k1 l0 x6_1).bind fun t631 => (if t631 = true then (if x5_1.length < 17592186044416 then (impl_chi_convexSets.l0 k1 l0 a1 (x5_1 ++ [x6_1]) (wrap64 (x6_1 + 1))) else (none)) else (impl_chi_convexSets.l0 k1 l0 a1 x5_1 (wrap64 (x6_1 + 1))))) else (impl_chi_convexSets.l0 k1 l0 a1 x5_1 (wrap64 (x6_1 + 1)))) = some r := H
    have A5 := Aside0.mk A50
    clear A50
    by_cases c6 : t630 = a1
    ·rw [if_pos c6] at H
     have c6b0 : (t630 == a1) = true := beq_iff_eq.mpr c6
     have c6b1 : (t630 != a1) = false := bne_eq_false_iff_eq.mpr c6
     clear c6
     replace H := Option.bind_eq_some_iff.mp H
     obtain ⟨t631, A70, H⟩ := H
     replace H : (if t631 = true then (if x5_1.length < 17592186044416 then (impl_chi_convexSets.l0 k1 l0 a1 (x5_1 ++ [x6_1]) (wrap64 (x6_1 + 1))) else (none)) else (impl_chi_convexSets.l0 k1 l0 a1 x5_1 (wrap64 (x6_1 + 1)))) = some r := H
     have A7 := Aside0.mk A70
     clear A70
     by_cases c8 : t631 = true
     ·subst c8
      have H1 : (if x5_1.length < 17592186044416 then (impl_chi_convexSets.l0 k1 l0 a1 (x5_1 ++ [x6_1]) (wrap64 (x6_1 + 1))) else (none)) = some r := by rw [if_pos rfl] at H; exact H
      clear H
      have H := H1
      clear H1
      by_cases c9 : x5_1.length < 17592186044416
      ·rw [if_pos c9] at H
       have LMc9 := Aside0.mk c9
       clear c9
       obtain ⟨y632, hy632⟩ : ∃ y_ : List Int, y_ = (x5_1 ++ [x6_1]) := ⟨_, rfl⟩
       replace H : (impl_chi_convexSets.l0 k1 l0 a1 y632 (wrap64 (x6_1 + 1))) = some r := by first | (rw [hy632]; with_reducible exact H) | (have H2_ := (Option.bind_some _ _).symm.trans H; rw [hy632]; with_reducible exact H2_) | (have H2_ := (Option.bind_some _ _).symm.trans H; with_reducible exact H2_) | with_reducible exact H | (rw [hy632]; exact H) | exact H
       have Ny632 := Aside0.mk hy632
       clear hy632
       have H' := Aside0.mk H
       clear H
       have hL628 := HC0.out
       have dq628 : decide (0 < (l0.length : Int)) = true := decide_eq_true (by omega)
       clear hL628
       have p628 : 0 ≤ (0 : Int) := (by omega)
       have q628 : 0 < (l0.length : Int) := zA
       obtain ⟨ad628, e628, hx628_0⟩ := Kd.at_int HR0.out 0 p628 q628
       obtain rfl : (⟨g0, 0, none⟩ : Addr) = ad628 := (by injection e628)
       (first | simp only [add_plain] at hx628_0 | simp only [add_at] at hx628_0 | simp only [Addr.add, Nat.zero_add] at hx628_0 | skip)
       have qi628 : (0 < l0.length) = True := eq_true (by omega)
       (try rw [show ((0 : Int)).toNat = 0 from rfl] at hx628_0)
       (try rw [Addr.add_zero'] at hx628_0)
       replace hx628_0 := (HB.out.cell (World.block_lt_of_cell? w _ hx628_0)).trans hx628_0
       replace p628 := eq_true p628
       replace q628 := eq_true q628
       clear dq628
       go_wp2_with (first | ((with_reducible refine gate_callee (f := 48) rfl ?_); refine goesL_ (some 12) rfl rfl Try.func48 (by kernel_rfl) rfl #[.int .i64 (rd l0 0)] rfl zM ?_; (with_reducible refine (impl_fullSet.calls (rd l0 0) t629 _ A3.out).mono ?_); rintro e w' ⟨rfl, ⟨nd, rfl⟩⟩; refine ⟨_, rfl, ?_⟩) | ((with_reducible refine gate_callee (f := 58) rfl ?_); refine goesL_ (some 18) rfl rfl Try.func58 (by kernel_rfl) rfl #[.int .u64 (IntKind.u64.wrap (x6_1))] rfl zM ?_; (with_reducible refine (bits_OnesCount.calls (IntKind.u64.wrap (x6_1)) t630 _ A5.out).mono ?_); rintro e w' ⟨rfl, ⟨nd, rfl⟩⟩; refine ⟨_, rfl, ?_⟩) | (go_at_call 73; (with_reducible refine (impl_chi_isConvexSet.calls k1 _ l0 x6_1 true _ ?side1 ?side2 A7.out).mono ?_); (case side1 => repeat (first | exact (Kd.C_below HR0.out zB) | (with_reducible refine Kd.C_alloc ?_ _) | (with_reducible refine Kd.C_drewN ?_ _) | (with_reducible refine Kd.C_drew ?_))); (case side2 => exact HC0.out); rintro e w10 ⟨rfl, hb⟩; replace HO_5 := Aside0.mk (Kd.R_below (zR HO_5.out) hb); replace HB := Aside0.mk (below_step zB hb); (try clear hb); (try clear hb2); (try clear hk); (try clear hi)) | ((with_reducible refine gate_builtin (b := .append) (xs := #[.tmp 26, .tmp 28]) rfl ?_); at_builtin; refine Kd.R_append (Kd.int .i64) (w0 := w) w.heap.size rfl (.tmp 26) (.tmp 28) 34 3 (.int .i64 0) 8 rfl Try.underlying34 info3 rfl (by decide) (by omega) u5 x5_1 x6_1 [.int .i64 x6_1] (fun _ => True) (fun _ => False) rfl rfl ?aP (fun _ hk => hk.elim) ?aF ?aO ?aB ?aS ?aL ?_; (case aP => exact rfl); (case aB => exact zB); (case aF => exact (fun _ _ => trivial)); (case aO => exact (zR HO_5.out)); (case aS => exact (below_size zB)); (case aL => have := LMc9.out; omega); intro v633 w11 ho hb hg hat; rw [← Ny632.out] at ho; have n0_ := Aside0.mk (hb); have n1_ := Aside0.mk (ho); clear HB; clear HO_5; have HB := n0_; have HO634 := n1_; clear n0_ n1_; clear ho hb hg hat))
       go_roundg k1
       case measure => have := HK1.out; omega
       case rel => exact ⟨(y632), (wrap64 (x6_1 + 1)), zF, H', ⟨by have := HK1.out; omega⟩, ⟨zR HO634.out⟩, ⟨zB⟩⟩
      ·rw [if_neg c9] at H
       exact absurd H (by simp)
     ·replace c8 := Bool.eq_false_iff.mpr c8
      subst c8
      have H1 : (impl_chi_convexSets.l0 k1 l0 a1 x5_1 (wrap64 (x6_1 + 1))) = some r := by rw [if_neg (show ¬ (false = true) by decide)] at H; exact H
      clear H
      have H := H1
      clear H1
      have H' := Aside0.mk H
      clear H
      have hL628 := HC0.out
      have dq628 : decide (0 < (l0.length : Int)) = true := decide_eq_true (by omega)
      clear hL628
      have p628 : 0 ≤ (0 : Int) := (by omega)
      have q628 : 0 < (l0.length : Int) := zA
      obtain ⟨ad628, e628, hx628_0⟩ := Kd.at_int HR0.out 0 p628 q628
      obtain rfl : (⟨g0, 0, none⟩ : Addr) = ad628 := (by injection e628)
      (first | simp only [add_plain] at hx628_0 | simp only [add_at] at hx628_0 | simp only [Addr.add, Nat.zero_add] at hx628_0 | skip)
      have qi628 : (0 < l0.length) = True := eq_true (by omega)
      (try rw [show ((0 : Int)).toNat = 0 from rfl] at hx628_0)
      (try rw [Addr.add_zero'] at hx628_0)
      replace hx628_0 := (HB.out.cell (World.block_lt_of_cell? w _ hx628_0)).trans hx628_0
      replace p628 := eq_true p628
      replace q628 := eq_true q628
      clear dq628
      go_wp2_with (first | ((with_reducible refine gate_callee (f := 48) rfl ?_); refine goesL_ (some 12) rfl rfl Try.func48 (by kernel_rfl) rfl #[.int .i64 (rd l0 0)] rfl zM ?_; (with_reducible refine (impl_fullSet.calls (rd l0 0) t629 _ A3.out).mono ?_); rintro e w' ⟨rfl, ⟨nd, rfl⟩⟩; refine ⟨_, rfl, ?_⟩) | ((with_reducible refine gate_callee (f := 58) rfl ?_); refine goesL_ (some 18) rfl rfl Try.func58 (by kernel_rfl) rfl #[.int .u64 (IntKind.u64.wrap (x6_1))] rfl zM ?_; (with_reducible refine (bits_OnesCount.calls (IntKind.u64.wrap (x6_1)) t630 _ A5.out).mono ?_); rintro e w' ⟨rfl, ⟨nd, rfl⟩⟩; refine ⟨_, rfl, ?_⟩) | (go_at_call 73; (with_reducible refine (impl_chi_isConvexSet.calls k1 _ l0 x6_1 false _ ?side1 ?side2 A7.out).mono ?_); (case side1 => repeat (first | exact (Kd.C_below HR0.out zB) | (with_reducible refine Kd.C_alloc ?_ _) | (with_reducible refine Kd.C_drewN ?_ _) | (with_reducible refine Kd.C_drew ?_))); (case side2 => exact HC0.out); rintro e w12 ⟨rfl, hb⟩; replace HO_5 := Aside0.mk (Kd.R_below (zR HO_5.out) hb); replace HB := Aside0.mk (below_step zB hb); (try clear hb); (try clear hb2); (try clear hk); (try clear hi)))
      go_roundg k1
      case measure => have := HK1.out; omega
      case rel => exact ⟨(x5_1), (wrap64 (x6_1 + 1)), zF, H', ⟨by have := HK1.out; omega⟩, ⟨zR HO_5.out⟩, ⟨zB⟩⟩
    ·rw [if_neg c6] at H
     have c6b0 : (t630 == a1) = false := beq_eq_false_iff_ne.mpr c6
     have c6b1 : (t630 != a1) = true := bne_iff_ne.mpr c6
     have H' := Aside0.mk H
     clear H
     have hL628 := HC0.out
     have dq628 : decide (0 < (l0.length : Int)) = true := decide_eq_true (by omega)
     clear hL628
     have p628 : 0 ≤ (0 : Int) := (by omega)
     have q628 : 0 < (l0.length : Int) := zA
     obtain ⟨ad628, e628, hx628_0⟩ := Kd.at_int HR0.out 0 p628 q628
     obtain rfl : (⟨g0, 0, none⟩ : Addr) = ad628 := (by injection e628)
     (first | simp only [add_plain] at hx628_0 | simp only [add_at] at hx628_0 | simp only [Addr.add, Nat.zero_add] at hx628_0 | skip)
     have qi628 : (0 < l0.length) = True := eq_true (by omega)
     (try rw [show ((0 : Int)).toNat = 0 from rfl] at hx628_0)
     (try rw [Addr.add_zero'] at hx628_0)
     replace hx628_0 := (HB.out.cell (World.block_lt_of_cell? w _ hx628_0)).trans hx628_0
     replace p628 := eq_true p628
     replace q628 := eq_true q628
     clear dq628
     go_wp2_with (first | ((with_reducible refine gate_callee (f := 48) rfl ?_); refine goesL_ (some 12) rfl rfl Try.func48 (by kernel_rfl) rfl #[.int .i64 (rd l0 0)] rfl zM ?_; (with_reducible refine (impl_fullSet.calls (rd l0 0) t629 _ A3.out).mono ?_); rintro e w' ⟨rfl, ⟨nd, rfl⟩⟩; refine ⟨_, rfl, ?_⟩) | ((with_reducible refine gate_callee (f := 58) rfl ?_); refine goesL_ (some 18) rfl rfl Try.func58 (by kernel_rfl) rfl #[.int .u64 (IntKind.u64.wrap (x6_1))] rfl zM ?_; (with_reducible refine (bits_OnesCount.calls (IntKind.u64.wrap (x6_1)) t630 _ A5.out).mono ?_); rintro e w' ⟨rfl, ⟨nd, rfl⟩⟩; refine ⟨_, rfl, ?_⟩))
     go_roundg k1
     case measure => have := HK1.out; omega
     case rel => exact ⟨(x5_1), (wrap64 (x6_1 + 1)), zF, H', ⟨by have := HK1.out; omega⟩, ⟨zR HO_5.out⟩, ⟨zB⟩⟩
   ·rw [if_neg c4] at H
    have c4b0 : decide (x6_1 ≤ t629) = false := decide_eq_false c4
    clear c4
    obtain rfl := Option.some.inj H
    have hL628 := HC0.out
    have dq628 : decide (0 < (l0.length : Int)) = true := decide_eq_true (by omega)
    clear hL628
    have p628 : 0 ≤ (0 : Int) := (by omega)
    have q628 : 0 < (l0.length : Int) := zA
    obtain ⟨ad628, e628, hx628_0⟩ := Kd.at_int HR0.out 0 p628 q628
    obtain rfl : (⟨g0, 0, none⟩ : Addr) = ad628 := (by injection e628)
    (first | simp only [add_plain] at hx628_0 | simp only [add_at] at hx628_0 | simp only [Addr.add, Nat.zero_add] at hx628_0 | skip)
    have qi628 : (0 < l0.length) = True := eq_true (by omega)
    (try rw [show ((0 : Int)).toNat = 0 from rfl] at hx628_0)
    (try rw [Addr.add_zero'] at hx628_0)
    replace hx628_0 := (HB.out.cell (World.block_lt_of_cell? w _ hx628_0)).trans hx628_0
    replace p628 := eq_true p628
    replace q628 := eq_true q628
    clear dq628
    go_wp2_with (first | ((with_reducible refine gate_callee (f := 48) rfl ?_); refine goesL_ (some 12) rfl rfl Try.func48 (by kernel_rfl) rfl #[.int .i64 (rd l0 0)] rfl zM ?_; (with_reducible refine (impl_fullSet.calls (rd l0 0) t629 _ A3.out).mono ?_); rintro e w' ⟨rfl, ⟨nd, rfl⟩⟩; refine ⟨_, rfl, ?_⟩))
    go_ret
    exact ⟨_, zE, zR HO_5.out, zB⟩
end Go.Proofs.Ytbjncemaeagjjaa.PX
namespace Go.Proofs.Ytbjncemaeagjjaa.M
open Go.RowKit Go.Proofs.YtbjncemaeagjjaaW.PrintWords Go.Proofs.Ytbjncemaeagjjaa.PX Go.Proofs.Ytbjncemaeagjjaa.G Go.Proofs.YtbjncemaeagjjaaW.PrintMore
/-- The sets of k elements that a test takes. -/
def pickQ (c : Nat → Bool) (k : Int) (s : Nat) : Bool := decide ((popN s : Int) = k) && c s
def pickL (n : Nat) (c : Nat → Bool) (k : Int) : List Int := ((List.range' 0 (2 ^ n)).filter (pickQ c k)).map fun (s : Nat) => (s : Int)
theorem pick_fold (n : Nat) (c : Nat → Bool) (k : Int) : (List.range' 0 (2 ^ n - 0)).foldlM (fun (u : List Int) s => (.ok (if pickQ c k s then u ++ [(s : Int)] else u) : Except (List Int) (List Int))) [] = .ok (pickL n c k) := by
  rw [foldlM_ok, foldl_filter, List.nil_append]
  rfl
theorem pickL_length {n : Nat} (hn : n ≤ 7) (c : Nat → Bool) (k : Int) : (pickL n c k).length ≤ 128 := by
  unfold pickL
  rw [List.length_map]
  refine Nat.le_trans (List.length_filter_le _ _) ?_
  rw [List.length_range']
  exact pow_128 hn
section
variable {n : Nat} {t : ByteArray} (h : areOk n t = true)
include h
theorem impl_convSets (q : Int) : Ev (fun k => impl_chi_convexSets.f k (tblL n t) q) (pickL n (convB n t) q) := by
  obtain ⟨⟨h0, h1⟩, _, _⟩ := (areOk_iff _ _).1 h
  have hp := pow_128 (show n ≤ 7 by omega)
  have hpos : 0 < 2 ^ n := Nat.pow_pos (by omega)
  unfold impl_chi_convexSets.f
  have key := loop_up' (σ := List Int) (ρ := List Int) (lo := 0) (n := 2 ^ n) (K := fun s _ => some s) (L := fun x s k => impl_chi_convexSets.l0 k (tblL n t) q s x) (fun x s => s.length ≤ x)
    (fun u s => .ok (if pickQ (convB n t) q s then u ++ [(s : Int)] else u)) (fun s _ => ?_) (fun x _ hx s hs => ?_) (fun x _ hx s hs s' e => ?_) (by omega) [] (Nat.le_refl _)
  · rw [pick_fold] at key
    exact key _ (Ev.now _)
  · refine Goes.step ?_
    simp only [impl_chi_convexSets.l0, tbl_n]
    exact Goes.call (fullSet_f (by omega)) (Goes.neg (by omega) (Goes.ok (K := fun s _ => some s) s))
  · refine Goes.step ?_
    simp only [impl_chi_convexSets.l0, tbl_n]
    rw [wrap_id (x := (x : Int) + 1) (by omega) (by omega)]
    refine Goes.call (fullSet_f (by omega)) (Goes.pos (by omega) (Goes.call (ones_f (by omega)) ?_))
    unfold pickQ
    by_cases g : (popN x : Int) = q
    · rw [decide_eq_true g, Bool.true_and]
      refine Goes.pos g (Goes.ev (impl_convSet h (by omega)) ?_)
      cases convB n t x with
      | true => exact Goes.pos rfl (Goes.pos (by omega) (Goes.ok (K := fun s k => impl_chi_convexSets.l0 k (tblL n t) q s ((x + 1 : Nat) : Int)) _))
      | false => exact Goes.neg (by decide) (Goes.ok (K := fun s k => impl_chi_convexSets.l0 k (tblL n t) q s ((x + 1 : Nat) : Int)) _)
    · rw [decide_eq_false g, Bool.false_and]
      exact Goes.neg g (Goes.ok (K := fun s k => impl_chi_convexSets.l0 k (tblL n t) q s ((x + 1 : Nat) : Int)) _)
  · cases e
    split
    · rw [List.length_append, List.length_singleton]; omega
    · omega
end
theorem spec_convSets {n : Nat} {t : ByteArray} (ho : acyOk n t = true) (hs : t.size ≤ 9223372036854775807) {q : Int} (q0 : 3 ≤ q) (q1 : q ≤ n) : Ev (fun k => spec_l8Sets.f k (n : Int) t q false) (pickL n (convB n t) q) := by
  obtain ⟨N, hN, h, h0, h1⟩ := acy_are ho
  obtain rfl : n = N := by omega
  have hp := pow_128 (show n ≤ 7 by omega)
  have hpos : 0 < 2 ^ n := Nat.pow_pos (by omega)
  have hA := spec_isA n t hs
  rw [ho] at hA
  unfold spec_l8Sets.f
  refine ev_call rfl (Ev.bind hA (ev_pos rfl (ev_call (spec_in _ _ _) (ev_step ?_))))
  simp only [spec_l8Sets.j0]
  rw [decide_eq_true q0, decide_eq_true q1]
  refine ev_neg (by decide) ?_
  have key := loop_up' (σ := List Int) (ρ := List Int) (lo := 0) (n := 2 ^ n) (K := fun s _ => some s) (L := fun x s k => spec_l8Sets.l0 k q false s x (n : Int) t) (fun x s => s.length ≤ x)
    (fun u s => .ok (if pickQ (convB n t) q s then u ++ [(s : Int)] else u)) (fun s _ => ?_) (fun x _ hx s hs => ?_) (fun x _ hx s hs s' e => ?_) (by omega) [] (Nat.le_refl _)
  · rw [pick_fold] at key
    exact key _ (Ev.now _)
  · refine Goes.step ?_
    simp only [spec_l8Sets.l0]
    rw [u64_id h1, shl_id h1]
    exact Goes.pos (by omega) (Goes.neg (by omega) (Goes.ok (K := fun s _ => some s) s))
  · refine Goes.step ?_
    simp only [spec_l8Sets.l0]
    rw [u64_id h1, shl_id h1, wrap_id (x := (x : Int) + 1) (by omega) (by omega)]
    refine Goes.pos (by omega) (Goes.pos (by omega) (Goes.ev (bits_ev (by omega)) ?_))
    unfold pickQ
    by_cases g : (popN x : Int) = q
    · rw [decide_eq_true g, Bool.true_and]
      refine Goes.pos g (Goes.ev (spec_convSet h (by omega)) ?_)
      cases convB n t x with
      | true => exact Goes.pos rfl (Goes.neg (by decide) (Goes.pos (by omega) (Goes.ok (K := fun s k => spec_l8Sets.l0 k q false s ((x + 1 : Nat) : Int) (n : Int) t) _)))
      | false => exact Goes.neg (by decide) (Goes.ok (K := fun s k => spec_l8Sets.l0 k q false s ((x + 1 : Nat) : Int) (n : Int) t) _)
    · rw [decide_eq_false g, Bool.false_and]
      exact Goes.neg g (Goes.ok (K := fun s k => spec_l8Sets.l0 k q false s ((x + 1 : Nat) : Int) (n : Int) t) _)
  · cases e
    split
    · rw [List.length_append, List.length_singleton]; omega
    · omega
end Go.Proofs.Ytbjncemaeagjjaa.M
