/- FnExactIsConvexSet returns true for all arguments and leaves them as they were. No condition. -/
import Derived.Test.YtgnghhelalablaaProg
import Derived.Test.YtgnghhelalablaaRows
import Derived.WalkKit
import Derived.ProofKit
import Derived.OpenShut
import Derived.ShutString
import Derived.ChangeOld
import Derived.Below
import Derived.SizedLaws
import Derived.Lib.SmallJoins
import Derived.ChangeSame
import Derived.Test.YtgnghhelalablaaV1
import Derived.Test.YtgnghhelalablaaBbxvvbi1
import Derived.Test.YtgnghhelalablaaBbxvvbi2
import Derived.Test.YtgnghhelalablaaBbxvvbi3
import Derived.Test.YtgnghhelalablaaBbxvvbi4
set_option linter.unusedVariables false
set_option linter.unusedSimpArgs false
namespace Go.Proofs.Ytgnghhelalablaa.PX
open Go.RowKit Go.Proofs.Ytgnghhelalablaa.G Go.Proofs.YtgnghhelalablaaW.PrintWords Go.Proofs.YtgnghhelalablaaW.PrintLast Go.Proofs.YtgnghhelalablaaW.PrintMore
attribute [local go_sem] max2_int min2_int max_two min_two max_three min_three max_four min_four   -- for this text's walks alone
set_option linter.unusedVariables false
set_option linter.unusedSimpArgs false
/-! ### spec_l7Bits: function 88 -/
def spec_l7Bits.l0 : Nat → Int → Int → Option (Int)
 | 0, _, _ => none
 | k + 1, x0, x3 => if x0 > 0 then (spec_l7Bits.l0 k (x0 / 2) (wrap64 (x3 + (Go.bits .and .i64 x0 1)))) else (some x3)
def spec_l7Bits.f (k : Nat) (a0 : Int) : Option (Int) := spec_l7Bits.l0 k a0 0
theorem spec_l7Bits.mono_l : ∀ k, (∀ y0 y1, LeO (spec_l7Bits.l0 k y0 y1) (spec_l7Bits.l0 (k + 1) y0 y1))
 | 0 => fun _ _ r h => by simp [spec_l7Bits.l0] at h
 | k + 1 => by
  have ih0 := spec_l7Bits.mono_l k
  ·intro y0 y1
   unfold spec_l7Bits.l0
   repeat' first
   | (with_reducible exact ih0 _ _)
   | (with_reducible exact LeO.refl _)
   | (with_reducible exact LeO.none _)
   | (with_reducible refine LeO.ite ?_ ?_)
   | (with_reducible refine LeO.bind ?_ (fun _ => ?_))
   | exact ih0 _ _
   | exact LeO.none _
   | refine LeO.ite ?_ ?_
   | refine LeO.bind ?_ (fun _ => ?_)
theorem spec_l7Bits.mono : ∀ a0 k, LeO (spec_l7Bits.f k a0) (spec_l7Bits.f (k + 1) a0) := by
 intro a0 k
 have ih0 := spec_l7Bits.mono_l k
 unfold spec_l7Bits.f
 repeat' first
   | (with_reducible exact ih0 _ _)
   | (with_reducible exact LeO.refl _)
   | (with_reducible exact LeO.none _)
   | (with_reducible refine LeO.ite ?_ ?_)
   | (with_reducible refine LeO.bind ?_ (fun _ => ?_))
   | exact ih0 _ _
   | exact LeO.none _
   | refine LeO.ite ?_ ?_
   | refine LeO.bind ?_ (fun _ => ?_)
set_option maxHeartbeats 8000000 in
set_option maxRecDepth 100000 in
theorem spec_l7Bits.calls (k : Nat) (a0 : Int) (r : Int) (w : World) (h : spec_l7Bits.f k a0 = some r) :
  Calls Try.prog 88 #[.int .i64 a0] w fun e w' => e = .returned (.int .i64 r) ∧ Drawn0 w w' := by
 have H : (spec_l7Bits.l0 k a0 0) = some r := h
 clear h
 have H' := Aside0.mk H
 clear H
 go_enter Try.func88, Try.ntmps88
 go_wp2
 go_loopg [0, 3] k (fun kq v0 v3 w' => ∃ (x0_1 : Int) (x3_1 : Int), v0 = .int .i64 x0_1 ∧ v3 = .int .i64 x3_1 ∧ Aside0 (spec_l7Bits.l0 kq x0_1 x3_1 = some r) ∧ Aside0 (kq ≤ k) ∧ Drawn0 w w')
 case atStart => exact ⟨(a0), (0), zF, zF, H', ⟨Nat.le_refl _⟩, by repeat (first | exact Drawn0.refl _ | apply Drawn0.step)⟩
 case round =>
  clear H'
  obtain ⟨x0_1, x3_1, rfl, rfl, HA, HK1, ⟨m1, rfl⟩⟩ := hrel
  cases gk with
  | zero => exact absurd HA.out (by simp [spec_l7Bits.l0])
  | succ k1 =>
   have H := HA.out
   clear HA
   simp only [spec_l7Bits.l0] at H
   by_cases c2 : x0_1 > 0
   ·rw [if_pos c2] at H
    have c2b0 : decide (0 < x0_1) = true := decide_eq_true c2
    clear c2
    have H' := Aside0.mk H
    clear H
    go_wp2
    go_roundg k1
    case measure => have := HK1.out; omega
    case rel => exact ⟨(x0_1 / 2), (wrap64 (x3_1 + (Go.bits .and .i64 x0_1 1))), zF, zF, H', ⟨by have := HK1.out; omega⟩, by repeat (first | exact Drawn0.refl _ | apply Drawn0.step)⟩
   ·rw [if_neg c2] at H
    have c2b0 : decide (0 < x0_1) = false := decide_eq_false c2
    clear c2
    obtain rfl := Option.some.inj H
    go_wp2
    go_ret
    exact ⟨by first | rfl | (simp; done) | (simp [*]; done), by repeat (first | exact Drawn0.refl _ | apply Drawn0.step)⟩
/-! ### spec_l8Convex: function 75 -/
def spec_l8Convex.f (k : Nat) (a0_0 : Int) (a0_1 : ByteArray) (a1 : Int) : Option (Bool) := (spec_l7Bits.f k a1).bind fun t590 => (if t590 ≥ 3 then ((spec_l6Extreme.f k a0_0 a0_1 a1).bind fun t591 => (some (t591 == a1))) else (some false))
theorem spec_l8Convex.mono : ∀ a0 a1 a2 k, LeO (spec_l8Convex.f k a0 a1 a2) (spec_l8Convex.f (k + 1) a0 a1 a2) := by
 intro a0 a1 a2 k
 unfold spec_l8Convex.f
 repeat' first
   | (with_reducible exact spec_l6Extreme.mono _ _ _ _)
   | (with_reducible exact spec_l7Bits.mono _ _)
   | (with_reducible exact LeO.refl _)
   | (with_reducible exact LeO.none _)
   | (with_reducible refine LeO.ite ?_ ?_)
   | (with_reducible refine LeO.bind ?_ (fun _ => ?_))
   | exact spec_l6Extreme.mono _ _ _ _
   | exact spec_l7Bits.mono _ _
   | exact LeO.none _
   | refine LeO.ite ?_ ?_
   | refine LeO.bind ?_ (fun _ => ?_)
set_option maxHeartbeats 8000000 in
set_option maxRecDepth 100000 in
theorem spec_l8Convex.calls (k : Nat) (a0_0 : Int) (a0_1 : ByteArray) (a1 : Int) (r : Bool) (w : World) (h : spec_l8Convex.f k a0_0 a0_1 a1 = some r) :
  Calls Try.prog 75 #[.agg #[.int .i64 a0_0, .string a0_1], .int .i64 a1] w fun e w' => e = .returned (.bool r) ∧ Below w.heap.size w w' := by
 have hu27 := Try.underlying27
 have HB := Aside0.mk (Below.refl w.heap.size w)
 have H : ((spec_l7Bits.f k a1).bind fun t590 => (if t590 ≥ 3 then ((spec_l6Extreme.f k a0_0 a0_1 a1).bind fun t591 => (some (t591 == a1))) else (some false))) = some r := h
 clear h
 replace H := Option.bind_eq_some_iff.mp H
 obtain ⟨t590, A30, H⟩ := H
 replace H : (if t590 ≥ 3 then ((spec_l6Extreme.f k a0_0 a0_1 a1).bind fun t591 => (some (t591 == a1))) else (some false)) = some r := H
 have A3 := Aside0.mk A30
 clear A30
 by_cases c4 : t590 ≥ 3
 ·rw [if_pos c4] at H
  have c4b0 : decide (3 ≤ t590) = true := decide_eq_true c4
  clear c4
  replace H := Option.bind_eq_some_iff.mp H
  obtain ⟨t591, A50, H⟩ := H
  replace H : (some (t591 == a1)) = some r := H
  have A5 := Aside0.mk A50
  clear A50
  obtain rfl := Option.some.inj H
  go_enter Try.func75, Try.ntmps75
  go_wp2_with (first | ((with_reducible refine gate_dst (N := 2) rfl ?_); refine box_event ?hg (N := 2) ?hd (cs := #[.int .i64 a0_0, .string a0_1]) (t := 27) ?hr ?_; (case hd => rfl); (case hg => rfl); (case hr => first | (go_simp; done) | (go_simp; rfl)); intro gb589 hg w6 hbox hb; have BK589 := Aside0.mk (hbox); have GW589 := Aside0.mk ((by rw [hg]; exact (below_size zB) : w.heap.size ≤ gb589)); have GE589 := Aside0.mk ((by rw [hg]; exact (below_size zB) : w.heap.size ≤ gb589)); replace HB := Aside0.mk (below_step zB hb); clear hb hbox hg) | ((with_reducible refine gate_callee (f := 88) rfl ?_); refine goesL_ (some 6) rfl rfl Try.func88 (by kernel_rfl) rfl #[.int .i64 a1] rfl zM ?_; (with_reducible refine (spec_l7Bits.calls k a1 t590 _ A3.out).mono ?_); rintro e w' ⟨rfl, ⟨nd, rfl⟩⟩; refine ⟨_, rfl, ?_⟩; have hcz7_0 : w6.cell? ⟨gb589, 0, none⟩ = some (.int .i64 a0_0) := (blk_cell BK589.out 0).trans rfl; have hcz7_1 : w6.cell? ⟨gb589, 1, none⟩ = some (.string a0_1) := (blk_cell BK589.out 1).trans rfl; have hfz7_0 := blk_frozen BK589.out 0; have hfz7_1 := blk_frozen BK589.out 1) | (go_at_call 73; (with_reducible refine (spec_l6Extreme.calls k a0_0 a0_1 a1 t591 _ A5.out).mono ?_); rintro e w8 ⟨rfl, hb⟩; replace BK589 := Aside0.mk (blk_below (g := gb589) (o := .cells #[.int .i64 a0_0, .string a0_1] 27 (0, 0)) (zK BK589.out) hb); replace HB := Aside0.mk (below_step (zG GE589.out) hb); (try clear hb); (try clear hb2); (try clear hk); (try clear hi)))
  go_ret
  exact ⟨zE, zG GE589.out⟩
 ·rw [if_neg c4] at H
  have c4b0 : decide (3 ≤ t590) = false := decide_eq_false c4
  clear c4
  obtain rfl := Option.some.inj H
  go_enter Try.func75, Try.ntmps75
  go_wp2_with (first | ((with_reducible refine gate_dst (N := 2) rfl ?_); refine box_event ?hg (N := 2) ?hd (cs := #[.int .i64 a0_0, .string a0_1]) (t := 27) ?hr ?_; (case hd => rfl); (case hg => rfl); (case hr => first | (go_simp; done) | (go_simp; rfl)); intro gb589 hg w9 hbox hb; have BK589 := Aside0.mk (hbox); have GW589 := Aside0.mk ((by rw [hg]; exact (below_size zB) : w.heap.size ≤ gb589)); have GE589 := Aside0.mk ((by rw [hg]; exact (below_size zB) : w.heap.size ≤ gb589)); replace HB := Aside0.mk (below_step zB hb); clear hb hbox hg) | ((with_reducible refine gate_callee (f := 88) rfl ?_); refine goesL_ (some 6) rfl rfl Try.func88 (by kernel_rfl) rfl #[.int .i64 a1] rfl zM ?_; (with_reducible refine (spec_l7Bits.calls k a1 t590 _ A3.out).mono ?_); rintro e w' ⟨rfl, ⟨nd, rfl⟩⟩; refine ⟨_, rfl, ?_⟩))
  go_ret
  exact ⟨zE, zG GE589.out⟩
/-! ### spec_IsConvexSet: function 42 -/
def spec_IsConvexSet.f (k : Nat) (a0_0 : Int) (a0_1 : ByteArray) (a1 : Int) : Option (Bool) := (spec_IsAcyclic.f k a0_0 a0_1).bind fun t593 => (if t593 = true then (if 0 ≤ (IntKind.u64.wrap (a0_0)) then ((spec_l1In.f a1 0 (wrap64 ((shl .i64 1 (IntKind.u64.wrap (a0_0))) - 1))).bind fun t594 => (if t594 = true then ((spec_l8Convex.f k a0_0 a0_1 a1).bind fun t595 => (some t595)) else (some false))) else (none)) else (some false))
theorem spec_IsConvexSet.mono : ∀ a0 a1 a2 k, LeO (spec_IsConvexSet.f k a0 a1 a2) (spec_IsConvexSet.f (k + 1) a0 a1 a2) := by
 intro a0 a1 a2 k
 unfold spec_IsConvexSet.f
 repeat' first
   | (with_reducible exact spec_IsAcyclic.mono _ _ _)
   | (with_reducible exact spec_l8Convex.mono _ _ _ _)
   | (with_reducible exact LeO.refl _)
   | (with_reducible exact LeO.none _)
   | (with_reducible refine LeO.ite ?_ ?_)
   | (with_reducible refine LeO.bind ?_ (fun _ => ?_))
   | exact spec_IsAcyclic.mono _ _ _
   | exact spec_l8Convex.mono _ _ _ _
   | exact LeO.none _
   | refine LeO.ite ?_ ?_
   | refine LeO.bind ?_ (fun _ => ?_)
set_option maxHeartbeats 8000000 in
set_option maxRecDepth 100000 in
theorem spec_IsConvexSet.calls (k : Nat) (a0_0 : Int) (a0_1 : ByteArray) (a1 : Int) (r : Bool) (w : World) (h : spec_IsConvexSet.f k a0_0 a0_1 a1 = some r) :
  Calls Try.prog 42 #[.agg #[.int .i64 a0_0, .string a0_1], .int .i64 a1] w fun e w' => e = .returned (.bool r) ∧ Below w.heap.size w w' := by
 have hu27 := Try.underlying27
 have HB := Aside0.mk (Below.refl w.heap.size w)
 have H : ((spec_IsAcyclic.f k a0_0 a0_1).bind fun t593 => (if t593 = true then (if 0 ≤ (IntKind.u64.wrap (a0_0)) then ((spec_l1In.f a1 0 (wrap64 ((shl .i64 1 (IntKind.u64.wrap (a0_0))) - 1))).bind fun t594 => (if t594 = true then ((spec_l8Convex.f k a0_0 a0_1 a1).bind fun t595 => (some t595)) else (some false))) else (none)) else (some false))) = some r := h
 clear h
 replace H := Option.bind_eq_some_iff.mp H
 obtain ⟨t593, A30, H⟩ := H
 replace H : (if t593 = true then (if 0 ≤ (IntKind.u64.wrap (a0_0)) then ((spec_l1In.f a1 0 (wrap64 ((shl .i64 1 (IntKind.u64.wrap (a0_0))) - 1))).bind fun t594 => (if t594 = true then ((spec_l8Convex.f k a0_0 a0_1 a1).bind fun t595 => (some t595)) else (some false))) else (none)) else (some false)) = some r := H
 have A3 := Aside0.mk A30
 clear A30
 by_cases c4 : t593 = true
 ·subst c4
  have H1 : (if 0 ≤ (IntKind.u64.wrap (a0_0)) then ((spec_l1In.f a1 0 (wrap64 ((shl .i64 1 (IntKind.u64.wrap (a0_0))) - 1))).bind fun t594 => (if t594 = true then ((spec_l8Convex.f k a0_0 a0_1 a1).bind fun t595 => (some t595)) else (some false))) else (none)) = some r := by rw [if_pos rfl] at H; exact H
  clear H
  have H := H1
  clear H1
  obtain ⟨ji5, hji5⟩ : ∃ j_ : Int, (IntKind.u64.wrap (a0_0)) = j_ := ⟨_, rfl⟩
  replace H : (if 0 ≤ (ji5) then ((spec_l1In.f a1 0 (wrap64 ((shl .i64 1 (ji5)) - 1))).bind fun t594 => (if t594 = true then ((spec_l8Convex.f k a0_0 a0_1 a1).bind fun t595 => (some t595)) else (some false))) else (none)) = some r := by first | (rw [hji5] at H; exact H) | (simp only [hji5] at H ⊢; exact H)
  (try rw [hji5] at A3)
  by_cases c6 : 0 ≤ (ji5)
  ·rw [if_pos c6] at H
   have c6b0 := eq_true c6
   have c6b1 : decide (0 ≤ (ji5)) = true := decide_eq_true c6
   clear c6
   obtain ⟨ji7, hji7⟩ : ∃ j_ : Int, (shl .i64 1 (ji5)) = j_ := ⟨_, rfl⟩
   replace H : ((spec_l1In.f a1 0 (wrap64 ((ji7) - 1))).bind fun t594 => (if t594 = true then ((spec_l8Convex.f k a0_0 a0_1 a1).bind fun t595 => (some t595)) else (some false))) = some r := by first | (rw [hji7] at H; exact H) | (simp only [hji7] at H ⊢; exact H)
   (try rw [hji7] at A3)
   have hji7_ : (IntKind.i64.wrap (1 * 2 ^ min (ji5).toNat 64)) = ji7 := hji7
   have hji7z : (ji5) ≤ 64 → (IntKind.i64.wrap (1 * 2 ^ (ji5).toNat)) = ji7 := shl_small hji7
   have hji7u : (IntKind.i64.wrap (2 ^ min (ji5).toNat 64)) = ji7 := by have h_ := hji7_; rw [Int.one_mul] at h_; exact h_
   have hji7v : (ji5) ≤ 64 → (IntKind.i64.wrap (2 ^ (ji5).toNat)) = ji7 := fun hle_ => by have h_ := hji7z hle_; rw [Int.one_mul] at h_; exact h_
   have hji7y : (wrap64 (1 * 2 ^ min (ji5).toNat 64)) = ji7 := (i64_w _).symm.trans hji7_
   have hji7x : (ji5) ≤ 64 → (wrap64 (1 * 2 ^ (ji5).toNat)) = ji7 := fun h_ => (i64_w _).symm.trans (hji7z h_)
   replace H := Option.bind_eq_some_iff.mp H
   obtain ⟨t594, A80, H⟩ := H
   replace H : (if t594 = true then ((spec_l8Convex.f k a0_0 a0_1 a1).bind fun t595 => (some t595)) else (some false)) = some r := H
   have A8 := Aside0.mk A80
   clear A80
   by_cases c9 : t594 = true
   ·subst c9
    have H1 : ((spec_l8Convex.f k a0_0 a0_1 a1).bind fun t595 => (some t595)) = some r := by rw [if_pos rfl] at H; exact H
    clear H
    have H := H1
    clear H1
    replace H := Option.bind_eq_some_iff.mp H
    obtain ⟨t595, A100, H⟩ := H
    replace H : (some t595) = some r := H
    have A10 := Aside0.mk A100
    clear A100
    obtain rfl := Option.some.inj H
    go_enter Try.func42, Try.ntmps42
    go_wp2_with (first | ((with_reducible refine gate_dst (N := 2) rfl ?_); refine box_event ?hg (N := 2) ?hd (cs := #[.int .i64 a0_0, .string a0_1]) (t := 27) ?hr ?_; (case hd => rfl); (case hg => rfl); (case hr => first | (go_simp; done) | (go_simp; rfl)); intro gb592 hg w11 hbox hb; have BK592 := Aside0.mk (hbox); have GW592 := Aside0.mk ((by rw [hg]; exact (below_size zB) : w.heap.size ≤ gb592)); have GE592 := Aside0.mk ((by rw [hg]; exact (below_size zB) : w.heap.size ≤ gb592)); replace HB := Aside0.mk (below_step zB hb); clear hb hbox hg; have hcz12_0 : w11.cell? ⟨gb592, 0, none⟩ = some (.int .i64 a0_0) := (blk_cell BK592.out 0).trans rfl; have hcz12_1 : w11.cell? ⟨gb592, 1, none⟩ = some (.string a0_1) := (blk_cell BK592.out 1).trans rfl; have hfz12_0 := blk_frozen BK592.out 0; have hfz12_1 := blk_frozen BK592.out 1) | ((with_reducible refine gate_callee (f := 44) rfl ?_); refine goesL_ (some 6) rfl rfl Try.func44 (by kernel_rfl) rfl #[.agg #[.int .i64 a0_0, .string a0_1]] rfl zM ?_; (with_reducible refine (spec_IsAcyclic.calls k a0_0 a0_1 true _ A3.out).mono ?_); rintro e w13 ⟨rfl, hb⟩; refine ⟨_, rfl, ?_⟩; replace BK592 := Aside0.mk (blk_below (g := gb592) (o := .cells #[.int .i64 a0_0, .string a0_1] 27 (0, 0)) (zK BK592.out) hb); replace HB := Aside0.mk (below_step (zG GE592.out) hb); (try clear hb); have hcz14_0 : w13.cell? ⟨gb592, 0, none⟩ = some (.int .i64 a0_0) := (blk_cell BK592.out 0).trans rfl; have hcz14_1 : w13.cell? ⟨gb592, 1, none⟩ = some (.string a0_1) := (blk_cell BK592.out 1).trans rfl; have hfz14_0 := blk_frozen BK592.out 0; have hfz14_1 := blk_frozen BK592.out 1) | (go_at_call 64; (with_reducible refine (spec_l1In.calls a1 0 (wrap64 ((ji7) - 1)) true _ A8.out).mono ?_); rintro e w' ⟨rfl, ⟨nd, rfl⟩⟩) | (go_at_call 75; (with_reducible refine (spec_l8Convex.calls k a0_0 a0_1 a1 t595 _ A10.out).mono ?_); rintro e w15 ⟨rfl, hb⟩; replace BK592 := Aside0.mk (blk_below (g := gb592) (o := .cells #[.int .i64 a0_0, .string a0_1] 27 (0, 0)) (zK BK592.out) hb); replace HB := Aside0.mk (below_step (zG GE592.out) hb); (try clear hb); (try clear hb2); (try clear hk); (try clear hi)))
    go_ret
    exact ⟨by first | rfl | (simp [errW_none, errW_some] <;> rfl) | (simp only [← hji5, ← hji7]; first | rfl | (simp [errW_none, errW_some] <;> rfl)) | (simp [*, errW_none, errW_some] <;> rfl), zG GE592.out⟩
   ·replace c9 := Bool.eq_false_iff.mpr c9
    subst c9
    have H1 : (some false) = some r := by rw [if_neg (show ¬ (false = true) by decide)] at H; exact H
    clear H
    have H := H1
    clear H1
    obtain rfl := Option.some.inj H
    go_enter Try.func42, Try.ntmps42
    go_wp2_with (first | ((with_reducible refine gate_dst (N := 2) rfl ?_); refine box_event ?hg (N := 2) ?hd (cs := #[.int .i64 a0_0, .string a0_1]) (t := 27) ?hr ?_; (case hd => rfl); (case hg => rfl); (case hr => first | (go_simp; done) | (go_simp; rfl)); intro gb592 hg w16 hbox hb; have BK592 := Aside0.mk (hbox); have GW592 := Aside0.mk ((by rw [hg]; exact (below_size zB) : w.heap.size ≤ gb592)); have GE592 := Aside0.mk ((by rw [hg]; exact (below_size zB) : w.heap.size ≤ gb592)); replace HB := Aside0.mk (below_step zB hb); clear hb hbox hg; have hcz17_0 : w16.cell? ⟨gb592, 0, none⟩ = some (.int .i64 a0_0) := (blk_cell BK592.out 0).trans rfl; have hcz17_1 : w16.cell? ⟨gb592, 1, none⟩ = some (.string a0_1) := (blk_cell BK592.out 1).trans rfl; have hfz17_0 := blk_frozen BK592.out 0; have hfz17_1 := blk_frozen BK592.out 1) | ((with_reducible refine gate_callee (f := 44) rfl ?_); refine goesL_ (some 6) rfl rfl Try.func44 (by kernel_rfl) rfl #[.agg #[.int .i64 a0_0, .string a0_1]] rfl zM ?_; (with_reducible refine (spec_IsAcyclic.calls k a0_0 a0_1 true _ A3.out).mono ?_); rintro e w18 ⟨rfl, hb⟩; refine ⟨_, rfl, ?_⟩; replace BK592 := Aside0.mk (blk_below (g := gb592) (o := .cells #[.int .i64 a0_0, .string a0_1] 27 (0, 0)) (zK BK592.out) hb); replace HB := Aside0.mk (below_step (zG GE592.out) hb); (try clear hb); have hcz19_0 : w18.cell? ⟨gb592, 0, none⟩ = some (.int .i64 a0_0) := (blk_cell BK592.out 0).trans rfl; have hcz19_1 : w18.cell? ⟨gb592, 1, none⟩ = some (.string a0_1) := (blk_cell BK592.out 1).trans rfl; have hfz19_0 := blk_frozen BK592.out 0; have hfz19_1 := blk_frozen BK592.out 1) | (go_at_call 64; (with_reducible refine (spec_l1In.calls a1 0 (wrap64 ((ji7) - 1)) false _ A8.out).mono ?_); rintro e w' ⟨rfl, ⟨nd, rfl⟩⟩))
    go_ret
    exact ⟨by first | rfl | (simp [errW_none, errW_some] <;> rfl) | (simp only [← hji5, ← hji7]; first | rfl | (simp [errW_none, errW_some] <;> rfl)) | (simp [*, errW_none, errW_some] <;> rfl), zG GE592.out⟩
  ·rw [if_neg c6] at H
   exact absurd H (by simp)
 ·replace c4 := Bool.eq_false_iff.mpr c4
  subst c4
  have H1 : (some false) = some r := by rw [if_neg (show ¬ (false = true) by decide)] at H; exact H
  clear H
  have H := H1
  clear H1
  obtain rfl := Option.some.inj H
  go_enter Try.func42, Try.ntmps42
  go_wp2_with (first | ((with_reducible refine gate_dst (N := 2) rfl ?_); refine box_event ?hg (N := 2) ?hd (cs := #[.int .i64 a0_0, .string a0_1]) (t := 27) ?hr ?_; (case hd => rfl); (case hg => rfl); (case hr => first | (go_simp; done) | (go_simp; rfl)); intro gb592 hg w20 hbox hb; have BK592 := Aside0.mk (hbox); have GW592 := Aside0.mk ((by rw [hg]; exact (below_size zB) : w.heap.size ≤ gb592)); have GE592 := Aside0.mk ((by rw [hg]; exact (below_size zB) : w.heap.size ≤ gb592)); replace HB := Aside0.mk (below_step zB hb); clear hb hbox hg; have hcz21_0 : w20.cell? ⟨gb592, 0, none⟩ = some (.int .i64 a0_0) := (blk_cell BK592.out 0).trans rfl; have hcz21_1 : w20.cell? ⟨gb592, 1, none⟩ = some (.string a0_1) := (blk_cell BK592.out 1).trans rfl; have hfz21_0 := blk_frozen BK592.out 0; have hfz21_1 := blk_frozen BK592.out 1) | ((with_reducible refine gate_callee (f := 44) rfl ?_); refine goesL_ (some 6) rfl rfl Try.func44 (by kernel_rfl) rfl #[.agg #[.int .i64 a0_0, .string a0_1]] rfl zM ?_; (with_reducible refine (spec_IsAcyclic.calls k a0_0 a0_1 false _ A3.out).mono ?_); rintro e w22 ⟨rfl, hb⟩; refine ⟨_, rfl, ?_⟩; replace BK592 := Aside0.mk (blk_below (g := gb592) (o := .cells #[.int .i64 a0_0, .string a0_1] 27 (0, 0)) (zK BK592.out) hb); replace HB := Aside0.mk (below_step (zG GE592.out) hb); (try clear hb)))
  go_ret
  exact ⟨zE, zG GE592.out⟩
/-! ### impl_chi_isConvexSet: function 76 -/
def impl_chi_isConvexSet.f (k : Nat) (l0 : List Int) (a1 : Int) : Option (Bool) := (bits_OnesCount.f (IntKind.u64.wrap (a1))).bind fun t596 => (if t596 ≥ 3 then ((impl_chi_extremeIn.f k l0 a1).bind fun t597 => (some (t597 == a1))) else (some false))
theorem impl_chi_isConvexSet.mono : ∀ a0 a1 k, LeO (impl_chi_isConvexSet.f k a0 a1) (impl_chi_isConvexSet.f (k + 1) a0 a1) := by
 intro a0 a1 k
 unfold impl_chi_isConvexSet.f
 repeat' first
   | (with_reducible exact impl_chi_extremeIn.mono _ _ _)
   | (with_reducible exact LeO.refl _)
   | (with_reducible exact LeO.none _)
   | (with_reducible refine LeO.ite ?_ ?_)
   | (with_reducible refine LeO.bind ?_ (fun _ => ?_))
   | exact impl_chi_extremeIn.mono _ _ _
   | exact LeO.none _
   | refine LeO.ite ?_ ?_
   | refine LeO.bind ?_ (fun _ => ?_)
set_option maxHeartbeats 8000000 in
set_option maxRecDepth 100000 in
theorem impl_chi_isConvexSet.calls (k : Nat) (g0 : Nat) (l0 : List Int) (a1 : Int) (r : Bool) (w : World) (hr0 : Kd.C (Kd.int .i64) w (some ⟨g0, 0, none⟩) l0.length l0) (hc0 : l0.length = 344) (h : impl_chi_isConvexSet.f k l0 a1 = some r) :
  Calls Try.prog 76 #[.pointer (some ⟨g0, 0, none⟩), .int .i64 a1] w fun e w' => e = .returned (.bool r) ∧ Below w.heap.size w w' := by
 have HR0 := Aside0.mk hr0
 have HC0 := Aside0.mk hc0
 clear hr0 hc0
 have HB := Aside0.mk (Below.refl w.heap.size w)
 have H : ((bits_OnesCount.f (IntKind.u64.wrap (a1))).bind fun t596 => (if t596 ≥ 3 then ((impl_chi_extremeIn.f k l0 a1).bind fun t597 => (some (t597 == a1))) else (some false))) = some r := h
 clear h
 replace H := Option.bind_eq_some_iff.mp H
 obtain ⟨t596, A30, H⟩ := H
 replace H : (if t596 ≥ 3 then ((impl_chi_extremeIn.f k l0 a1).bind fun t597 => (some (t597 == a1))) else (some false)) = some r := H
 have A3 := Aside0.mk A30
 clear A30
 by_cases c4 : t596 ≥ 3
 ·rw [if_pos c4] at H
  have c4b0 : decide (3 ≤ t596) = true := decide_eq_true c4
  clear c4
  replace H := Option.bind_eq_some_iff.mp H
  obtain ⟨t597, A50, H⟩ := H
  replace H : (some (t597 == a1)) = some r := H
  have A5 := Aside0.mk A50
  clear A50
  obtain rfl := Option.some.inj H
  go_enter Try.func76, Try.ntmps76
  go_wp2_with (first | ((with_reducible refine gate_callee (f := 74) rfl ?_); refine goesL_ (some 7) rfl rfl Try.func74 (by kernel_rfl) rfl #[.int .u64 (IntKind.u64.wrap (a1))] rfl zM ?_; (with_reducible refine (bits_OnesCount.calls (IntKind.u64.wrap (a1)) t596 _ A3.out).mono ?_); rintro e w' ⟨rfl, ⟨nd, rfl⟩⟩; refine ⟨_, rfl, ?_⟩) | (go_at_call 70; (with_reducible refine (impl_chi_extremeIn.calls k _ l0 a1 t597 _ ?side1 ?side2 A5.out).mono ?_); (case side1 => repeat (first | exact HR0.out | (with_reducible refine Kd.C_alloc ?_ _) | (with_reducible refine Kd.C_drewN ?_ _) | (with_reducible refine Kd.C_drew ?_))); (case side2 => exact HC0.out); rintro e w6 ⟨rfl, hb⟩; replace HB := Aside0.mk (below_step zB hb); (try clear hb); (try clear hb2); (try clear hk); (try clear hi)))
  go_ret
  exact ⟨zE, zB⟩
 ·rw [if_neg c4] at H
  have c4b0 : decide (3 ≤ t596) = false := decide_eq_false c4
  clear c4
  obtain rfl := Option.some.inj H
  go_enter Try.func76, Try.ntmps76
  go_wp2_with (first | ((with_reducible refine gate_callee (f := 74) rfl ?_); refine goesL_ (some 7) rfl rfl Try.func74 (by kernel_rfl) rfl #[.int .u64 (IntKind.u64.wrap (a1))] rfl zM ?_; (with_reducible refine (bits_OnesCount.calls (IntKind.u64.wrap (a1)) t596 _ A3.out).mono ?_); rintro e w' ⟨rfl, ⟨nd, rfl⟩⟩; refine ⟨_, rfl, ?_⟩))
  go_ret
  exact ⟨zE, zB⟩
/-! ### impl_IsConvexSet: function 43 -/
def impl_IsConvexSet.f (k : Nat) (a0_0 : Int) (a0_1 : ByteArray) (a1 : Int) : Option (Bool) := (impl_orderOf.f k a0_0 a0_1).bind fun bt599 => (if bt599.2 = true then ((impl_isSet.f a0_0 a1).bind fun t603 => (if t603 = true then (if bt599.1.length = 344 then ((impl_chi_isConvexSet.f k bt599.1 a1).bind fun t604 => (some t604)) else (none)) else (some false))) else (some false))
theorem impl_IsConvexSet.mono : ∀ a0 a1 a2 k, LeO (impl_IsConvexSet.f k a0 a1 a2) (impl_IsConvexSet.f (k + 1) a0 a1 a2) := by
 intro a0 a1 a2 k
 unfold impl_IsConvexSet.f
 repeat' first
   | (with_reducible exact impl_chi_isConvexSet.mono _ _ _)
   | (with_reducible exact impl_orderOf.mono _ _ _)
   | (with_reducible exact LeO.refl _)
   | (with_reducible exact LeO.none _)
   | (with_reducible refine LeO.ite ?_ ?_)
   | (with_reducible refine LeO.bind ?_ (fun _ => ?_))
   | exact impl_chi_isConvexSet.mono _ _ _
   | exact impl_orderOf.mono _ _ _
   | exact LeO.none _
   | refine LeO.ite ?_ ?_
   | refine LeO.bind ?_ (fun _ => ?_)
set_option maxHeartbeats 8000000 in
set_option maxRecDepth 100000 in
theorem impl_IsConvexSet.calls (k : Nat) (a0_0 : Int) (a0_1 : ByteArray) (a1 : Int) (r : Bool) (w : World) (h : impl_IsConvexSet.f k a0_0 a0_1 a1 = some r) :
  Calls Try.prog 43 #[.agg #[.int .i64 a0_0, .string a0_1], .int .i64 a1] w fun e w' => e = .returned (.bool r) ∧ Below w.heap.size w w' := by
 have hu27 := Try.underlying27
 have HB := Aside0.mk (Below.refl w.heap.size w)
 have H : ((impl_orderOf.f k a0_0 a0_1).bind fun bt599 => (if bt599.2 = true then ((impl_isSet.f a0_0 a1).bind fun t603 => (if t603 = true then (if bt599.1.length = 344 then ((impl_chi_isConvexSet.f k bt599.1 a1).bind fun t604 => (some t604)) else (none)) else (some false))) else (some false))) = some r := h
 clear h
 replace H := Option.bind_eq_some_iff.mp H
 obtain ⟨⟨t599, t602⟩, A30, H⟩ := H
 replace H : (if t602 = true then ((impl_isSet.f a0_0 a1).bind fun t603 => (if t603 = true then (if t599.length = 344 then ((impl_chi_isConvexSet.f k t599 a1).bind fun t604 => (some t604)) else (none)) else (some false))) else (some false)) = some r := H
 have A3 := Aside0.mk A30
 clear A30
 by_cases c4 : t602 = true
 ·subst c4
  have H1 : ((impl_isSet.f a0_0 a1).bind fun t603 => (if t603 = true then (if t599.length = 344 then ((impl_chi_isConvexSet.f k t599 a1).bind fun t604 => (some t604)) else (none)) else (some false))) = some r := by rw [if_pos rfl] at H; exact H
  clear H
  have H := H1
  clear H1
  replace H := Option.bind_eq_some_iff.mp H
  obtain ⟨t603, A50, H⟩ := H
  replace H : (if t603 = true then (if t599.length = 344 then ((impl_chi_isConvexSet.f k t599 a1).bind fun t604 => (some t604)) else (none)) else (some false)) = some r := H
  have A5 := Aside0.mk A50
  clear A50
  by_cases c6 : t603 = true
  ·subst c6
   have H1 : (if t599.length = 344 then ((impl_chi_isConvexSet.f k t599 a1).bind fun t604 => (some t604)) else (none)) = some r := by rw [if_pos rfl] at H; exact H
   clear H
   have H := H1
   clear H1
   by_cases c7 : t599.length = 344
   ·rw [if_pos c7] at H
    have c7b0 := eq_true c7
    have c7b1 : decide (t599.length = 344) = true := decide_eq_true c7
    clear c7
    replace H := Option.bind_eq_some_iff.mp H
    obtain ⟨t604, A80, H⟩ := H
    replace H : (some t604) = some r := H
    have A8 := Aside0.mk A80
    clear A80
    obtain rfl := Option.some.inj H
    go_enter Try.func43, Try.ntmps43
    go_wp2_with (first | ((with_reducible refine gate_dst (N := 2) rfl ?_); refine box_event ?hg (N := 2) ?hd (cs := #[.int .i64 a0_0, .string a0_1]) (t := 27) ?hr ?_; (case hd => rfl); (case hg => rfl); (case hr => first | (go_simp; done) | (go_simp; rfl)); intro gb598 hg w9 hbox hb; have BK598 := Aside0.mk (hbox); have GW598 := Aside0.mk ((by rw [hg]; exact (below_size zB) : w.heap.size ≤ gb598)); have GE598 := Aside0.mk ((by rw [hg]; exact (below_size zB) : w.heap.size ≤ gb598)); replace HB := Aside0.mk (below_step zB hb); clear hb hbox hg; have hcz10_0 : w9.cell? ⟨gb598, 0, none⟩ = some (.int .i64 a0_0) := (blk_cell BK598.out 0).trans rfl; have hcz10_1 : w9.cell? ⟨gb598, 1, none⟩ = some (.string a0_1) := (blk_cell BK598.out 1).trans rfl; have hfz10_0 := blk_frozen BK598.out 0; have hfz10_1 := blk_frozen BK598.out 1) | ((with_reducible refine gate_callee (f := 47) rfl ?_); refine goesL_ (some 9) rfl rfl Try.func47 (by kernel_rfl) rfl #[.agg #[.int .i64 a0_0, .string a0_1]] rfl zM ?_; (with_reducible refine (impl_orderOf.calls k a0_0 a0_1 t599 true _ A3.out).mono ?_); rintro e w11 ⟨v600, rfl, ho0, hb⟩; refine ⟨_, rfl, ?_⟩; have HO601 := Aside0.mk (Kd.R_lower ho0 (below_size (zG GE598.out))); replace BK598 := Aside0.mk (blk_below (g := gb598) (o := .cells #[.int .i64 a0_0, .string a0_1] 27 (0, 0)) (zK BK598.out) hb); replace HB := Aside0.mk (below_step (zG GE598.out) hb); (try clear hb); (try clear ho0); have hcz12_0 : w11.cell? ⟨gb598, 0, none⟩ = some (.int .i64 a0_0) := (blk_cell BK598.out 0).trans rfl; have hcz12_1 : w11.cell? ⟨gb598, 1, none⟩ = some (.string a0_1) := (blk_cell BK598.out 1).trans rfl; have hfz12_0 := blk_frozen BK598.out 0; have hfz12_1 := blk_frozen BK598.out 1) | (go_at_call 67; (with_reducible refine (impl_isSet.calls a0_0 a1 true _ A5.out).mono ?_); rintro e w' ⟨rfl, ⟨nd, rfl⟩⟩; obtain ⟨go13, co13, eo13, gb13, gl13, cl13, HG13⟩ := Kd.R_form HO601.out (by have hl_ := Nat.le_of_eq (Eq.symm (zA : t599.length = 344)); omega); (first | cases eo13 | (injection eo13 with ea_ en_ ec_; (first | subst ea_ | (injection ea_ with ea_; subst ea_)); subst ec_; clear en_)); have GB13 := Aside0.mk gb13; have GG13 := Aside0.mk HG13; clear gb13 gl13 HG13) | (go_at_call 76; (with_reducible refine (impl_chi_isConvexSet.calls k _ t599 a1 t604 _ ?side1 ?side2 A8.out).mono ?_); (case side1 => repeat (first | exact (Kd.R_reads' HO601.out).2.2 | (with_reducible refine Kd.C_alloc ?_ _) | (with_reducible refine Kd.C_drewN ?_ _) | (with_reducible refine Kd.C_drew ?_))); (case side2 => exact (zA : t599.length = 344)); rintro e w14 ⟨rfl, hb⟩; replace HO601 := Aside0.mk (Kd.R_below (zR HO601.out) hb); replace BK598 := Aside0.mk (blk_below (g := gb598) (o := .cells #[.int .i64 a0_0, .string a0_1] 27 (0, 0)) (zK BK598.out) hb); replace HB := Aside0.mk (below_step (zG GE598.out) hb); (try clear hb); (try clear hb2); (try clear hk); (try clear hi)))
    go_ret
    exact ⟨zE, zG GE598.out⟩
   ·rw [if_neg c7] at H
    exact absurd H (by simp)
  ·replace c6 := Bool.eq_false_iff.mpr c6
   subst c6
   have H1 : (some false) = some r := by rw [if_neg (show ¬ (false = true) by decide)] at H; exact H
   clear H
   have H := H1
   clear H1
   obtain rfl := Option.some.inj H
   go_enter Try.func43, Try.ntmps43
   go_wp2_with (first | ((with_reducible refine gate_dst (N := 2) rfl ?_); refine box_event ?hg (N := 2) ?hd (cs := #[.int .i64 a0_0, .string a0_1]) (t := 27) ?hr ?_; (case hd => rfl); (case hg => rfl); (case hr => first | (go_simp; done) | (go_simp; rfl)); intro gb598 hg w15 hbox hb; have BK598 := Aside0.mk (hbox); have GW598 := Aside0.mk ((by rw [hg]; exact (below_size zB) : w.heap.size ≤ gb598)); have GE598 := Aside0.mk ((by rw [hg]; exact (below_size zB) : w.heap.size ≤ gb598)); replace HB := Aside0.mk (below_step zB hb); clear hb hbox hg; have hcz16_0 : w15.cell? ⟨gb598, 0, none⟩ = some (.int .i64 a0_0) := (blk_cell BK598.out 0).trans rfl; have hcz16_1 : w15.cell? ⟨gb598, 1, none⟩ = some (.string a0_1) := (blk_cell BK598.out 1).trans rfl; have hfz16_0 := blk_frozen BK598.out 0; have hfz16_1 := blk_frozen BK598.out 1) | ((with_reducible refine gate_callee (f := 47) rfl ?_); refine goesL_ (some 9) rfl rfl Try.func47 (by kernel_rfl) rfl #[.agg #[.int .i64 a0_0, .string a0_1]] rfl zM ?_; (with_reducible refine (impl_orderOf.calls k a0_0 a0_1 t599 true _ A3.out).mono ?_); rintro e w17 ⟨v600, rfl, ho0, hb⟩; refine ⟨_, rfl, ?_⟩; have HO601 := Aside0.mk (Kd.R_lower ho0 (below_size (zG GE598.out))); replace BK598 := Aside0.mk (blk_below (g := gb598) (o := .cells #[.int .i64 a0_0, .string a0_1] 27 (0, 0)) (zK BK598.out) hb); replace HB := Aside0.mk (below_step (zG GE598.out) hb); (try clear hb); (try clear ho0); have hcz18_0 : w17.cell? ⟨gb598, 0, none⟩ = some (.int .i64 a0_0) := (blk_cell BK598.out 0).trans rfl; have hcz18_1 : w17.cell? ⟨gb598, 1, none⟩ = some (.string a0_1) := (blk_cell BK598.out 1).trans rfl; have hfz18_0 := blk_frozen BK598.out 0; have hfz18_1 := blk_frozen BK598.out 1) | (go_at_call 67; (with_reducible refine (impl_isSet.calls a0_0 a1 false _ A5.out).mono ?_); rintro e w' ⟨rfl, ⟨nd, rfl⟩⟩))
   go_ret
   exact ⟨zE, zG GE598.out⟩
 ·replace c4 := Bool.eq_false_iff.mpr c4
  subst c4
  have H1 : (some false) = some r := by rw [if_neg (show ¬ (false = true) by decide)] at H; exact H
  clear H
  have H := H1
  clear H1
  obtain rfl := Option.some.inj H
  go_enter Try.func43, Try.ntmps43
  go_wp2_with (first | ((with_reducible refine gate_dst (N := 2) rfl ?_); refine box_event ?hg (N := 2) ?hd (cs := #[.int .i64 a0_0, .string a0_1]) (t := 27) ?hr ?_; (case hd => rfl); (case hg => rfl); (case hr => first | (go_simp; done) | (go_simp; rfl)); intro gb598 hg w19 hbox hb; have BK598 := Aside0.mk (hbox); have GW598 := Aside0.mk ((by rw [hg]; exact (below_size zB) : w.heap.size ≤ gb598)); have GE598 := Aside0.mk ((by rw [hg]; exact (below_size zB) : w.heap.size ≤ gb598)); replace HB := Aside0.mk (below_step zB hb); clear hb hbox hg; have hcz20_0 : w19.cell? ⟨gb598, 0, none⟩ = some (.int .i64 a0_0) := (blk_cell BK598.out 0).trans rfl; have hcz20_1 : w19.cell? ⟨gb598, 1, none⟩ = some (.string a0_1) := (blk_cell BK598.out 1).trans rfl; have hfz20_0 := blk_frozen BK598.out 0; have hfz20_1 := blk_frozen BK598.out 1) | ((with_reducible refine gate_callee (f := 47) rfl ?_); refine goesL_ (some 9) rfl rfl Try.func47 (by kernel_rfl) rfl #[.agg #[.int .i64 a0_0, .string a0_1]] rfl zM ?_; (with_reducible refine (impl_orderOf.calls k a0_0 a0_1 t599 false _ A3.out).mono ?_); rintro e w21 ⟨v600, rfl, ho0, hb⟩; refine ⟨_, rfl, ?_⟩; have HO601 := Aside0.mk (Kd.R_lower ho0 (below_size (zG GE598.out))); replace BK598 := Aside0.mk (blk_below (g := gb598) (o := .cells #[.int .i64 a0_0, .string a0_1] 27 (0, 0)) (zK BK598.out) hb); replace HB := Aside0.mk (below_step (zG GE598.out) hb); (try clear hb); (try clear ho0)))
  go_ret
  exact ⟨zE, zG GE598.out⟩
/-! ### laws_FnExactIsConvexSet: function 14 -/
def laws_FnExactIsConvexSet.f (k : Nat) (a0_0 : Int) (a0_1 : ByteArray) (a1 : Int) : Option (Bool) := (laws_szSigns.f a0_0 a0_1 1048576).bind fun t606 => (if t606 < 0 then (some true) else ((laws_toSigns.f a0_0 a0_1).bind fun bt607 => ((spec_IsConvexSet.f k bt607.1 bt607.2 a1).bind fun t609 => ((laws_toSigns.f a0_0 a0_1).bind fun bt610 => ((impl_IsConvexSet.f k bt610.1 bt610.2 a1).bind fun t612 => (if (t612 != t609) = true then (some false) else (some true)))))))
theorem laws_FnExactIsConvexSet.mono : ∀ a0 a1 a2 k, LeO (laws_FnExactIsConvexSet.f k a0 a1 a2) (laws_FnExactIsConvexSet.f (k + 1) a0 a1 a2) := by
 intro a0 a1 a2 k
 unfold laws_FnExactIsConvexSet.f
 repeat' first
   | (with_reducible exact impl_IsConvexSet.mono _ _ _ _)
   | (with_reducible exact spec_IsConvexSet.mono _ _ _ _)
   | (with_reducible exact LeO.refl _)
   | (with_reducible exact LeO.none _)
   | (with_reducible refine LeO.ite ?_ ?_)
   | (with_reducible refine LeO.bind ?_ (fun _ => ?_))
   | exact impl_IsConvexSet.mono _ _ _ _
   | exact spec_IsConvexSet.mono _ _ _ _
   | exact LeO.none _
   | refine LeO.ite ?_ ?_
   | refine LeO.bind ?_ (fun _ => ?_)
set_option maxHeartbeats 8000000 in
set_option maxRecDepth 100000 in
theorem laws_FnExactIsConvexSet.calls (k : Nat) (a0_0 : Int) (a0_1 : ByteArray) (a1 : Int) (r : Bool) (w : World) (h : laws_FnExactIsConvexSet.f k a0_0 a0_1 a1 = some r) (hr_ : r = true) :
  Calls Try.prog 14 #[.agg #[.int .i64 a0_0, .string a0_1], .int .i64 a1] w fun e w' => e = .returned (.bool r) ∧ Below w.heap.size w w' := by
 have hu23 := Try.underlying23
 have HB := Aside0.mk (Below.refl w.heap.size w)
 have H : ((laws_szSigns.f a0_0 a0_1 1048576).bind fun t606 => (if t606 < 0 then (some true) else ((laws_toSigns.f a0_0 a0_1).bind fun bt607 => ((spec_IsConvexSet.f k bt607.1 bt607.2 a1).bind fun t609 => ((laws_toSigns.f a0_0 a0_1).bind fun bt610 => ((impl_IsConvexSet.f k bt610.1 bt610.2 a1).bind fun t612 => (if (t612 != t609) = true then (some false) else (some true)))))))) = some r := h
 clear h
 replace H := Option.bind_eq_some_iff.mp H
 obtain ⟨t606, A30, H⟩ := H
 replace H : (if t606 < 0 then (some true) else ((laws_toSigns.f a0_0 a0_1).bind fun bt607 => ((spec_IsConvexSet.f k bt607.1 bt607.2 a1).bind fun t609 => ((laws_toSigns.f a0_0 a0_1).bind fun bt610 => ((impl_IsConvexSet.f k bt610.1 bt610.2 a1).bind fun t612 => (if (t612 != t609) = true then (some false) else (some true))))))) = some r := H
 have A3 := Aside0.mk A30
 clear A30
 by_cases c4 : t606 < 0
 ·rw [if_pos c4] at H
  have c4b0 : decide (t606 < 0) = true := decide_eq_true c4
  clear c4
  obtain rfl := Option.some.inj H
  go_enter Try.func14, Try.ntmps14
  go_wp2_with (first | ((with_reducible refine gate_dst (N := 2) rfl ?_); refine box_event ?hg (N := 2) ?hd (cs := #[.int .i64 a0_0, .string a0_1]) (t := 23) ?hr ?_; (case hd => rfl); (case hg => rfl); (case hr => first | (go_simp; done) | (go_simp; rfl)); intro gb605 hg w5 hbox hb; have BK605 := Aside0.mk (hbox); have GW605 := Aside0.mk ((by rw [hg]; exact (below_size zB) : w.heap.size ≤ gb605)); have GE605 := Aside0.mk ((by rw [hg]; exact (below_size zB) : w.heap.size ≤ gb605)); replace HB := Aside0.mk (below_step zB hb); clear hb hbox hg; have hcz6_0 : w5.cell? ⟨gb605, 0, none⟩ = some (.int .i64 a0_0) := (blk_cell BK605.out 0).trans rfl; have hcz6_1 : w5.cell? ⟨gb605, 1, none⟩ = some (.string a0_1) := (blk_cell BK605.out 1).trans rfl; have hfz6_0 := blk_frozen BK605.out 0; have hfz6_1 := blk_frozen BK605.out 1) | ((with_reducible refine gate_callee (f := 15) rfl ?_); refine goesL_ (some 10) rfl rfl Try.func15 (by kernel_rfl) rfl #[.agg #[.int .i64 a0_0, .string a0_1], .int .i64 1048576] rfl zM ?_; (with_reducible refine (laws_szSigns.calls a0_0 a0_1 1048576 t606 _ A3.out).mono ?_); rintro e w7 ⟨rfl, hb⟩; refine ⟨_, rfl, ?_⟩; replace BK605 := Aside0.mk (blk_below (g := gb605) (o := .cells #[.int .i64 a0_0, .string a0_1] 23 (0, 0)) (zK BK605.out) hb); replace HB := Aside0.mk (below_step (zG GE605.out) hb); (try clear hb)))
  go_ret
  exact ⟨zE, zG GE605.out⟩
 ·rw [if_neg c4] at H
  have c4b0 : decide (t606 < 0) = false := decide_eq_false c4
  clear c4
  replace H := Option.bind_eq_some_iff.mp H
  obtain ⟨⟨t607, t608⟩, A80, H⟩ := H
  replace H : ((spec_IsConvexSet.f k t607 t608 a1).bind fun t609 => ((laws_toSigns.f a0_0 a0_1).bind fun bt610 => ((impl_IsConvexSet.f k bt610.1 bt610.2 a1).bind fun t612 => (if (t612 != t609) = true then (some false) else (some true))))) = some r := H
  have A8 := Aside0.mk A80
  clear A80
  replace H := Option.bind_eq_some_iff.mp H
  obtain ⟨t609, A90, H⟩ := H
  replace H : ((laws_toSigns.f a0_0 a0_1).bind fun bt610 => ((impl_IsConvexSet.f k bt610.1 bt610.2 a1).bind fun t612 => (if (t612 != t609) = true then (some false) else (some true)))) = some r := H
  have A9 := Aside0.mk A90
  clear A90
  replace H := Option.bind_eq_some_iff.mp H
  obtain ⟨⟨t610, t611⟩, A100, H⟩ := H
  replace H : ((impl_IsConvexSet.f k t610 t611 a1).bind fun t612 => (if (t612 != t609) = true then (some false) else (some true))) = some r := H
  have A10 := Aside0.mk A100
  clear A100
  replace H := Option.bind_eq_some_iff.mp H
  obtain ⟨t612, A110, H⟩ := H
  replace H : (if (t612 != t609) = true then (some false) else (some true)) = some r := H
  have A11 := Aside0.mk A110
  clear A110
  by_cases c12 : (t612 != t609) = true
  ·rw [if_pos c12] at H
   have c12b0 : (t612 != t609) = true := c12
   (try (have c12b1 : decide (t612 = t609) = false := by simpa using c12))
   (try (have c12b2 : (t612 == t609) = false := by simpa using c12))
   (try (have c12b3 : ¬ (t612 = t609) := by simpa using c12))
   clear c12
   obtain rfl := Option.some.inj H
   cases hr_
  ·rw [if_neg c12] at H
   have c12b0 : (t612 != t609) = false := by simpa using c12
   (try (have c12b1 : decide (t612 = t609) = true := by simpa using c12))
   (try (have c12b2 : (t612 == t609) = true := by simpa using c12))
   clear c12
   obtain rfl := Option.some.inj H
   go_enter Try.func14, Try.ntmps14
   go_wp2_with (first | ((with_reducible refine gate_dst (N := 2) rfl ?_); refine box_event ?hg (N := 2) ?hd (cs := #[.int .i64 a0_0, .string a0_1]) (t := 23) ?hr ?_; (case hd => rfl); (case hg => rfl); (case hr => first | (go_simp; done) | (go_simp; rfl)); intro gb605 hg w22 hbox hb; have BK605 := Aside0.mk (hbox); have GW605 := Aside0.mk ((by rw [hg]; exact (below_size zB) : w.heap.size ≤ gb605)); have GE605 := Aside0.mk ((by rw [hg]; exact (below_size zB) : w.heap.size ≤ gb605)); replace HB := Aside0.mk (below_step zB hb); clear hb hbox hg; have hcz23_0 : w22.cell? ⟨gb605, 0, none⟩ = some (.int .i64 a0_0) := (blk_cell BK605.out 0).trans rfl; have hcz23_1 : w22.cell? ⟨gb605, 1, none⟩ = some (.string a0_1) := (blk_cell BK605.out 1).trans rfl; have hfz23_0 := blk_frozen BK605.out 0; have hfz23_1 := blk_frozen BK605.out 1) | ((with_reducible refine gate_callee (f := 15) rfl ?_); refine goesL_ (some 10) rfl rfl Try.func15 (by kernel_rfl) rfl #[.agg #[.int .i64 a0_0, .string a0_1], .int .i64 1048576] rfl zM ?_; (with_reducible refine (laws_szSigns.calls a0_0 a0_1 1048576 t606 _ A3.out).mono ?_); rintro e w24 ⟨rfl, hb⟩; refine ⟨_, rfl, ?_⟩; replace BK605 := Aside0.mk (blk_below (g := gb605) (o := .cells #[.int .i64 a0_0, .string a0_1] 23 (0, 0)) (zK BK605.out) hb); replace HB := Aside0.mk (below_step (zG GE605.out) hb); (try clear hb); have hcz25_0 : w24.cell? ⟨gb605, 0, none⟩ = some (.int .i64 a0_0) := (blk_cell BK605.out 0).trans rfl; have hcz25_1 : w24.cell? ⟨gb605, 1, none⟩ = some (.string a0_1) := (blk_cell BK605.out 1).trans rfl; have hfz25_0 := blk_frozen BK605.out 0; have hfz25_1 := blk_frozen BK605.out 1) | ((with_reducible refine gate_callee (f := 17) rfl ?_); refine goesL_ (some 14) rfl rfl Try.func17 (by kernel_rfl) rfl #[.agg #[.int .i64 a0_0, .string a0_1]] rfl zM ?_; (with_reducible refine (laws_toSigns.calls a0_0 a0_1 t607 t608 _ A8.out).mono ?_); rintro e w26 ⟨rfl, hb⟩; refine ⟨_, rfl, ?_⟩; replace BK605 := Aside0.mk (blk_below (g := gb605) (o := .cells #[.int .i64 a0_0, .string a0_1] 23 (0, 0)) (zK BK605.out) hb); replace HB := Aside0.mk (below_step (zG GE605.out) hb); (try clear hb)) | ((with_reducible refine gate_callee (f := 42) rfl ?_); refine goesL_ (some 16) rfl rfl Try.func42 (by kernel_rfl) rfl #[.agg #[.int .i64 t607, .string t608], .int .i64 a1] rfl zM ?_; (with_reducible refine (spec_IsConvexSet.calls k t607 t608 a1 t609 _ A9.out).mono ?_); rintro e w27 ⟨rfl, hb⟩; refine ⟨_, rfl, ?_⟩; replace BK605 := Aside0.mk (blk_below (g := gb605) (o := .cells #[.int .i64 a0_0, .string a0_1] 23 (0, 0)) (zK BK605.out) hb); replace HB := Aside0.mk (below_step (zG GE605.out) hb); (try clear hb); have hcz28_0 : w27.cell? ⟨gb605, 0, none⟩ = some (.int .i64 a0_0) := (blk_cell BK605.out 0).trans rfl; have hcz28_1 : w27.cell? ⟨gb605, 1, none⟩ = some (.string a0_1) := (blk_cell BK605.out 1).trans rfl; have hfz28_0 := blk_frozen BK605.out 0; have hfz28_1 := blk_frozen BK605.out 1) | ((with_reducible refine gate_callee (f := 17) rfl ?_); refine goesL_ (some 18) rfl rfl Try.func17 (by kernel_rfl) rfl #[.agg #[.int .i64 a0_0, .string a0_1]] rfl zM ?_; (with_reducible refine (laws_toSigns.calls a0_0 a0_1 t610 t611 _ A10.out).mono ?_); rintro e w29 ⟨rfl, hb⟩; refine ⟨_, rfl, ?_⟩; replace BK605 := Aside0.mk (blk_below (g := gb605) (o := .cells #[.int .i64 a0_0, .string a0_1] 23 (0, 0)) (zK BK605.out) hb); replace HB := Aside0.mk (below_step (zG GE605.out) hb); (try clear hb)) | ((with_reducible refine gate_callee (f := 43) rfl ?_); refine goesL_ (some 20) rfl rfl Try.func43 (by kernel_rfl) rfl #[.agg #[.int .i64 t610, .string t611], .int .i64 a1] rfl zM ?_; (with_reducible refine (impl_IsConvexSet.calls k t610 t611 a1 t612 _ A11.out).mono ?_); rintro e w30 ⟨rfl, hb⟩; refine ⟨_, rfl, ?_⟩; replace BK605 := Aside0.mk (blk_below (g := gb605) (o := .cells #[.int .i64 a0_0, .string a0_1] 23 (0, 0)) (zK BK605.out) hb); replace HB := Aside0.mk (below_step (zG GE605.out) hb); (try clear hb)))
   go_ret
   exact ⟨zE, zG GE605.out⟩
end Go.Proofs.Ytgnghhelalablaa.PX
namespace Go.Proofs.Ytgnghhelalablaa.M
open Go.RowKit Go.Proofs.YtgnghhelalablaaW.PrintWords Go.Proofs.Ytgnghhelalablaa.PX Go.Proofs.Ytgnghhelalablaa.G Go.Proofs.YtgnghhelalablaaW.PrintMore
def bitsChk : Bool := (List.range 128).all fun s => decide (spec_l7Bits.f 20 (s : Int) = some (popN s : Int))
theorem bitsChk_ok : bitsChk = true := by decide +kernel
theorem bits_ev {s : Nat} (hs : s < 128) : Ev (fun k => spec_l7Bits.f k (s : Int)) (popN s : Int) := Ev.of (spec_l7Bits.mono _) (of_decide_eq_true (List.all_eq_true.1 bitsChk_ok s (List.mem_range.2 hs)))
end Go.Proofs.Ytgnghhelalablaa.M
namespace Go.Proofs.Ytgnghhelalablaa.M
open Go.RowKit Go.Proofs.YtgnghhelalablaaW.PrintWords Go.Proofs.Ytgnghhelalablaa.PX Go.Proofs.Ytgnghhelalablaa.G Go.Proofs.YtgnghhelalablaaW.PrintMore
/-- Is a set of three elements or more convex? -/
def convB (n : Nat) (t : ByteArray) (s : Nat) : Bool := decide (3 ≤ popN s) && (extN n t s == s)
section
variable {n : Nat} {t : ByteArray} (h : areOk n t = true)
include h
theorem impl_convSet {s : Nat} (hs : s < 128) : Ev (fun k => impl_chi_isConvexSet.f k (tblL n t) (s : Int)) (convB n t s) := by
  unfold impl_chi_isConvexSet.f convB
  refine ev_call (ones_f hs) ?_
  by_cases g : 3 ≤ popN s
  · rw [decide_eq_true g, Bool.true_and]
    refine ev_pos (by omega) (Ev.bind (impl_ext h hs) (ev_cast (Ev.now _) ?_))
    rw [Bool.eq_iff_iff, beq_iff_eq, beq_iff_eq]
    omega
  · rw [decide_eq_false g, Bool.false_and]
    exact ev_neg (by omega) (Ev.now _)
theorem spec_convSet {s : Nat} (hs : s < 128) : Ev (fun k => spec_l8Convex.f k (n : Int) t (s : Int)) (convB n t s) := by
  unfold spec_l8Convex.f convB
  refine Ev.bind (bits_ev hs) ?_
  by_cases g : 3 ≤ popN s
  · rw [decide_eq_true g, Bool.true_and]
    refine ev_pos (by omega) (Ev.bind (spec_ext h hs) (ev_cast (Ev.now _) ?_))
    rw [Bool.eq_iff_iff, beq_iff_eq, beq_iff_eq]
    omega
  · rw [decide_eq_false g, Bool.false_and]
    exact ev_neg (by omega) (Ev.now _)
end
end Go.Proofs.Ytgnghhelalablaa.M
namespace Go.Proofs.Ytgnghhelalablaa.M
open Go.RowKit Go.Proofs.YtgnghhelalablaaW.PrintWords Go.Proofs.Ytgnghhelalablaa.PX Go.Proofs.Ytgnghhelalablaa.G Go.Proofs.YtgnghhelalablaaW.PrintMore
def convSetA (n : Int) (t : ByteArray) (s : Int) : Bool := if acyOk n t = true ∧ setB n.toNat s = true then convB n.toNat t s.toNat else false
theorem impl_isConvSet (n : Int) (t : ByteArray) (s : Int) (hs : t.size ≤ 9223372036854775807) : Ev (fun k => impl_IsConvexSet.f k n t s) (convSetA n t s) := by
  unfold impl_IsConvexSet.f convSetA
  refine Ev.bind (order_ev n t hs) ?_
  by_cases h : acyOk n t = true
  · rw [if_pos h]
    obtain ⟨N, rfl, ho, h0, h1⟩ := acy_are h
    simp only [Int.toNat_natCast]
    refine ev_pos (by trivial) (ev_call (isSet_f h1 s) ?_)
    by_cases g1 : setB N s = true
    · rw [if_pos ⟨h, g1⟩]
      obtain ⟨S, rfl, hS, hS8⟩ := set_nat h1 g1
      exact ev_pos g1 (ev_pos (tblL_length _ _) (Ev.bind (impl_convSet ho hS8) (Ev.now _)))
    · rw [if_neg (fun e => g1 e.2)]
      exact ev_neg g1 (Ev.now _)
  · rw [if_neg h, if_neg (fun e => h e.1)]
    exact ev_neg (by simp) (Ev.now _)
theorem spec_isConvSet (n : Int) (t : ByteArray) (s : Int) (hs : t.size ≤ 9223372036854775807) : Ev (fun k => spec_IsConvexSet.f k n t s) (convSetA n t s) := by
  unfold spec_IsConvexSet.f convSetA
  refine Ev.bind (spec_isA n t hs) ?_
  by_cases h : acyOk n t = true
  · obtain ⟨N, rfl, ho, h0, h1⟩ := acy_are h
    simp only [Int.toNat_natCast]
    refine ev_pos h (ev_pos (by rw [u64_id h1]; omega) (ev_call (spec_set h1 s) ?_))
    by_cases g1 : setB N s = true
    · rw [if_pos ⟨h, g1⟩]
      obtain ⟨S, rfl, hS, hS8⟩ := set_nat h1 g1
      exact ev_pos g1 (Ev.bind (spec_convSet ho hS8) (Ev.now _))
    · rw [if_neg (fun e => g1 e.2)]
      exact ev_neg g1 (Ev.now _)
  · rw [if_neg (fun e => h e.1)]
    exact ev_neg h (Ev.now _)
end Go.Proofs.Ytgnghhelalablaa.M
namespace Go.Proofs.Ytgnghhelalablaa.Pure
open Go.RowKit Go.Proofs.YtgnghhelalablaaW.PrintWords Go.Proofs.Ytgnghhelalablaa.PX Go.Proofs.Ytgnghhelalablaa.M
theorem FnExactIsConvexSet (n : Int) (t : ByteArray) (s : Int) (_ : (Lit.int .i64 n).wf = true) (hs : t.size ≤ 9223372036854775807) (_ : (Lit.int .i64 s).wf = true) :
    ∃ k, laws_FnExactIsConvexSet.f k n t s = some true := by
  refine Ev.rounds (r := true) ?_
  unfold laws_FnExactIsConvexSet.f
  obtain ⟨r, hr⟩ := sz_signs n t
  refine ev_call hr ?_
  by_cases h : r < 0
  · exact ev_pos h (Ev.now _)
  · exact ev_neg h (ev_call (a := (n, t)) rfl (Ev.bind (spec_isConvSet n t s hs) (ev_call (a := (n, t)) rfl (Ev.bind (impl_isConvSet n t s hs) (ev_neg (by simp) (Ev.now _))))))
end Go.Proofs.Ytgnghhelalablaa.Pure
namespace Go.Proofs.Ytgnghhelalablaa.fnExactIsConvexSet
open Go.ChangeShapes Go.WideShapes Go.ChangeAt Go.RowKit Go.Joins
open Go.ChangeMaps (open_string shut_string)
set_option linter.unusedVariables false
theorem own : ownKnob Try.prog.godebug = none := by kernel_rfl
theorem str_mk {H : Type} {enc : TypeId × Value → H} {P : Program} {w : World} {base : Nat} {spare : Nat → Bool} {held : Bool} {t : TypeId} {s : ByteArray} (ht : P.underlying t = some .string) (hs : s.size ≤ maxLen) : DataW.trod enc P w base spare held 1 t [.string s] = some (.lit (.string s.data.toList), []) := by
  simp [DataW.trod, ht, hs]
set_option maxRecDepth 100000 in
theorem lifted (os : Os) (started : os.Started) (H : Type) (enc : TypeId × Value → H) :
    ReturnsInHanded {} Try.checked os 14 .any (Rows.fnExactIsConvexSetSpec.pre6 enc Try.prog Try.f14 Rows.fnExactIsConvexSetRow.domain false) (Rows.fnExactIsConvexSetSpec.post enc Try.prog Try.f14 false true false false) := by
  refine returnsInHanded_of_change_sized (C := Try.checked) own started (by kernel_rfl) Try.func14
    (ChangeSpec.witness6 (enc := enc) (C := Try.checked) false ⟨#[], #[.agg #[.int .i64 0, .string ByteArray.empty], .int .i64 0], []⟩ 8 (by kernel_rfl) (by kernel_rfl) (by kernel_rfl) (by kernel_rfl)) ?_
  intro W base args ds gs before hval0 hW hcnd hsz0 _
  have hsz : (DataW.weightsEach Try.prog (Try.f14.params.toList ++ Rows.fnExactIsConvexSetSpec.plain.varTypes Try.prog) (ds ++ gs)).all (· ≤ reachBytes) = true := hsz0
  have hval : ∀ (j : Nat) t v, Try.f14.params[j]? = some t → args[j]? = some v → Value.okWide Try.prog W .any base t v := hval0
  have hW' := hW
  obtain ⟨p, q, hA0, hV, rfl, hfz, hnd⟩ := hW
  have hA : DataW.TrodAll enc Try.prog W 0 (fun _ => true) true Try.f14.params.toList args.toList ds p := hA0
  rw [Try.params14] at hA hval hsz
  obtain ⟨v0, vs0, d0, ds0, p0, q0, hargs, rfl, rfl, h0, r0⟩ := trodAll_cons hA
  obtain ⟨v1, vs1, d1, ds1, p1, q1, rfl, rfl, rfl, h1, r1⟩ := trodAll_cons r0
  obtain ⟨rfl, rfl, rfl⟩ := trodAll_nil r1
  obtain rfl : args = #[v0, v1] := by cases args; simp_all
  obtain ⟨rfl, rfl⟩ := trodVars_none hV
  obtain ⟨c0_0, c0_1, y0_0, y0_1, m0, rfl, rfl, rfl, hy0_0, hy0_1⟩ := open_agg2 Try.underlying23 (by kernel_rfl) (by kernel_rfl) (hval 0 23 v0 rfl rfl) h0
  obtain ⟨a0_0, e0_0, rfl, wa0⟩ := DataW.trod_int Try.underlying3 hy0_0
  obtain ⟨a0_1, e0_1, rfl, ws0⟩ := DataW.trod_string Try.underlying9 hy0_1
  simp only [List.cons.injEq, and_true] at e0_0 e0_1
  subst e0_0 e0_1
  obtain ⟨a1, rfl, rfl, rfl, w1⟩ := open_int Try.underlying3 (hval 1 3 v1 rfl rfl) h1
  clear hA0 hval0 hsz0 hsz
  obtain ⟨k, hP⟩ := Pure.FnExactIsConvexSet a0_0 a0_1 a1 wa0 ws0 w1
  refine (PX.laws_FnExactIsConvexSet.calls k a0_0 a0_1 a1 true W hP rfl).mono fun e W' ⟨he, bel⟩ => ?_
  subst he
  exact ⟨_, rfl, _, _, _, [], _, [], hW', trodAll_mk1 (shut_bool Try.underlying4 _), (trodAll_cons_mk (shut_agg2 Try.underlying23 (by kernel_rfl) (by kernel_rfl) ⟨_, trod_int_mk 0 Try.underlying3 wa0⟩ ⟨_, str_mk Try.underlying9 ws0⟩) (trodAll_cons_mk (shut_int Try.underlying3 w1) trodAll_mk0)), rfl, bel.frame _, fun h => by cases h⟩
theorem over : Rows.fnExactIsConvexSetRow.holds Try.pinned (OpenSpec.ofChange Rows.fnExactIsConvexSetSpec) :=
  OpenClaim.holds_of_wide 14 Try.f14 rfl rfl rfl rfl rfl rfl rfl ⟨rfl, rfl, rfl, rfl, rfl⟩ rfl rfl rfl rfl rfl (by kernel_rfl) Try.func14 (by kernel_rfl)
    (of_decide_eq_true (by kernel_rfl)) (by unfold Func.isWrapper; first | (rw [if_pos (by decide +kernel)]; kernel_rfl) | (rw [if_neg (by decide +kernel)]; exact ⟨rfl, rfl⟩))
    (fun os started H enc _ => lifted os started H enc)
theorem proved : Rows.FnExactIsConvexSetSaid := over
#print axioms proved
end Go.Proofs.Ytgnghhelalablaa.fnExactIsConvexSet
namespace Go.Proofs.Ytgnghhelalablaa
/-- The row, under a short name, for the claim. -/
theorem fnExactIsConvexSet_holds : Rows.FnExactIsConvexSetSaid := fnExactIsConvexSet.proved
end Go.Proofs.Ytgnghhelalablaa
