/- FnExactLeftRow returns true for all arguments and leaves them as they were. No condition. -/
import Derived.Test.YtbjncemaeagjjaaProg
import Derived.Test.YtbjncemaeagjjaaRows
import Derived.WalkKit
import Derived.ProofKit
import Derived.OpenShut
import Derived.ShutString
import Derived.ChangeOld
import Derived.Below
import Derived.SizedLaws
import Derived.Lib.SmallJoins
import Derived.ChangeSame
import Derived.Test.YtbjncemaeagjjaaV1
import Derived.Test.YtbjncemaeagjjaaBmknilo1
import Derived.Test.YtbjncemaeagjjaaBmknilo2
import Derived.Test.YtbjncemaeagjjaaBlqmajn1
import Derived.Test.YtbjncemaeagjjaaBmknilo3
set_option linter.unusedVariables false
set_option linter.unusedSimpArgs false
namespace Go.Proofs.Ytbjncemaeagjjaa.PX
open Go.RowKit Go.Proofs.Ytbjncemaeagjjaa.G Go.Proofs.YtbjncemaeagjjaaW.PrintWords Go.Proofs.YtbjncemaeagjjaaW.PrintLast Go.Proofs.YtbjncemaeagjjaaW.PrintMore
attribute [local go_sem] max2_int min2_int max_two min_two max_three min_three max_four min_four   -- for this text's walks alone
set_option linter.unusedVariables false
set_option linter.unusedSimpArgs false
/-! ### spec_l1Bit: function 62 -/
def spec_l1Bit.f (a0 : Bool) : Option (Int) := if a0 = true then (some 1) else (some 0)
set_option maxHeartbeats 8000000 in
set_option maxRecDepth 100000 in
theorem spec_l1Bit.calls (a0 : Bool) (r : Int) (w : World) (h : spec_l1Bit.f a0 = some r) :
  Calls Try.prog 62 #[.bool a0] w fun e w' => e = .returned (.int .i64 r) ∧ Drawn0 w w' := by
 have H : (if a0 = true then (some 1) else (some 0)) = some r := h
 clear h
 by_cases c2 : a0 = true
 ·subst c2
  have H1 : (some 1) = some r := by rw [if_pos rfl] at H; exact H
  clear H
  have H := H1
  clear H1
  obtain rfl := Option.some.inj H
  go_enter Try.func62, Try.ntmps62
  go_wp2
  go_ret
  exact ⟨by first | rfl | (simp; done) | (simp [*]; done), by repeat (first | exact Drawn0.refl _ | apply Drawn0.step)⟩
 ·replace c2 := Bool.eq_false_iff.mpr c2
  subst c2
  have H1 : (some 0) = some r := by rw [if_neg (show ¬ (false = true) by decide)] at H; exact H
  clear H
  have H := H1
  clear H1
  obtain rfl := Option.some.inj H
  go_enter Try.func62, Try.ntmps62
  go_wp2
  go_ret
  exact ⟨by first | rfl | (simp; done) | (simp [*]; done), by repeat (first | exact Drawn0.refl _ | apply Drawn0.step)⟩
/-! ### spec_l7Left: function 40 -/
def spec_l7Left.l0 : Nat → Int → Int → Int → Int → Int → ByteArray → Option (Int)
 | 0, _, _, _, _, _, _ => none
 | k + 1, x1, x2, x7, x8, x163000, x163001 => if x8 < x163000 then (if x8 = x1 then ((spec_l1Bit.f false).bind fun t163 => (spec_l7Left.l0 k x1 x2 (wrap64 (x7 + t163)) (wrap64 (x8 + 1)) x163000 x163001)) else (if x8 = x2 then ((spec_l1Bit.f false).bind fun t164 => (spec_l7Left.l0 k x1 x2 (wrap64 (x7 + t164)) (wrap64 (x8 + 1)) x163000 x163001)) else ((spec_l3At.f k x163000 x163001 x1 x2 x8).bind fun t165 => ((spec_l1Bit.f (decide (t165 > 0))).bind fun t166 => (spec_l7Left.l0 k x1 x2 (wrap64 (x7 + t166)) (wrap64 (x8 + 1)) x163000 x163001))))) else (some x7)
def spec_l7Left.f (k : Nat) (a0_0 : Int) (a0_1 : ByteArray) (a1 : Int) (a2 : Int) : Option (Int) := spec_l7Left.l0 k a1 a2 0 0 a0_0 a0_1
theorem spec_l7Left.mono_l : ∀ k, (∀ y0 y1 y2 y3 y4 y5, LeO (spec_l7Left.l0 k y0 y1 y2 y3 y4 y5) (spec_l7Left.l0 (k + 1) y0 y1 y2 y3 y4 y5))
 | 0 => fun _ _ _ _ _ _ r h => by simp [spec_l7Left.l0] at h
 | k + 1 => by
  have ih0 := spec_l7Left.mono_l k
  ·intro y0 y1 y2 y3 y4 y5
   unfold spec_l7Left.l0
   repeat' first
   | (with_reducible exact ih0 _ _ _ _ _ _)
   | (with_reducible exact spec_l3At.mono _ _ _ _ _ _)
   | (with_reducible exact LeO.refl _)
   | (with_reducible exact LeO.none _)
   | (with_reducible refine LeO.ite ?_ ?_)
   | (with_reducible refine LeO.bind ?_ (fun _ => ?_))
   | exact ih0 _ _ _ _ _ _
   | exact spec_l3At.mono _ _ _ _ _ _
   | exact LeO.none _
   | refine LeO.ite ?_ ?_
   | refine LeO.bind ?_ (fun _ => ?_)
theorem spec_l7Left.mono : ∀ a0 a1 a2 a3 k, LeO (spec_l7Left.f k a0 a1 a2 a3) (spec_l7Left.f (k + 1) a0 a1 a2 a3) := by
 intro a0 a1 a2 a3 k
 have ih0 := spec_l7Left.mono_l k
 unfold spec_l7Left.f
 repeat' first
   | (with_reducible exact ih0 _ _ _ _ _ _)
   | (with_reducible exact spec_l3At.mono _ _ _ _ _ _)
   | (with_reducible exact LeO.refl _)
   | (with_reducible exact LeO.none _)
   | (with_reducible refine LeO.ite ?_ ?_)
   | (with_reducible refine LeO.bind ?_ (fun _ => ?_))
   | exact ih0 _ _ _ _ _ _
   | exact spec_l3At.mono _ _ _ _ _ _
   | exact LeO.none _
   | refine LeO.ite ?_ ?_
   | refine LeO.bind ?_ (fun _ => ?_)
set_option maxHeartbeats 8000000 in
set_option maxRecDepth 100000 in
theorem spec_l7Left.calls (k : Nat) (a0_0 : Int) (a0_1 : ByteArray) (a1 : Int) (a2 : Int) (r : Int) (w : World) (h : spec_l7Left.f k a0_0 a0_1 a1 a2 = some r) :
  Calls Try.prog 40 #[.agg #[.int .i64 a0_0, .string a0_1], .int .i64 a1, .int .i64 a2] w fun e w' => e = .returned (.int .i64 r) ∧ Below w.heap.size w w' := by
 have hu26 := Try.underlying26
 have HB := Aside0.mk (Below.refl w.heap.size w)
 have H : (spec_l7Left.l0 k a1 a2 0 0 a0_0 a0_1) = some r := h
 clear h
 have H' := Aside0.mk H
 clear H
 go_enter Try.func40, Try.ntmps40
 go_wp2_with (first | ((with_reducible refine gate_dst (N := 3) rfl ?_); refine box_event ?hg (N := 3) ?hd (cs := #[.int .i64 a0_0, .string a0_1]) (t := 26) ?hr ?_; (case hd => rfl); (case hg => rfl); (case hr => first | (go_simp; done) | (go_simp; rfl)); intro gb162 hg w4 hbox hb; have BK162 := Aside0.mk (hbox); have GW162 := Aside0.mk ((by rw [hg]; exact (below_size zB) : w.heap.size ≤ gb162)); have GE162 := Aside0.mk ((by rw [hg]; exact (below_size zB) : w.heap.size ≤ gb162)); replace HB := Aside0.mk (below_step zB hb); clear hb hbox hg))
 go_loopg [7, 8] k (fun kq v7 v8 w' => ∃ (x7_1 : Int) (x8_1 : Int), v7 = .int .i64 x7_1 ∧ v8 = .int .i64 x8_1 ∧ Aside0 (spec_l7Left.l0 kq a1 a2 x7_1 x8_1 a0_0 a0_1 = some r) ∧ Aside0 (kq ≤ k) ∧ Aside0 (w'.heap[gb162]? = some (.cells #[.int .i64 a0_0, .string a0_1] 26 (0, 0))) ∧ Aside0 (Below w.heap.size w w'))
 case atStart => exact ⟨(0), (0), zF, zF, H', ⟨Nat.le_refl _⟩, ⟨zK BK162.out⟩, ⟨zG GE162.out⟩⟩
 case round =>
  clear H'
  try clear p2
  try clear c4
  obtain ⟨x7_1, x8_1, rfl, rfl, HA, HK1, BK162, HB⟩ := hrel
  cases gk with
  | zero => exact absurd HA.out (by simp [spec_l7Left.l0])
  | succ k1 =>
   have H := HA.out
   clear HA
   simp only [spec_l7Left.l0] at H
   by_cases c5 : x8_1 < a0_0
   ·rw [if_pos c5] at H
    have c5b0 : decide (x8_1 < a0_0) = true := decide_eq_true c5
    clear c5
    by_cases c6 : x8_1 = a1
    ·rw [if_pos c6] at H
     have c6b0 : (x8_1 == a1) = true := beq_iff_eq.mpr c6
     have c6b1 : (x8_1 != a1) = false := bne_eq_false_iff_eq.mpr c6
     clear c6
     replace H := Option.bind_eq_some_iff.mp H
     obtain ⟨t163, A70, H⟩ := H
     replace H : (spec_l7Left.l0 k1 a1 a2 (wrap64 (x7_1 + t163)) (wrap64 (x8_1 + 1)) a0_0 a0_1) = some r := H
     have A7 := Aside0.mk A70
     clear A70
     have H' := Aside0.mk H
     clear H
     have hcz8_0 : wr.cell? ⟨gb162, 0, none⟩ = some (.int .i64 a0_0) := (blk_cell BK162.out 0).trans rfl
     have hcz8_1 : wr.cell? ⟨gb162, 1, none⟩ = some (.string a0_1) := (blk_cell BK162.out 1).trans rfl
     have hfz8_0 := blk_frozen BK162.out 0
     have hfz8_1 := blk_frozen BK162.out 1
     go_wp2_with (first | ((with_reducible refine gate_callee (f := 62) rfl ?_); refine goesL_ (some 32) rfl rfl Try.func62 (by kernel_rfl) rfl #[.bool false] rfl zM ?_; (with_reducible refine (spec_l1Bit.calls false t163 _ A7.out).mono ?_); rintro e w' ⟨rfl, ⟨nd, rfl⟩⟩; refine ⟨_, rfl, ?_⟩))
     go_roundg k1
     case measure => have := HK1.out; omega
     case rel => exact ⟨(wrap64 (x7_1 + t163)), (wrap64 (x8_1 + 1)), zF, zF, H', ⟨by have := HK1.out; omega⟩, ⟨zK BK162.out⟩, ⟨zG GE162.out⟩⟩
    ·rw [if_neg c6] at H
     have c6b0 : (x8_1 == a1) = false := beq_eq_false_iff_ne.mpr c6
     have c6b1 : (x8_1 != a1) = true := bne_iff_ne.mpr c6
     by_cases c9 : x8_1 = a2
     ·rw [if_pos c9] at H
      have c9b0 : (x8_1 == a2) = true := beq_iff_eq.mpr c9
      have c9b1 : (x8_1 != a2) = false := bne_eq_false_iff_eq.mpr c9
      clear c9
      replace H := Option.bind_eq_some_iff.mp H
      obtain ⟨t164, A100, H⟩ := H
      replace H : (spec_l7Left.l0 k1 a1 a2 (wrap64 (x7_1 + t164)) (wrap64 (x8_1 + 1)) a0_0 a0_1) = some r := H
      have A10 := Aside0.mk A100
      clear A100
      have H' := Aside0.mk H
      clear H
      have hcz11_0 : wr.cell? ⟨gb162, 0, none⟩ = some (.int .i64 a0_0) := (blk_cell BK162.out 0).trans rfl
      have hcz11_1 : wr.cell? ⟨gb162, 1, none⟩ = some (.string a0_1) := (blk_cell BK162.out 1).trans rfl
      have hfz11_0 := blk_frozen BK162.out 0
      have hfz11_1 := blk_frozen BK162.out 1
      go_wp2_with (first | ((with_reducible refine gate_callee (f := 62) rfl ?_); refine goesL_ (some 32) rfl rfl Try.func62 (by kernel_rfl) rfl #[.bool false] rfl zM ?_; (with_reducible refine (spec_l1Bit.calls false t164 _ A10.out).mono ?_); rintro e w' ⟨rfl, ⟨nd, rfl⟩⟩; refine ⟨_, rfl, ?_⟩))
      go_roundg k1
      case measure => have := HK1.out; omega
      case rel => exact ⟨(wrap64 (x7_1 + t164)), (wrap64 (x8_1 + 1)), zF, zF, H', ⟨by have := HK1.out; omega⟩, ⟨zK BK162.out⟩, ⟨zG GE162.out⟩⟩
     ·rw [if_neg c9] at H
      have c9b0 : (x8_1 == a2) = false := beq_eq_false_iff_ne.mpr c9
      have c9b1 : (x8_1 != a2) = true := bne_iff_ne.mpr c9
      replace H := Option.bind_eq_some_iff.mp H
      obtain ⟨t165, A120, H⟩ := H
      replace H : ((spec_l1Bit.f (decide (t165 > 0))).bind fun t166 => (spec_l7Left.l0 k1 a1 a2 (wrap64 (x7_1 + t166)) (wrap64 (x8_1 + 1)) a0_0 a0_1)) = some r := H
      have A12 := Aside0.mk A120
      clear A120
      replace H := Option.bind_eq_some_iff.mp H
      obtain ⟨t166, A130, H⟩ := H
      replace H : (spec_l7Left.l0 k1 a1 a2 (wrap64 (x7_1 + t166)) (wrap64 (x8_1 + 1)) a0_0 a0_1) = some r := H
      have A13 := Aside0.mk A130
      clear A130
      have H' := Aside0.mk H
      clear H
      have hcz14_0 : wr.cell? ⟨gb162, 0, none⟩ = some (.int .i64 a0_0) := (blk_cell BK162.out 0).trans rfl
      have hcz14_1 : wr.cell? ⟨gb162, 1, none⟩ = some (.string a0_1) := (blk_cell BK162.out 1).trans rfl
      have hfz14_0 := blk_frozen BK162.out 0
      have hfz14_1 := blk_frozen BK162.out 1
      go_wp2_with (first | (go_at_call 63; (with_reducible refine (spec_l3At.calls k1 a0_0 a0_1 a1 a2 x8_1 t165 _ A12.out).mono ?_); rintro e w15 ⟨rfl, hb⟩; replace BK162 := Aside0.mk (blk_below (g := gb162) (o := .cells #[.int .i64 a0_0, .string a0_1] 26 (0, 0)) (zK BK162.out) hb); replace HB := Aside0.mk (below_step (zG GE162.out) hb); (try clear hb); (try clear hb2); (try clear hk); (try clear hi)) | ((with_reducible refine gate_callee (f := 62) rfl ?_); refine goesL_ (some 32) rfl rfl Try.func62 (by kernel_rfl) rfl #[.bool (decide (t165 > 0))] rfl zM ?_; (with_reducible refine (spec_l1Bit.calls (decide (t165 > 0)) t166 _ A13.out).mono ?_); rintro e w' ⟨rfl, ⟨nd, rfl⟩⟩; refine ⟨_, rfl, ?_⟩))
      go_roundg k1
      case measure => have := HK1.out; omega
      case rel => exact ⟨(wrap64 (x7_1 + t166)), (wrap64 (x8_1 + 1)), zF, zF, H', ⟨by have := HK1.out; omega⟩, ⟨zK BK162.out⟩, ⟨zG GE162.out⟩⟩
   ·rw [if_neg c5] at H
    have c5b0 : decide (x8_1 < a0_0) = false := decide_eq_false c5
    clear c5
    obtain rfl := Option.some.inj H
    have hcz16_0 : wr.cell? ⟨gb162, 0, none⟩ = some (.int .i64 a0_0) := (blk_cell BK162.out 0).trans rfl
    have hcz16_1 : wr.cell? ⟨gb162, 1, none⟩ = some (.string a0_1) := (blk_cell BK162.out 1).trans rfl
    have hfz16_0 := blk_frozen BK162.out 0
    have hfz16_1 := blk_frozen BK162.out 1
    go_wp2
    go_ret
    exact ⟨zE, zG GE162.out⟩
/-! ### spec_LeftRow: function 21 -/
mutual
def spec_LeftRow.l0 : Nat → List Int → Int → Int → ByteArray → Option (List Int)
 | 0, _, _, _, _ => none
 | k + 1, x3, x4, x340000, x340001 => if x4 < x340000 then (spec_LeftRow.l1 k x3 x4 0 x340000 x340001) else (some x3)
def spec_LeftRow.l1 : Nat → List Int → Int → Int → Int → ByteArray → Option (List Int)
 | 0, _, _, _, _, _ => none
 | k + 1, x3, x4, x5, x340000, x340001 => if x5 < x340000 then (if x4 = x5 then (spec_LeftRow.l1 k x3 x4 (wrap64 (x5 + 1)) x340000 x340001) else ((spec_l7Left.f k x340000 x340001 x4 x5).bind fun t347 => (if 0 ≤ t347 then (if t347 < (x3.length : Int) then (spec_LeftRow.l1 k (x3.set (t347 : Int).toNat (wrap64 ((rd x3 t347) + 1))) x4 (wrap64 (x5 + 1)) x340000 x340001) else (none)) else (none)))) else (spec_LeftRow.l0 k x3 (wrap64 (x4 + 1)) x340000 x340001)
end
def spec_LeftRow.f (k : Nat) (a0_0 : Int) (a0_1 : ByteArray) : Option (List Int) := (spec_IsAcyclic.f k a0_0 a0_1).bind fun t340 => (if t340 = true then (if 0 ≤ (wrap64 (a0_0 - 1)) then (if (wrap64 (a0_0 - 1) : Int).toNat ≤ 35184372088832 then (spec_LeftRow.l0 k (List.replicate (wrap64 (a0_0 - 1) : Int).toNat 0) 0 a0_0 a0_1) else (none)) else (none)) else (some (([] : List Int))))
theorem spec_LeftRow.mono_l : ∀ k, (∀ y0 y1 y2 y3, LeO (spec_LeftRow.l0 k y0 y1 y2 y3) (spec_LeftRow.l0 (k + 1) y0 y1 y2 y3)) ∧ (∀ y0 y1 y2 y3 y4, LeO (spec_LeftRow.l1 k y0 y1 y2 y3 y4) (spec_LeftRow.l1 (k + 1) y0 y1 y2 y3 y4))
 | 0 => ⟨fun _ _ _ _ r h => by simp [spec_LeftRow.l0] at h, fun _ _ _ _ _ r h => by simp [spec_LeftRow.l1] at h⟩
 | k + 1 => by
  obtain ⟨ih0, ih1⟩ := spec_LeftRow.mono_l k
  refine ⟨?_, ?_⟩ <;> intros <;> (first | unfold spec_LeftRow.l0 | unfold spec_LeftRow.l1) <;> repeat' first
  | (with_reducible exact ih0 _ _ _ _)
  | (with_reducible exact ih1 _ _ _ _ _)
  | (with_reducible exact spec_IsAcyclic.mono _ _ _)
  | (with_reducible exact spec_l7Left.mono _ _ _ _ _)
  | (with_reducible exact LeO.refl _)
  | (with_reducible exact LeO.none _)
  | (with_reducible refine LeO.ite ?_ ?_)
  | (with_reducible refine LeO.bind ?_ (fun _ => ?_))
  | exact ih0 _ _ _ _
  | exact ih1 _ _ _ _ _
  | exact spec_IsAcyclic.mono _ _ _
  | exact spec_l7Left.mono _ _ _ _ _
  | exact LeO.none _
  | refine LeO.ite ?_ ?_
  | refine LeO.bind ?_ (fun _ => ?_)
theorem spec_LeftRow.mono : ∀ a0 a1 k, LeO (spec_LeftRow.f k a0 a1) (spec_LeftRow.f (k + 1) a0 a1) := by
 intro a0 a1 k
 obtain ⟨ih0, ih1⟩ := spec_LeftRow.mono_l k
 unfold spec_LeftRow.f
 repeat' first
   | (with_reducible exact ih0 _ _ _ _)
   | (with_reducible exact ih1 _ _ _ _ _)
   | (with_reducible exact spec_IsAcyclic.mono _ _ _)
   | (with_reducible exact spec_l7Left.mono _ _ _ _ _)
   | (with_reducible exact LeO.refl _)
   | (with_reducible exact LeO.none _)
   | (with_reducible refine LeO.ite ?_ ?_)
   | (with_reducible refine LeO.bind ?_ (fun _ => ?_))
   | exact ih0 _ _ _ _
   | exact ih1 _ _ _ _ _
   | exact spec_IsAcyclic.mono _ _ _
   | exact spec_l7Left.mono _ _ _ _ _
   | exact LeO.none _
   | refine LeO.ite ?_ ?_
   | refine LeO.bind ?_ (fun _ => ?_)
set_option maxHeartbeats 8000000 in
set_option maxRecDepth 100000 in
theorem spec_LeftRow.calls (k : Nat) (a0_0 : Int) (a0_1 : ByteArray) (r : List Int) (w : World) (h : spec_LeftRow.f k a0_0 a0_1 = some r) :
  Calls Try.prog 21 #[.agg #[.int .i64 a0_0, .string a0_1]] w fun e w' => ∃ v0_ : Value, e = .returned (v0_) ∧ Kd.R (Kd.int .i64) 3 w' w.heap.size (fun _ => True) v0_ r ∧ Below w.heap.size w w' := by
 have hu26 := Try.underlying26
 have HB := Aside0.mk (Below.refl w.heap.size w)
 have H : ((spec_IsAcyclic.f k a0_0 a0_1).bind fun t340 => (if t340 = true then (if 0 ≤ (wrap64 (a0_0 - 1)) then (if (wrap64 (a0_0 - 1) : Int).toNat ≤ 35184372088832 then (spec_LeftRow.l0 k (List.replicate (wrap64 (a0_0 - 1) : Int).toNat 0) 0 a0_0 a0_1) else (none)) else (none)) else (some (([] : List Int))))) = some r := h
 clear h
 replace H := Option.bind_eq_some_iff.mp H
 obtain ⟨t340, A20, H⟩ := H
 replace H : (if t340 = true then (if 0 ≤ (wrap64 (a0_0 - 1)) then (if (wrap64 (a0_0 - 1) : Int).toNat ≤ 35184372088832 then (spec_LeftRow.l0 k (List.replicate (wrap64 (a0_0 - 1) : Int).toNat 0) 0 a0_0 a0_1) else (none)) else (none)) else (some (([] : List Int)))) = some r := H
 have A2 := Aside0.mk A20
 clear A20
 by_cases c3 : t340 = true
 ·subst c3
  have H1 : (if 0 ≤ (wrap64 (a0_0 - 1)) then (if (wrap64 (a0_0 - 1) : Int).toNat ≤ 35184372088832 then (spec_LeftRow.l0 k (List.replicate (wrap64 (a0_0 - 1) : Int).toNat 0) 0 a0_0 a0_1) else (none)) else (none)) = some r := by rw [if_pos rfl] at H; exact H
  clear H
  have H := H1
  clear H1
  obtain ⟨ji4, hji4⟩ : ∃ j_ : Int, (wrap64 (a0_0 - 1)) = j_ := ⟨_, rfl⟩
  replace H : (if 0 ≤ (ji4) then (if (ji4 : Int).toNat ≤ 35184372088832 then (spec_LeftRow.l0 k (List.replicate (ji4 : Int).toNat 0) 0 a0_0 a0_1) else (none)) else (none)) = some r := by first | (rw [hji4] at H; exact H) | (simp only [hji4] at H ⊢; exact H)
  (try rw [hji4] at A2)
  have hji4w : (IntKind.i64.wrap (a0_0 - 1)) = ji4 := (i64_w _).trans hji4
  by_cases c5 : 0 ≤ (ji4)
  ·rw [if_pos c5] at H
   have c5b0 := eq_true c5
   have c5b1 : decide (0 ≤ (ji4)) = true := decide_eq_true c5
   clear c5
   by_cases c6 : (ji4 : Int).toNat ≤ 35184372088832
   ·rw [if_pos c6] at H
    have c6b0 := eq_true c6
    have c6b1 : decide ((ji4 : Int).toNat ≤ 35184372088832) = true := decide_eq_true c6
    clear c6
    obtain ⟨y344, hy344⟩ : ∃ y_ : List Int, y_ = (List.replicate (ji4 : Int).toNat 0) := ⟨_, rfl⟩
    replace H : (spec_LeftRow.l0 k y344 0 a0_0 a0_1) = some r := by first | (rw [hy344]; with_reducible exact H) | (have H2_ := (Option.bind_some _ _).symm.trans H; rw [hy344]; with_reducible exact H2_) | (have H2_ := (Option.bind_some _ _).symm.trans H; with_reducible exact H2_) | with_reducible exact H | (rw [hy344]; exact H) | exact H
    have Ny344 := Aside0.mk hy344
    clear hy344
    have H' := Aside0.mk H
    clear H
    go_enter Try.func21, Try.ntmps21
    go_wp2_with (first | ((with_reducible refine gate_dst (N := 1) rfl ?_); refine box_event ?hg (N := 1) ?hd (cs := #[.int .i64 a0_0, .string a0_1]) (t := 26) ?hr ?_; (case hd => rfl); (case hg => rfl); (case hr => first | (go_simp; done) | (go_simp; rfl)); intro gb339 hg w7 hbox hb; have BK339 := Aside0.mk (hbox); have GW339 := Aside0.mk ((by rw [hg]; exact (below_size zB) : w.heap.size ≤ gb339)); have GE339 := Aside0.mk ((by rw [hg]; exact (below_size zB) : w.heap.size ≤ gb339)); replace HB := Aside0.mk (below_step zB hb); clear hb hbox hg; have hcz8_0 : w7.cell? ⟨gb339, 0, none⟩ = some (.int .i64 a0_0) := (blk_cell BK339.out 0).trans rfl; have hcz8_1 : w7.cell? ⟨gb339, 1, none⟩ = some (.string a0_1) := (blk_cell BK339.out 1).trans rfl; have hfz8_0 := blk_frozen BK339.out 0; have hfz8_1 := blk_frozen BK339.out 1) | ((with_reducible refine gate_callee (f := 38) rfl ?_); refine goesL_ (some 8) rfl rfl Try.func38 (by kernel_rfl) rfl #[.agg #[.int .i64 a0_0, .string a0_1]] rfl zM ?_; (with_reducible refine (spec_IsAcyclic.calls k a0_0 a0_1 true _ A2.out).mono ?_); rintro e w9 ⟨rfl, hb⟩; refine ⟨_, rfl, ?_⟩; replace BK339 := Aside0.mk (blk_below (g := gb339) (o := .cells #[.int .i64 a0_0, .string a0_1] 26 (0, 0)) (zK BK339.out) hb); replace HB := Aside0.mk (below_step (zG GE339.out) hb); (try clear hb); have hcz10_0 : w9.cell? ⟨gb339, 0, none⟩ = some (.int .i64 a0_0) := (blk_cell BK339.out 0).trans rfl; have hcz10_1 : w9.cell? ⟨gb339, 1, none⟩ = some (.string a0_1) := (blk_cell BK339.out 1).trans rfl; have hfz10_0 := blk_frozen BK339.out 0; have hfz10_1 := blk_frozen BK339.out 1) | ((with_reducible refine gate_dst (N := 14) rfl ?_); refine Kd.R_make (Kd.int .i64) _ 3 rfl (N := 14) rfl 34 _ _ rfl ji4 rfl rfl Try.underlying34 (.int .i64 0) 8 info3 rfl (by decide) (by omega) 0 (ok := fun _ => True) (okp := fun _ => True) rfl (fun _ hk => hk) trivial (zA) (Nat.le_trans (Nat.mul_le_mul_right _ (zA : ji4.toNat ≤ 35184372088832)) (by omega)) (Below.refl _ _) (Nat.le_refl _) ?_; intro v345 w11 ho12 hb hg_ hnew_; clear hg_ hnew_; (first | rw [← Ny344.out] at ho12 | (simp only [Int.reduceToNat] at ho12; rw [← Ny344.out] at ho12)); have HO346 := Aside0.mk (Kd.R_lower ho12 (below_size (zG GE339.out))); replace BK339 := Aside0.mk (blk_below (g := gb339) (o := .cells #[.int .i64 a0_0, .string a0_1] 26 (0, 0)) (zK BK339.out) hb); replace HB := Aside0.mk (below_step (zG GE339.out) hb); clear hb ho12))
    go_loopg [4] k (fun kq v4 w' => ∃ (x3_1 : List Int) (x4_1 : Int), v4 = .int .i64 x4_1 ∧ Aside0 (spec_LeftRow.l0 kq x3_1 x4_1 a0_0 a0_1 = some r) ∧ Aside0 (kq ≤ k) ∧ Aside0 (Kd.R (Kd.int .i64) 3 w' w.heap.size (fun _ => True) v345 x3_1) ∧ Aside0 (w'.heap[gb339]? = some (.cells #[.int .i64 a0_0, .string a0_1] 26 (0, 0))) ∧ Aside0 (Below w.heap.size w w'))
    case atStart => exact ⟨(y344), (0), zF, H', ⟨Nat.le_refl _⟩, ⟨zR HO346.out⟩, ⟨zK BK339.out⟩, ⟨zG GE339.out⟩⟩
    case round =>
     clear H'
     try clear c2
     try clear p2
     try clear c3
     try clear c5
     try clear c5b0
     try clear c5b1
     try clear c6
     try clear c6b0
     try clear c6b1
     try clear p6
     try clear hcz10_0
     try clear hcz10_1
     try clear hcz8_0
     try clear hcz8_1
     try clear hfz10_0
     try clear hfz10_1
     try clear hfz8_0
     try clear hfz8_1
     obtain ⟨x3_1, x4_1, rfl, HA, HK1, HO_3, BK339, HB⟩ := hrel
     cases gk with
     | zero => exact absurd HA.out (by simp [spec_LeftRow.l0])
     | succ k1 =>
      have H := HA.out
      clear HA
      simp only [spec_LeftRow.l0] at H
      by_cases c13 : x4_1 < a0_0
      ·rw [if_pos c13] at H
       have c13b0 : decide (x4_1 < a0_0) = true := decide_eq_true c13
       clear c13
       have H' := Aside0.mk H
       clear H
       have hcz14_0 : wr.cell? ⟨gb339, 0, none⟩ = some (.int .i64 a0_0) := (blk_cell BK339.out 0).trans rfl
       have hcz14_1 : wr.cell? ⟨gb339, 1, none⟩ = some (.string a0_1) := (blk_cell BK339.out 1).trans rfl
       have hfz14_0 := blk_frozen BK339.out 0
       have hfz14_1 := blk_frozen BK339.out 1
       go_wp2
       go_loopg [5] k1 (fun kq v5 w' => ∃ (x3_2 : List Int) (x5_2 : Int), v5 = .int .i64 x5_2 ∧ Aside0 (spec_LeftRow.l1 kq x3_2 x4_1 x5_2 a0_0 a0_1 = some r) ∧ Aside0 (kq ≤ k1) ∧ Aside0 (Kd.R (Kd.int .i64) 3 w' w.heap.size (fun _ => True) v345 x3_2) ∧ Aside0 (w'.heap[gb339]? = some (.cells #[.int .i64 a0_0, .string a0_1] 26 (0, 0))) ∧ Aside0 (Below w.heap.size w w'))
       case atStart => exact ⟨(x3_1), (0), zF, H', ⟨Nat.le_refl _⟩, ⟨zR HO_3.out⟩, ⟨zK BK339.out⟩, ⟨zG GE339.out⟩⟩
       case round =>
        clear H'
        try clear c1
        try clear c2
        try clear p2
        try clear c3
        try clear c5
        try clear c5b0
        try clear c5b1
        try clear c6
        try clear c6b0
        try clear c6b1
        try clear p6
        try clear c13
        try clear c13b0
        try clear hcz10_0
        try clear hcz10_1
        try clear hcz14_0
        try clear hcz14_1
        try clear hcz8_0
        try clear hcz8_1
        try clear hfz10_0
        try clear hfz10_1
        try clear hfz14_0
        try clear hfz14_1
        try clear hfz8_0
        try clear hfz8_1
        try clear p2
        try clear p6
        obtain ⟨x3_2, x5_2, rfl, HA, HK2, HO_3, BK339, HB⟩ := hrel
        cases gk with
        | zero => exact absurd HA.out (by simp [spec_LeftRow.l1])
        | succ k2 =>
         have H := HA.out
         clear HA
         simp only [spec_LeftRow.l1] at H
         by_cases c15 : x5_2 < a0_0
         ·rw [if_pos c15] at H
          have c15b0 : decide (x5_2 < a0_0) = true := decide_eq_true c15
          clear c15
          by_cases c16 : x4_1 = x5_2
          ·rw [if_pos c16] at H
           have c16b0 : (x4_1 == x5_2) = true := beq_iff_eq.mpr c16
           have c16b1 : (x4_1 != x5_2) = false := bne_eq_false_iff_eq.mpr c16
           clear c16
           have H' := Aside0.mk H
           clear H
           have hcz17_0 : wr.cell? ⟨gb339, 0, none⟩ = some (.int .i64 a0_0) := (blk_cell BK339.out 0).trans rfl
           have hcz17_1 : wr.cell? ⟨gb339, 1, none⟩ = some (.string a0_1) := (blk_cell BK339.out 1).trans rfl
           have hfz17_0 := blk_frozen BK339.out 0
           have hfz17_1 := blk_frozen BK339.out 1
           go_wp2
           go_roundg k2
           case measure => have := HK1.out; have := HK2.out; omega
           case rel => exact ⟨(x3_2), (wrap64 (x5_2 + 1)), zF, H', ⟨by have := HK1.out; have := HK2.out; omega⟩, ⟨zR HO_3.out⟩, ⟨zK BK339.out⟩, ⟨zG GE339.out⟩⟩
          ·rw [if_neg c16] at H
           have c16b0 : (x4_1 == x5_2) = false := beq_eq_false_iff_ne.mpr c16
           have c16b1 : (x4_1 != x5_2) = true := bne_iff_ne.mpr c16
           replace H := Option.bind_eq_some_iff.mp H
           obtain ⟨t347, A180, H⟩ := H
           replace H : (if 0 ≤ t347 then (if t347 < (x3_2.length : Int) then (spec_LeftRow.l1 k2 (x3_2.set (t347 : Int).toNat (wrap64 ((rd x3_2 t347) + 1))) x4_1 (wrap64 (x5_2 + 1)) a0_0 a0_1) else (none)) else (none)) = some r := H
           have A18 := Aside0.mk A180
           clear A180
           by_cases c19 : 0 ≤ t347
           ·rw [if_pos c19] at H
            have c19b0 : decide (0 ≤ t347) = true := decide_eq_true c19
            clear c19
            by_cases c20 : t347 < (x3_2.length : Int)
            ·rw [if_pos c20] at H
             have c20b0 : decide (t347 < (x3_2.length : Int)) = true := decide_eq_true c20
             clear c20
             obtain ⟨y349, hy349⟩ : ∃ y_ : List Int, y_ = (x3_2.set (t347 : Int).toNat (wrap64 ((rd x3_2 t347) + 1))) := ⟨_, rfl⟩
             replace H : (spec_LeftRow.l1 k2 y349 x4_1 (wrap64 (x5_2 + 1)) a0_0 a0_1) = some r := by first | (rw [hy349]; with_reducible exact H) | (have H2_ := (Option.bind_some _ _).symm.trans H; rw [hy349]; with_reducible exact H2_) | (have H2_ := (Option.bind_some _ _).symm.trans H; with_reducible exact H2_) | with_reducible exact H | (rw [hy349]; exact H) | exact H
             have Ny349 := Aside0.mk hy349
             clear hy349
             have H' := Aside0.mk H
             clear H
             have hcz22_0 : wr.cell? ⟨gb339, 0, none⟩ = some (.int .i64 a0_0) := (blk_cell BK339.out 0).trans rfl
             have hcz22_1 : wr.cell? ⟨gb339, 1, none⟩ = some (.string a0_1) := (blk_cell BK339.out 1).trans rfl
             have hfz22_0 := blk_frozen BK339.out 0
             have hfz22_1 := blk_frozen BK339.out 1
             go_wp2_with (first | ((with_reducible refine gate_callee (f := 40) rfl ?_); refine goesL_ (some 33) rfl rfl Try.func40 (by kernel_rfl) rfl #[.agg #[.int .i64 a0_0, .string a0_1], .int .i64 x4_1, .int .i64 x5_2] rfl zM ?_; (with_reducible refine (spec_l7Left.calls k2 a0_0 a0_1 x4_1 x5_2 t347 _ A18.out).mono ?_); rintro e w23 ⟨rfl, hb⟩; refine ⟨_, rfl, ?_⟩; replace HO_3 := Aside0.mk (Kd.R_below (zR HO_3.out) hb); replace BK339 := Aside0.mk (blk_below (g := gb339) (o := .cells #[.int .i64 a0_0, .string a0_1] 26 (0, 0)) (zK BK339.out) hb); replace HB := Aside0.mk (below_step (zG GE339.out) hb); (try clear hb); obtain ⟨Ao24, co24, eo24⟩ := Kd.R_slice HO_3.out; subst eo24; have p348 : 0 ≤ (t347 : Int) := zA; have q348 : t347 < (x3_2.length : Int) := zA; obtain ⟨ad348, e348, hx348_0⟩ := Kd.at_int (Kd.R_reads' HO_3.out).2.2 t347 p348 q348; cases e348; replace p348 := eq_true p348; replace q348 := eq_true q348; have p21 : 0 ≤ (t347 : Int) := zA; have q21 : (t347 : Int) < ((x3_2.length : Int) : Int) := zA; obtain ⟨go21, co21, eo21, gb21, gl21, cl21, HG21⟩ := Kd.R_form HO_3.out (by omega); (first | cases eo21 | (injection eo21 with ea_ en_ ec_; (first | subst ea_ | (injection ea_ with ea_; subst ea_)); subst ec_; clear en_)); have GB21 := Aside0.mk gb21; have GG21 := Aside0.mk HG21; clear gb21 gl21 HG21; (first | simp only [add_plain] at hx348_0 | skip); obtain ⟨hx21_0, hf21_0⟩ := Kd.R_celln 0 HO_3.out (t347 : Int) p21 q21; replace p21 := eq_true p21; replace q21 := eq_true q21; obtain ⟨hy25_, hz25_⟩ := Kd.R_celln 0 HO_3.out (t347 : Int) (zA) (zA); have HP25 := Kd.R_putg HO_3.out (t347 : Int) (wrap64 ((rd x3_2 t347) + 1))) | ((with_reducible refine gate_store (t := 3) (p := 41) rfl ?_); refine store_event (t := 3) (p := 41) (v := ?vo_w26) (w1 := (w23.setCell ⟨go21, (t347 : Int).toNat, none⟩ (.int .i64 (wrap64 ((rd x3_2 t347) + 1))))) ?hg ?ho ?hn ?hr ?_; (case ho => rfl); (case hg => rfl); (case hn => rfl); (case hr => first | (go_simp; done) | (go_simp; rfl)); intro w26 hw; have hg : w23.grownBy w26 (some go21) := (by rw [hw]; exact HP25.2); have hp_ : Kd.R (Kd.int .i64) 3 w26 w.heap.size (fun _ => True) (.slice (some ⟨go21, 0, none⟩) x3_2.length co24) y349 := (by rw [hw, Ny349.out]; exact HP25.1); clear HP25; have n0_ := Aside0.mk (hp_); have n1_ := Aside0.mk (blk_grown (g := gb339) (o := .cells #[.int .i64 a0_0, .string a0_1] 26 (0, 0)) (zK BK339.out) hg (Kd.R_ne HO_3.out BK339.out (by decide))); have n2_ := Aside0.mk ((by rw [hw]; exact below_set (HB.out) GB21.out : Below w.heap.size w w26)); clear HO_3; clear BK339; clear HB; have HO_3 := n0_; have BK339 := n1_; have HB := n2_; clear n0_ n1_ n2_; clear hg hw hp_))
             go_roundg k2
             case measure => have := HK1.out; have := HK2.out; omega
             case rel => exact ⟨(y349), (wrap64 (x5_2 + 1)), zF, H', ⟨by have := HK1.out; have := HK2.out; omega⟩, ⟨zR HO_3.out⟩, ⟨zK BK339.out⟩, ⟨zG GE339.out⟩⟩
            ·rw [if_neg c20] at H
             exact absurd H (by simp)
           ·rw [if_neg c19] at H
            exact absurd H (by simp)
         ·rw [if_neg c15] at H
          have c15b0 : decide (x5_2 < a0_0) = false := decide_eq_false c15
          clear c15
          have H' := Aside0.mk H
          clear H
          have hcz27_0 : wr.cell? ⟨gb339, 0, none⟩ = some (.int .i64 a0_0) := (blk_cell BK339.out 0).trans rfl
          have hcz27_1 : wr.cell? ⟨gb339, 1, none⟩ = some (.string a0_1) := (blk_cell BK339.out 1).trans rfl
          have hfz27_0 := blk_frozen BK339.out 0
          have hfz27_1 := blk_frozen BK339.out 1
          go_wp2
          go_roundg k2
          case measure => have := HK1.out; have := HK2.out; omega
          case rel => exact ⟨(x3_2), (wrap64 (x4_1 + 1)), zF, H', ⟨by have := HK1.out; have := HK2.out; omega⟩, ⟨zR HO_3.out⟩, ⟨zK BK339.out⟩, ⟨zG GE339.out⟩⟩
      ·rw [if_neg c13] at H
       have c13b0 : decide (x4_1 < a0_0) = false := decide_eq_false c13
       clear c13
       obtain rfl := Option.some.inj H
       have hcz28_0 : wr.cell? ⟨gb339, 0, none⟩ = some (.int .i64 a0_0) := (blk_cell BK339.out 0).trans rfl
       have hcz28_1 : wr.cell? ⟨gb339, 1, none⟩ = some (.string a0_1) := (blk_cell BK339.out 1).trans rfl
       have hfz28_0 := blk_frozen BK339.out 0
       have hfz28_1 := blk_frozen BK339.out 1
       go_wp2
       go_ret
       exact ⟨_, by first | rfl | (simp [errW_none, errW_some] <;> rfl) | (simp only [← hji4]; first | rfl | (simp [errW_none, errW_some] <;> rfl)) | (simp [*, errW_none, errW_some] <;> rfl), zR HO_3.out, zG GE339.out⟩
   ·rw [if_neg c6] at H
    exact absurd H (by simp)
  ·rw [if_neg c5] at H
   exact absurd H (by simp)
 ·replace c3 := Bool.eq_false_iff.mpr c3
  subst c3
  have H1 : (some (([] : List Int))) = some r := by rw [if_neg (show ¬ (false = true) by decide)] at H; exact H
  clear H
  have H := H1
  clear H1
  obtain ⟨y341, hy341⟩ : ∃ y_ : List Int, y_ = (([] : List Int)) := ⟨_, rfl⟩
  replace H : (some y341) = some r := by first | (rw [hy341]; with_reducible exact H) | (have H2_ := (Option.bind_some _ _).symm.trans H; rw [hy341]; with_reducible exact H2_) | (have H2_ := (Option.bind_some _ _).symm.trans H; with_reducible exact H2_) | with_reducible exact H | (rw [hy341]; exact H) | exact H
  have Ny341 := Aside0.mk hy341
  clear hy341
  obtain rfl := Option.some.inj H
  go_enter Try.func21, Try.ntmps21
  go_wp2_with (first | ((with_reducible refine gate_dst (N := 1) rfl ?_); refine box_event ?hg (N := 1) ?hd (cs := #[.int .i64 a0_0, .string a0_1]) (t := 26) ?hr ?_; (case hd => rfl); (case hg => rfl); (case hr => first | (go_simp; done) | (go_simp; rfl)); intro gb339 hg w29 hbox hb; have BK339 := Aside0.mk (hbox); have GW339 := Aside0.mk ((by rw [hg]; exact (below_size zB) : w.heap.size ≤ gb339)); have GE339 := Aside0.mk ((by rw [hg]; exact (below_size zB) : w.heap.size ≤ gb339)); replace HB := Aside0.mk (below_step zB hb); clear hb hbox hg; have hcz30_0 : w29.cell? ⟨gb339, 0, none⟩ = some (.int .i64 a0_0) := (blk_cell BK339.out 0).trans rfl; have hcz30_1 : w29.cell? ⟨gb339, 1, none⟩ = some (.string a0_1) := (blk_cell BK339.out 1).trans rfl; have hfz30_0 := blk_frozen BK339.out 0; have hfz30_1 := blk_frozen BK339.out 1) | ((with_reducible refine gate_callee (f := 38) rfl ?_); refine goesL_ (some 8) rfl rfl Try.func38 (by kernel_rfl) rfl #[.agg #[.int .i64 a0_0, .string a0_1]] rfl zM ?_; (with_reducible refine (spec_IsAcyclic.calls k a0_0 a0_1 false _ A2.out).mono ?_); rintro e w31 ⟨rfl, hb⟩; refine ⟨_, rfl, ?_⟩; replace BK339 := Aside0.mk (blk_below (g := gb339) (o := .cells #[.int .i64 a0_0, .string a0_1] 26 (0, 0)) (zK BK339.out) hb); replace HB := Aside0.mk (below_step (zG GE339.out) hb); (try clear hb)) | ((with_reducible refine gate_dst (N := 10) rfl ?_); refine Kd.R_lit (Kd.int .i64) _ 3 ?hg (N := 10) ?hd (xs := ([] : List Int)) (inner := []) (ok := fun _ => True) (okp := fun _ => True) ?hr ?hp (fun _ hk => hk) trivial (Below.refl _ _) (Nat.le_refl _) (by simp) ?_; (case hd => rfl); (case hg => rfl); (case hr => first | (go_simp; done) | (go_simp; rfl)); (case hp => exact (Reps.none _ _)); intro v342 w32 ho33 hb hg_ hnew_; clear hg_ hnew_; (first | rw [← Ny341.out] at ho33 | (simp only [Int.reduceToNat] at ho33; rw [← Ny341.out] at ho33)); have HO343 := Aside0.mk (Kd.R_lower ho33 (below_size (zG GE339.out))); replace BK339 := Aside0.mk (blk_below (g := gb339) (o := .cells #[.int .i64 a0_0, .string a0_1] 26 (0, 0)) (zK BK339.out) hb); replace HB := Aside0.mk (below_step (zG GE339.out) hb); clear hb ho33))
  go_ret
  exact ⟨_, zE, zR HO343.out, zG GE339.out⟩
/-! ### impl_chi_left: function 43 -/
def impl_chi_left.l0 : Nat → List Int → Int → Int → Int → Int → Option (Int)
 | 0, _, _, _, _, _ => none
 | k + 1, x0, x1, x2, x7, x8 => if x8 < (rd x0 0) then (if 0 ≤ x1 then (if x1 < 7 then (if 0 ≤ x2 then (if x2 < 7 then (if 0 ≤ x8 then (if x8 < 7 then (if (rd3 x0 x1 x2 x8) = 1 then (impl_chi_left.l0 k x0 x1 x2 (wrap64 (x7 + 1)) (wrap64 (x8 + 1))) else (impl_chi_left.l0 k x0 x1 x2 x7 (wrap64 (x8 + 1)))) else (none)) else (none)) else (none)) else (none)) else (none)) else (none)) else (some x7)
def impl_chi_left.f (k : Nat) (l0 : List Int) (a1 : Int) (a2 : Int) : Option (Int) := impl_chi_left.l0 k l0 a1 a2 0 0
theorem impl_chi_left.mono_l : ∀ k, (∀ y0 y1 y2 y3 y4, LeO (impl_chi_left.l0 k y0 y1 y2 y3 y4) (impl_chi_left.l0 (k + 1) y0 y1 y2 y3 y4))
 | 0 => fun _ _ _ _ _ r h => by simp [impl_chi_left.l0] at h
 | k + 1 => by
  have ih0 := impl_chi_left.mono_l k
  ·intro y0 y1 y2 y3 y4
   unfold impl_chi_left.l0
   repeat' first
   | (with_reducible exact ih0 _ _ _ _ _)
   | (with_reducible exact LeO.refl _)
   | (with_reducible exact LeO.none _)
   | (with_reducible refine LeO.ite ?_ ?_)
   | (with_reducible refine LeO.bind ?_ (fun _ => ?_))
   | exact ih0 _ _ _ _ _
   | exact LeO.none _
   | refine LeO.ite ?_ ?_
   | refine LeO.bind ?_ (fun _ => ?_)
theorem impl_chi_left.mono : ∀ a0 a1 a2 k, LeO (impl_chi_left.f k a0 a1 a2) (impl_chi_left.f (k + 1) a0 a1 a2) := by
 intro a0 a1 a2 k
 have ih0 := impl_chi_left.mono_l k
 unfold impl_chi_left.f
 repeat' first
   | (with_reducible exact ih0 _ _ _ _ _)
   | (with_reducible exact LeO.refl _)
   | (with_reducible exact LeO.none _)
   | (with_reducible refine LeO.ite ?_ ?_)
   | (with_reducible refine LeO.bind ?_ (fun _ => ?_))
   | exact ih0 _ _ _ _ _
   | exact LeO.none _
   | refine LeO.ite ?_ ?_
   | refine LeO.bind ?_ (fun _ => ?_)
set_option maxHeartbeats 8000000 in
set_option maxRecDepth 100000 in
theorem impl_chi_left.calls (k : Nat) (g0 : Nat) (l0 : List Int) (a1 : Int) (a2 : Int) (r : Int) (w : World) (hr0 : Kd.C (Kd.int .i64) w (some ⟨g0, 0, none⟩) l0.length l0) (hc0 : l0.length = 344) (h : impl_chi_left.f k l0 a1 a2 = some r) :
  Calls Try.prog 43 #[.pointer (some ⟨g0, 0, none⟩), .int .i64 a1, .int .i64 a2] w fun e w' => e = .returned (.int .i64 r) ∧ Drawn0 w w' := by
 have hu68 := Try.underlying68
 have hu66 := Try.underlying66
 have hu65 := Try.underlying65
 have hu64 := Try.underlying64
 have HR0 := Aside0.mk hr0
 have HC0 := Aside0.mk hc0
 clear hr0 hc0
 have H : (impl_chi_left.l0 k l0 a1 a2 0 0) = some r := h
 clear h
 have H' := Aside0.mk H
 clear H
 go_enter Try.func43, Try.ntmps43
 go_wp2
 go_loopg [7, 8] k (fun kq v7 v8 w' => ∃ (x7_1 : Int) (x8_1 : Int), v7 = .int .i64 x7_1 ∧ v8 = .int .i64 x8_1 ∧ Aside0 (impl_chi_left.l0 kq l0 a1 a2 x7_1 x8_1 = some r) ∧ Aside0 (kq ≤ k) ∧ Drawn0 w w')
 case atStart => exact ⟨(0), (0), zF, zF, H', ⟨Nat.le_refl _⟩, by repeat (first | exact Drawn0.refl _ | apply Drawn0.step)⟩
 case round =>
  clear H'
  try clear p2
  obtain ⟨x7_1, x8_1, rfl, rfl, HA, HK1, ⟨m1, rfl⟩⟩ := hrel
  cases gk with
  | zero => exact absurd HA.out (by simp [impl_chi_left.l0])
  | succ k1 =>
   have H := HA.out
   clear HA
   simp only [impl_chi_left.l0] at H
   by_cases c4 : x8_1 < (rd l0 0)
   ·rw [if_pos c4] at H
    have c4b0 : decide (x8_1 < (rd l0 0)) = true := decide_eq_true c4
    clear c4
    by_cases c5 : 0 ≤ a1
    ·rw [if_pos c5] at H
     have c5b0 : decide (0 ≤ a1) = true := decide_eq_true c5
     clear c5
     by_cases c6 : a1 < 7
     ·rw [if_pos c6] at H
      have c6b0 : decide (a1 < 7) = true := decide_eq_true c6
      clear c6
      by_cases c7 : 0 ≤ a2
      ·rw [if_pos c7] at H
       have c7b0 : decide (0 ≤ a2) = true := decide_eq_true c7
       clear c7
       by_cases c8 : a2 < 7
       ·rw [if_pos c8] at H
        have c8b0 : decide (a2 < 7) = true := decide_eq_true c8
        clear c8
        by_cases c9 : 0 ≤ x8_1
        ·rw [if_pos c9] at H
         have c9b0 : decide (0 ≤ x8_1) = true := decide_eq_true c9
         clear c9
         by_cases c10 : x8_1 < 7
         ·rw [if_pos c10] at H
          have c10b0 : decide (x8_1 < 7) = true := decide_eq_true c10
          clear c10
          by_cases c11 : (rd3 l0 a1 a2 x8_1) = 1
          ·rw [if_pos c11] at H
           have c11b0 : ((rd3 l0 a1 a2 x8_1) == 1) = true := beq_iff_eq.mpr c11
           have c11b1 : ((rd3 l0 a1 a2 x8_1) != 1) = false := bne_eq_false_iff_eq.mpr c11
           clear c11
           have H' := Aside0.mk H
           clear H
           have hL265 := HC0.out
           have dq265 : decide (0 < (l0.length : Int)) = true := decide_eq_true (by omega)
           clear hL265
           have p265 : 0 ≤ (0 : Int) := (by omega)
           have q265 : 0 < (l0.length : Int) := zA
           obtain ⟨ad265, e265, hx265_0⟩ := Kd.at_int HR0.out 0 p265 q265
           obtain rfl : (⟨g0, 0, none⟩ : Addr) = ad265 := (by injection e265)
           (first | simp only [add_plain] at hx265_0 | simp only [add_at] at hx265_0 | simp only [Addr.add, Nat.zero_add] at hx265_0 | skip)
           have qi265 : (0 < l0.length) = True := eq_true (by omega)
           (try rw [show ((0 : Int)).toNat = 0 from rfl] at hx265_0)
           (try rw [Addr.add_zero'] at hx265_0)
           replace p265 := eq_true p265
           replace q265 := eq_true q265
           clear dq265
           have pz266_0 : 0 ≤ (a1 : Int) := zA
           have pz266_1 : 0 ≤ (a2 : Int) := zA
           have pz266_2 : 0 ≤ (x8_1 : Int) := zA
           have qz266_0 : (a1 : Int) < 7 := zA
           have qz266_1 : (a2 : Int) < 7 := zA
           have qz266_2 : (x8_1 : Int) < 7 := zA
           have hL266 := HC0.out
           have dp266 : decide (0 ≤ ((1 + a1 * 49 + a2 * 7 + x8_1) : Int)) = true := decide_eq_true (by omega)
           have dq266 : decide ((1 + a1 * 49 + a2 * 7 + x8_1) < (l0.length : Int)) = true := decide_eq_true (by omega)
           clear hL266
           have p266 : 0 ≤ ((1 + a1 * 49 + a2 * 7 + x8_1) : Int) := zA
           have q266 : (1 + a1 * 49 + a2 * 7 + x8_1) < (l0.length : Int) := zA
           obtain ⟨ad266, e266, hx266_0⟩ := Kd.at_int HR0.out (1 + a1 * 49 + a2 * 7 + x8_1) p266 q266
           obtain rfl : (⟨g0, 0, none⟩ : Addr) = ad266 := (by injection e266)
           (first | simp only [add_plain] at hx266_0 | simp only [add_at] at hx266_0 | simp only [Addr.add, Nat.zero_add] at hx266_0 | skip)
           replace p266 := eq_true p266
           replace q266 := eq_true q266
           clear dp266 dq266
           clear p266 q266
           rw [show ((1 + a1 * 49 + a2 * 7 + x8_1) : Int).toNat = 1 + (a1).toNat * 49 + (a2).toNat * 7 + (x8_1).toNat from by omega] at hx266_0
           change _ = some (Value.int .i64 (rd3 l0 a1 a2 x8_1)) at hx266_0
           replace pz266_0 := eq_true pz266_0
           replace pz266_1 := eq_true pz266_1
           replace pz266_2 := eq_true pz266_2
           replace qz266_0 := eq_true qz266_0
           replace qz266_1 := eq_true qz266_1
           replace qz266_2 := eq_true qz266_2
           go_wp2
           go_roundg k1
           case measure => have := HK1.out; omega
           case rel => exact ⟨(wrap64 (x7_1 + 1)), (wrap64 (x8_1 + 1)), zF, zF, H', ⟨by have := HK1.out; omega⟩, by repeat (first | exact Drawn0.refl _ | apply Drawn0.step)⟩
          ·rw [if_neg c11] at H
           have c11b0 : ((rd3 l0 a1 a2 x8_1) == 1) = false := beq_eq_false_iff_ne.mpr c11
           have c11b1 : ((rd3 l0 a1 a2 x8_1) != 1) = true := bne_iff_ne.mpr c11
           have H' := Aside0.mk H
           clear H
           have hL265 := HC0.out
           have dq265 : decide (0 < (l0.length : Int)) = true := decide_eq_true (by omega)
           clear hL265
           have p265 : 0 ≤ (0 : Int) := (by omega)
           have q265 : 0 < (l0.length : Int) := zA
           obtain ⟨ad265, e265, hx265_0⟩ := Kd.at_int HR0.out 0 p265 q265
           obtain rfl : (⟨g0, 0, none⟩ : Addr) = ad265 := (by injection e265)
           (first | simp only [add_plain] at hx265_0 | simp only [add_at] at hx265_0 | simp only [Addr.add, Nat.zero_add] at hx265_0 | skip)
           have qi265 : (0 < l0.length) = True := eq_true (by omega)
           (try rw [show ((0 : Int)).toNat = 0 from rfl] at hx265_0)
           (try rw [Addr.add_zero'] at hx265_0)
           replace p265 := eq_true p265
           replace q265 := eq_true q265
           clear dq265
           have pz266_0 : 0 ≤ (a1 : Int) := zA
           have pz266_1 : 0 ≤ (a2 : Int) := zA
           have pz266_2 : 0 ≤ (x8_1 : Int) := zA
           have qz266_0 : (a1 : Int) < 7 := zA
           have qz266_1 : (a2 : Int) < 7 := zA
           have qz266_2 : (x8_1 : Int) < 7 := zA
           have hL266 := HC0.out
           have dp266 : decide (0 ≤ ((1 + a1 * 49 + a2 * 7 + x8_1) : Int)) = true := decide_eq_true (by omega)
           have dq266 : decide ((1 + a1 * 49 + a2 * 7 + x8_1) < (l0.length : Int)) = true := decide_eq_true (by omega)
           clear hL266
           have p266 : 0 ≤ ((1 + a1 * 49 + a2 * 7 + x8_1) : Int) := zA
           have q266 : (1 + a1 * 49 + a2 * 7 + x8_1) < (l0.length : Int) := zA
           obtain ⟨ad266, e266, hx266_0⟩ := Kd.at_int HR0.out (1 + a1 * 49 + a2 * 7 + x8_1) p266 q266
           obtain rfl : (⟨g0, 0, none⟩ : Addr) = ad266 := (by injection e266)
           (first | simp only [add_plain] at hx266_0 | simp only [add_at] at hx266_0 | simp only [Addr.add, Nat.zero_add] at hx266_0 | skip)
           replace p266 := eq_true p266
           replace q266 := eq_true q266
           clear dp266 dq266
           clear p266 q266
           rw [show ((1 + a1 * 49 + a2 * 7 + x8_1) : Int).toNat = 1 + (a1).toNat * 49 + (a2).toNat * 7 + (x8_1).toNat from by omega] at hx266_0
           change _ = some (Value.int .i64 (rd3 l0 a1 a2 x8_1)) at hx266_0
           replace pz266_0 := eq_true pz266_0
           replace pz266_1 := eq_true pz266_1
           replace pz266_2 := eq_true pz266_2
           replace qz266_0 := eq_true qz266_0
           replace qz266_1 := eq_true qz266_1
           replace qz266_2 := eq_true qz266_2
           go_wp2
           go_roundg k1
           case measure => have := HK1.out; omega
           case rel => exact ⟨(x7_1), (wrap64 (x8_1 + 1)), zF, zF, H', ⟨by have := HK1.out; omega⟩, by repeat (first | exact Drawn0.refl _ | apply Drawn0.step)⟩
         ·rw [if_neg c10] at H
          exact absurd H (by simp)
        ·rw [if_neg c9] at H
         exact absurd H (by simp)
       ·rw [if_neg c8] at H
        exact absurd H (by simp)
      ·rw [if_neg c7] at H
       exact absurd H (by simp)
     ·rw [if_neg c6] at H
      exact absurd H (by simp)
    ·rw [if_neg c5] at H
     exact absurd H (by simp)
   ·rw [if_neg c4] at H
    have c4b0 : decide (x8_1 < (rd l0 0)) = false := decide_eq_false c4
    clear c4
    obtain rfl := Option.some.inj H
    have hL265 := HC0.out
    have dq265 : decide (0 < (l0.length : Int)) = true := decide_eq_true (by omega)
    clear hL265
    have p265 : 0 ≤ (0 : Int) := (by omega)
    have q265 : 0 < (l0.length : Int) := zA
    obtain ⟨ad265, e265, hx265_0⟩ := Kd.at_int HR0.out 0 p265 q265
    obtain rfl : (⟨g0, 0, none⟩ : Addr) = ad265 := (by injection e265)
    (first | simp only [add_plain] at hx265_0 | simp only [add_at] at hx265_0 | simp only [Addr.add, Nat.zero_add] at hx265_0 | skip)
    have qi265 : (0 < l0.length) = True := eq_true (by omega)
    (try rw [show ((0 : Int)).toNat = 0 from rfl] at hx265_0)
    (try rw [Addr.add_zero'] at hx265_0)
    replace p265 := eq_true p265
    replace q265 := eq_true q265
    clear dq265
    go_wp2
    go_ret
    exact ⟨by first | rfl | (simp; done) | (simp [*]; done), by repeat (first | exact Drawn0.refl _ | apply Drawn0.step)⟩
/-! ### impl_LeftTable: function 17 -/
mutual
def impl_LeftTable.l0 : Nat → List Int → List (List Int) → Int → Int → ByteArray → Option ((List (List Int)))
 | 0, _, _, _, _, _ => none
 | k + 1, x3, x5, x6, x304000, x304001 => if x6 < x304000 then (if 0 ≤ x304000 then (if (x304000 : Int).toNat ≤ 35184372088832 then ((some (List.replicate (x304000 : Int).toNat 0 : List Int)).bind fun y308 => (impl_LeftTable.l1 k x3 x5 x6 y308 (y308.length : Int) 0 x304000 x304001)) else (none)) else (none)) else (some x5)
def impl_LeftTable.l1 : Nat → List Int → List (List Int) → Int → List Int → Int → Int → Int → ByteArray → Option ((List (List Int)))
 | 0, _, _, _, _, _, _, _, _ => none
 | k + 1, x3, x5, x6, x7, x26, x27, x304000, x304001 => if x27 < x26 then (if x6 = x27 then (impl_LeftTable.l1 k x3 x5 x6 x7 x26 (wrap64 (x27 + 1)) x304000 x304001) else (if x3.length = 344 then ((impl_chi_left.f k x3 x6 x27).bind fun t311 => (if 0 ≤ x27 then (if x27 < (x7.length : Int) then (impl_LeftTable.l1 k x3 x5 x6 (x7.set (x27 : Int).toNat t311) x26 (wrap64 (x27 + 1)) x304000 x304001) else (none)) else (none))) else (none))) else (if x5.length < 5864062014805 then (impl_LeftTable.l0 k x3 (x5 ++ [x7]) (wrap64 (x6 + 1)) x304000 x304001) else (none))
end
def impl_LeftTable.f (k : Nat) (a0_0 : Int) (a0_1 : ByteArray) : Option ((List (List Int))) := (impl_orderOf.f k a0_0 a0_1).bind fun bt304 => (if bt304.2 = true then (impl_LeftTable.l0 k bt304.1 ([] : List (List Int)) 0 a0_0 a0_1) else (some ([] : List (List Int))))
theorem impl_LeftTable.mono_l : ∀ k, (∀ y0 y1 y2 y3 y4, LeO (impl_LeftTable.l0 k y0 y1 y2 y3 y4) (impl_LeftTable.l0 (k + 1) y0 y1 y2 y3 y4)) ∧ (∀ y0 y1 y2 y3 y4 y5 y6 y7, LeO (impl_LeftTable.l1 k y0 y1 y2 y3 y4 y5 y6 y7) (impl_LeftTable.l1 (k + 1) y0 y1 y2 y3 y4 y5 y6 y7))
 | 0 => ⟨fun _ _ _ _ _ r h => by simp [impl_LeftTable.l0] at h, fun _ _ _ _ _ _ _ _ r h => by simp [impl_LeftTable.l1] at h⟩
 | k + 1 => by
  obtain ⟨ih0, ih1⟩ := impl_LeftTable.mono_l k
  refine ⟨?_, ?_⟩ <;> intros <;> (first | unfold impl_LeftTable.l0 | unfold impl_LeftTable.l1) <;> repeat' first
  | (with_reducible exact ih0 _ _ _ _ _)
  | (with_reducible exact ih1 _ _ _ _ _ _ _ _)
  | (with_reducible exact impl_chi_left.mono _ _ _ _)
  | (with_reducible exact impl_orderOf.mono _ _ _)
  | (with_reducible exact LeO.refl _)
  | (with_reducible exact LeO.none _)
  | (with_reducible refine LeO.ite ?_ ?_)
  | (with_reducible refine LeO.bind ?_ (fun _ => ?_))
  | exact ih0 _ _ _ _ _
  | exact ih1 _ _ _ _ _ _ _ _
  | exact impl_chi_left.mono _ _ _ _
  | exact impl_orderOf.mono _ _ _
  | exact LeO.none _
  | refine LeO.ite ?_ ?_
  | refine LeO.bind ?_ (fun _ => ?_)
theorem impl_LeftTable.mono : ∀ a0 a1 k, LeO (impl_LeftTable.f k a0 a1) (impl_LeftTable.f (k + 1) a0 a1) := by
 intro a0 a1 k
 obtain ⟨ih0, ih1⟩ := impl_LeftTable.mono_l k
 unfold impl_LeftTable.f
 repeat' first
   | (with_reducible exact ih0 _ _ _ _ _)
   | (with_reducible exact ih1 _ _ _ _ _ _ _ _)
   | (with_reducible exact impl_chi_left.mono _ _ _ _)
   | (with_reducible exact impl_orderOf.mono _ _ _)
   | (with_reducible exact LeO.refl _)
   | (with_reducible exact LeO.none _)
   | (with_reducible refine LeO.ite ?_ ?_)
   | (with_reducible refine LeO.bind ?_ (fun _ => ?_))
   | exact ih0 _ _ _ _ _
   | exact ih1 _ _ _ _ _ _ _ _
   | exact impl_chi_left.mono _ _ _ _
   | exact impl_orderOf.mono _ _ _
   | exact LeO.none _
   | refine LeO.ite ?_ ?_
   | refine LeO.bind ?_ (fun _ => ?_)
set_option maxHeartbeats 8000000 in
set_option maxRecDepth 100000 in
theorem impl_LeftTable.calls (k : Nat) (a0_0 : Int) (a0_1 : ByteArray) (r : List (List Int)) (w : World) (h : impl_LeftTable.f k a0_0 a0_1 = some r) :
  Calls Try.prog 17 #[.agg #[.int .i64 a0_0, .string a0_1]] w fun e w' => ∃ v0_ : Value, e = .returned (v0_) ∧ Kd.S (Kd.slice 3 (Kd.int .i64)) 34 w' w.heap.size (fun _ => True) v0_ r ∧ Below w.heap.size w w' := by
 have hu26 := Try.underlying26
 have HB := Aside0.mk (Below.refl w.heap.size w)
 have H : ((impl_orderOf.f k a0_0 a0_1).bind fun bt304 => (if bt304.2 = true then (impl_LeftTable.l0 k bt304.1 ([] : List (List Int)) 0 a0_0 a0_1) else (some ([] : List (List Int))))) = some r := h
 clear h
 replace H := Option.bind_eq_some_iff.mp H
 obtain ⟨⟨t304, t307⟩, A20, H⟩ := H
 replace H : (if t307 = true then (impl_LeftTable.l0 k t304 ([] : List (List Int)) 0 a0_0 a0_1) else (some ([] : List (List Int)))) = some r := H
 have A2 := Aside0.mk A20
 clear A20
 by_cases c3 : t307 = true
 ·subst c3
  have H1 : (impl_LeftTable.l0 k t304 ([] : List (List Int)) 0 a0_0 a0_1) = some r := by rw [if_pos rfl] at H; exact H
  clear H
  have H := H1
  clear H1
  have H' := Aside0.mk H
  clear H
  go_enter Try.func17, Try.ntmps17
  go_wp2_with (first | ((with_reducible refine gate_dst (N := 1) rfl ?_); refine box_event ?hg (N := 1) ?hd (cs := #[.int .i64 a0_0, .string a0_1]) (t := 26) ?hr ?_; (case hd => rfl); (case hg => rfl); (case hr => first | (go_simp; done) | (go_simp; rfl)); intro gb303 hg w4 hbox hb; have BK303 := Aside0.mk (hbox); have GW303 := Aside0.mk ((by rw [hg]; exact (below_size zB) : w.heap.size ≤ gb303)); have GE303 := Aside0.mk ((by rw [hg]; exact (below_size zB) : w.heap.size ≤ gb303)); replace HB := Aside0.mk (below_step zB hb); clear hb hbox hg; have hcz5_0 : w4.cell? ⟨gb303, 0, none⟩ = some (.int .i64 a0_0) := (blk_cell BK303.out 0).trans rfl; have hcz5_1 : w4.cell? ⟨gb303, 1, none⟩ = some (.string a0_1) := (blk_cell BK303.out 1).trans rfl; have hfz5_0 := blk_frozen BK303.out 0; have hfz5_1 := blk_frozen BK303.out 1) | ((with_reducible refine gate_callee (f := 41) rfl ?_); refine goesL_ (some 11) rfl rfl Try.func41 (by kernel_rfl) rfl #[.agg #[.int .i64 a0_0, .string a0_1]] rfl zM ?_; (with_reducible refine (impl_orderOf.calls k a0_0 a0_1 t304 true _ A2.out).mono ?_); rintro e w6 ⟨v305, rfl, ho0, hb⟩; refine ⟨_, rfl, ?_⟩; have HO306 := Aside0.mk (Kd.R_lower ho0 (below_size (zG GE303.out))); replace BK303 := Aside0.mk (blk_below (g := gb303) (o := .cells #[.int .i64 a0_0, .string a0_1] 26 (0, 0)) (zK BK303.out) hb); replace HB := Aside0.mk (below_step (zG GE303.out) hb); (try clear hb); (try clear ho0)))
  go_loopg [5, 6] k (fun kq v5 v6 w' => ∃ (x5_1 : List (List Int)) (x6_1 : Int), v6 = .int .i64 x6_1 ∧ Aside0 (impl_LeftTable.l0 kq t304 x5_1 x6_1 a0_0 a0_1 = some r) ∧ Aside0 (kq ≤ k) ∧ Aside0 (Kd.R (Kd.int .i64) 68 w' w.heap.size (fun _ => True) v305 t304) ∧ Aside0 (Kd.S (Kd.slice 3 (Kd.int .i64)) 34 w' w.heap.size (fun _ => True) v5 x5_1) ∧ Aside0 (w'.heap[gb303]? = some (.cells #[.int .i64 a0_0, .string a0_1] 26 (0, 0))) ∧ Aside0 (Below w.heap.size w w'))
  case atStart => exact ⟨(([] : List (List Int))), (0), zF, H', ⟨Nat.le_refl _⟩, ⟨zR HO306.out⟩, ⟨by first | exact Kd.S_nil _ _ _ _ _ | exact Kd.N_nil _ _ _ _ _ | exact Kd.V_nil _ _ _ _ _ | exact Kd.Q_nil _ _ _ _ _ | exact Kd.R_nil _ _ _ _ _⟩, ⟨zK BK303.out⟩, ⟨zG GE303.out⟩⟩
  case round =>
   clear H'
   try clear c1
   try clear p2
   try clear c3
   try clear c4
   try clear hcz5_0
   try clear hcz5_1
   try clear hfz5_0
   try clear hfz5_1
   obtain ⟨x5_1, x6_1, rfl, HA, HK1, HO_3, HO_5, BK303, HB⟩ := hrel
   cases gk with
   | zero => exact absurd HA.out (by simp [impl_LeftTable.l0])
   | succ k1 =>
    have H := HA.out
    clear HA
    simp only [impl_LeftTable.l0] at H
    by_cases c7 : x6_1 < a0_0
    ·rw [if_pos c7] at H
     have c7b0 : decide (x6_1 < a0_0) = true := decide_eq_true c7
     clear c7
     by_cases c8 : 0 ≤ a0_0
     ·rw [if_pos c8] at H
      have c8b0 := eq_true c8
      have c8b1 : decide (0 ≤ a0_0) = true := decide_eq_true c8
      clear c8
      by_cases c9 : (a0_0 : Int).toNat ≤ 35184372088832
      ·rw [if_pos c9] at H
       have c9b0 := eq_true c9
       have c9b1 : decide ((a0_0 : Int).toNat ≤ 35184372088832) = true := decide_eq_true c9
       clear c9
       obtain ⟨y308, hy308⟩ : ∃ y_ : List Int, y_ = (List.replicate (a0_0 : Int).toNat 0) := ⟨_, rfl⟩
       replace H : (impl_LeftTable.l1 k1 t304 x5_1 x6_1 y308 (y308.length : Int) 0 a0_0 a0_1) = some r := by first | (rw [hy308]; with_reducible exact H) | (have H2_ := (Option.bind_some _ _).symm.trans H; rw [hy308]; with_reducible exact H2_) | (have H2_ := (Option.bind_some _ _).symm.trans H; with_reducible exact H2_) | with_reducible exact H | (rw [hy308]; exact H) | exact H
       have Ny308 := Aside0.mk hy308
       clear hy308
       have H' := Aside0.mk H
       clear H
       have hcz10_0 : wr.cell? ⟨gb303, 0, none⟩ = some (.int .i64 a0_0) := (blk_cell BK303.out 0).trans rfl
       have hcz10_1 : wr.cell? ⟨gb303, 1, none⟩ = some (.string a0_1) := (blk_cell BK303.out 1).trans rfl
       have hfz10_0 := blk_frozen BK303.out 0
       have hfz10_1 := blk_frozen BK303.out 1
       go_wp2_with (first | ((with_reducible refine gate_dst (N := 24) rfl ?_); refine Kd.R_make (Kd.int .i64) _ 3 rfl (N := 24) rfl 34 _ _ rfl a0_0 rfl rfl Try.underlying34 (.int .i64 0) 8 info3 rfl (by decide) (by omega) 0 (ok := fun _ => True) (okp := fun _ => True) rfl (fun _ hk => hk) trivial (zA) (Nat.le_trans (Nat.mul_le_mul_right _ (zA : a0_0.toNat ≤ 35184372088832)) (by omega)) (Below.refl _ _) (Nat.le_refl _) ?_; intro v309 w11 ho12 hb hg_ hnew_; clear hg_ hnew_; (first | rw [← Ny308.out] at ho12 | (simp only [Int.reduceToNat] at ho12; rw [← Ny308.out] at ho12)); replace HO_3 := Aside0.mk (Kd.R_below (zR HO_3.out) hb); replace HO_5 := Aside0.mk (Kd.S_elder' (by (with_reducible repeat (first | apply Kd.S_alloc | apply Kd.S_drewN | apply Kd.S_drew)); exact HO_5.out) (Kd.R_base ho12) hb); have HO310 := Aside0.mk (Kd.R_lower ho12 (below_size (zG GE303.out))); replace BK303 := Aside0.mk (blk_below (g := gb303) (o := .cells #[.int .i64 a0_0, .string a0_1] 26 (0, 0)) (zK BK303.out) hb); replace HB := Aside0.mk (below_step (zG GE303.out) hb); clear hb ho12; obtain ⟨Ao13, co13, eo13⟩ := Kd.R_slice HO310.out; subst eo13))
       go_loopg [27] k1 (fun kq v27 w' => ∃ (x7_2 : List Int) (x27_2 : Int), v27 = .int .i64 x27_2 ∧ Aside0 (impl_LeftTable.l1 kq t304 x5_1 x6_1 x7_2 (y308.length : Int) x27_2 a0_0 a0_1 = some r) ∧ Aside0 (kq ≤ k1) ∧ Aside0 (Kd.R (Kd.int .i64) 68 w' w.heap.size (fun _ => True) v305 t304) ∧ Aside0 (Kd.S (Kd.slice 3 (Kd.int .i64)) 34 w' w.heap.size (fun k_ => some k_ ≠ ((.slice Ao13 y308.length co13) : Value).ownBlock) u5 x5_1) ∧ Aside0 (Kd.R (Kd.int .i64) 3 w' w.heap.size (fun _ => True) (.slice Ao13 y308.length co13) x7_2) ∧ Aside0 (w'.heap[gb303]? = some (.cells #[.int .i64 a0_0, .string a0_1] 26 (0, 0))) ∧ Aside0 (Below w.heap.size w w'))
       case atStart => exact ⟨(y308), (0), zF, H', ⟨Nat.le_refl _⟩, ⟨zR HO_3.out⟩, ⟨by (with_reducible repeat (first | apply Kd.S_alloc | apply Kd.S_drewN | apply Kd.S_drew)); exact Kd.S_mono HO_5.out (fun _ hk => hk.2)⟩, ⟨zR HO310.out⟩, ⟨zK BK303.out⟩, ⟨zG GE303.out⟩⟩
       case round =>
        clear H'
        try clear c1
        try clear p2
        try clear c3
        try clear c4
        try clear c7
        try clear c7b0
        try clear c8
        try clear c8b0
        try clear c8b1
        try clear c9
        try clear c9b0
        try clear c9b1
        try clear hcz10_0
        try clear hcz10_1
        try clear hcz5_0
        try clear hcz5_1
        try clear hfz10_0
        try clear hfz10_1
        try clear hfz5_0
        try clear hfz5_1
        try clear p2
        obtain ⟨x7_2, x27_2, rfl, HA, HK2, HO_3, HO_5, HO_7, BK303, HB⟩ := hrel
        have hl7_2 := (Kd.R_reads' HO_7.out).1
        rw [hl7_2] at HO_7
        (try simp only [hl7_2])
        (try simp only [hl7_2] at BK303)
        (try simp only [hl7_2] at HO_3)
        (try simp only [hl7_2] at HO_5)
        cases gk with
        | zero => exact absurd HA.out (by simp [impl_LeftTable.l1])
        | succ k2 =>
         have H := HA.out
         clear HA
         simp only [impl_LeftTable.l1] at H
         by_cases c14 : x27_2 < (y308.length : Int)
         ·rw [if_pos c14] at H
          have c14b0 : decide (x27_2 < (y308.length : Int)) = true := decide_eq_true c14
          (try simp only [hl7_2] at c14b0)
          clear c14
          by_cases c15 : x6_1 = x27_2
          ·rw [if_pos c15] at H
           have c15b0 : (x6_1 == x27_2) = true := beq_iff_eq.mpr c15
           have c15b1 : (x6_1 != x27_2) = false := bne_eq_false_iff_eq.mpr c15
           clear c15
           have H' := Aside0.mk H
           clear H
           go_wp2
           (try simp only [← hl7_2])
           go_roundg k2
           case measure => have := HK1.out; have := HK2.out; omega
           case rel => exact ⟨(x7_2), (wrap64 (x27_2 + 1)), zF, H', ⟨by have := HK1.out; have := HK2.out; omega⟩, ⟨by (try simp only [hl7_2]); (with_reducible repeat (first | apply Kd.R_alloc | apply Kd.R_drewN | apply Kd.R_drew)); exact HO_3.out⟩, ⟨by (try simp only [hl7_2]); (with_reducible repeat (first | apply Kd.S_alloc | apply Kd.S_drewN | apply Kd.S_drew)); exact HO_5.out⟩, ⟨by (try simp only [hl7_2]); (with_reducible repeat (first | apply Kd.R_alloc | apply Kd.R_drewN | apply Kd.R_drew)); exact HO_7.out⟩, ⟨by (try simp only [hl7_2]); (with_reducible repeat (first | refine blk_drewN ?_ _ | refine blk_drew ?_ | refine blk_alloc ?_ _)); exact BK303.out⟩, ⟨zG GE303.out⟩⟩
          ·rw [if_neg c15] at H
           have c15b0 : (x6_1 == x27_2) = false := beq_eq_false_iff_ne.mpr c15
           have c15b1 : (x6_1 != x27_2) = true := bne_iff_ne.mpr c15
           by_cases c16 : t304.length = 344
           ·rw [if_pos c16] at H
            have c16b0 := eq_true c16
            have c16b1 : decide (t304.length = 344) = true := decide_eq_true c16
            clear c16
            replace H := Option.bind_eq_some_iff.mp H
            obtain ⟨t311, A170, H⟩ := H
            replace H : (if 0 ≤ x27_2 then (if x27_2 < (x7_2.length : Int) then (impl_LeftTable.l1 k2 t304 x5_1 x6_1 (x7_2.set (x27_2 : Int).toNat t311) (y308.length : Int) (wrap64 (x27_2 + 1)) a0_0 a0_1) else (none)) else (none)) = some r := H
            have A17 := Aside0.mk A170
            clear A170
            by_cases c18 : 0 ≤ x27_2
            ·rw [if_pos c18] at H
             have c18b0 : decide (0 ≤ x27_2) = true := decide_eq_true c18
             clear c18
             by_cases c19 : x27_2 < (x7_2.length : Int)
             ·rw [if_pos c19] at H
              have c19b0 : decide (x27_2 < (x7_2.length : Int)) = true := decide_eq_true c19
              clear c19
              obtain ⟨y312, hy312⟩ : ∃ y_ : List Int, y_ = (x7_2.set (x27_2 : Int).toNat t311) := ⟨_, rfl⟩
              replace H : (impl_LeftTable.l1 k2 t304 x5_1 x6_1 y312 (y308.length : Int) (wrap64 (x27_2 + 1)) a0_0 a0_1) = some r := by first | (rw [hy312]; with_reducible exact H) | (have H2_ := (Option.bind_some _ _).symm.trans H; rw [hy312]; with_reducible exact H2_) | (have H2_ := (Option.bind_some _ _).symm.trans H; with_reducible exact H2_) | with_reducible exact H | (rw [hy312]; exact H) | exact H
              have Ny312 := Aside0.mk hy312
              clear hy312
              have H' := Aside0.mk H
              clear H
              obtain ⟨go21, co21, eo21, gb21, gl21, cl21, HG21⟩ := Kd.R_form HO_3.out (by have hl_ := Nat.le_of_eq (Eq.symm (zA : t304.length = 344)); omega)
              (first | cases eo21 | (injection eo21 with ea_ en_ ec_; (first | subst ea_ | (injection ea_ with ea_; subst ea_)); subst ec_; clear en_))
              have GB21 := Aside0.mk gb21
              have GG21 := Aside0.mk HG21
              clear gb21 gl21 HG21
              go_wp2_with (first | ((with_reducible refine gate_callee (f := 43) rfl ?_); refine goesL_ (some 38) rfl rfl Try.func43 (by kernel_rfl) rfl #[.pointer (some ⟨go21, 0, none⟩), .int .i64 x6_1, .int .i64 x27_2] rfl zM ?_; (with_reducible refine (impl_chi_left.calls k2 _ t304 x6_1 x27_2 t311 _ ?side1 ?side2 A17.out).mono ?_); (case side1 => repeat (first | exact (Kd.R_reads' HO_3.out).2.2 | (with_reducible refine Kd.C_alloc ?_ _) | (with_reducible refine Kd.C_drewN ?_ _) | (with_reducible refine Kd.C_drew ?_))); (case side2 => exact (zA : t304.length = 344)); rintro e w' ⟨rfl, ⟨nd, rfl⟩⟩; refine ⟨_, rfl, ?_⟩; (try (rw [drewN_self wr]; generalize hq_ : World.drewN wr _ = wr; have n0_ : Aside0 (Kd.R (Kd.int .i64) 68 wr w.heap.size (fun _ => True) (.slice (some ⟨go21, 0, none⟩) t304.length co21) t304) := ⟨by rw [← hq_]; exact (zR HO_3.out)⟩; have n1_ : Aside0 (Kd.S (Kd.slice 3 (Kd.int .i64)) 34 wr w.heap.size (fun k_ => some k_ ≠ (.slice Ao13 x7_2.length co13 : Value).ownBlock) u5 x5_1) := ⟨by rw [← hq_]; exact (by (with_reducible repeat (first | apply Kd.S_alloc | apply Kd.S_drewN | apply Kd.S_drew)); exact HO_5.out)⟩; have n2_ : Aside0 (Kd.R (Kd.int .i64) 3 wr w.heap.size (fun _ => True) (.slice Ao13 x7_2.length co13) x7_2) := ⟨by rw [← hq_]; exact (zR HO_7.out)⟩; have n3_ : Aside0 (wr.heap[gb303]? = some (.cells #[.int .i64 a0_0, .string a0_1] 26 (0, 0))) := ⟨by rw [← hq_]; exact (zK BK303.out)⟩; have n4_ : Aside0 (Below w.heap.size w wr) := ⟨by rw [← hq_]; exact (zG GE303.out)⟩; clear HO_3 HO_5 HO_7 BK303 HB hq_; have HO_3 := n0_; have HO_5 := n1_; have HO_7 := n2_; have BK303 := n3_; have HB := n4_; clear n0_ n1_ n2_ n3_ n4_)); have p20 : 0 ≤ (x27_2 : Int) := zA; have q20 : (x27_2 : Int) < ((x7_2.length : Int) : Int) := zA; obtain ⟨go20, co20, eo20, gb20, gl20, cl20, HG20⟩ := Kd.R_form HO_7.out (by omega); (first | cases eo20 | (injection eo20 with ea_ en_ ec_; (first | subst ea_ | (injection ea_ with ea_; subst ea_)); subst ec_; clear en_)); have GB20 := Aside0.mk gb20; have GG20 := Aside0.mk HG20; clear gb20 gl20 HG20; obtain ⟨hx20_0, hf20_0⟩ := Kd.R_celln 0 HO_7.out (x27_2 : Int) p20 q20; replace p20 := eq_true p20; replace q20 := eq_true q20; obtain ⟨hy22_, hz22_⟩ := Kd.R_celln 0 HO_7.out (x27_2 : Int) (zA) (zA); have HP22 := Kd.R_putg HO_7.out (x27_2 : Int) t311) | ((with_reducible refine gate_store (t := 3) (p := 39) rfl ?_); refine store_event (t := 3) (p := 39) (v := ?vo_w23) (w1 := (wr.setCell ⟨go20, (x27_2 : Int).toNat, none⟩ (.int .i64 t311))) ?hg ?ho ?hn ?hr ?_; (case ho => rfl); (case hg => rfl); (case hn => rfl); (case hr => first | (go_simp; done) | (go_simp; rfl)); intro w23 hw; have hg : wr.grownBy w23 (some go20) := (by rw [hw]; exact HP22.2); have hp_ : Kd.R (Kd.int .i64) 3 w23 w.heap.size (fun _ => True) (.slice (some ⟨go20, 0, none⟩) x7_2.length co13) y312 := (by rw [hw, Ny312.out]; exact HP22.1); clear HP22; have n0_ := Aside0.mk (Kd.R_over' (v := (.slice (some ⟨go20, 0, none⟩) x7_2.length co13)) (zR HO_3.out) (Kd.R_typed HO_7.out) (by decide) hg); have n1_ := Aside0.mk (Kd.S_after (v := (.slice (some ⟨go20, 0, none⟩) x7_2.length co13)) (v1 := (.slice (some ⟨go20, 0, none⟩) x7_2.length co13)) (ok := (fun _ => True)) (by (with_reducible repeat (first | apply Kd.S_alloc | apply Kd.S_drewN | apply Kd.S_drew)); exact Kd.S_mono HO_5.out (fun _ hk => ⟨trivial, hk⟩)) hg (.inl rfl)); have n2_ := Aside0.mk (hp_); have n3_ := Aside0.mk (blk_grown (g := gb303) (o := .cells #[.int .i64 a0_0, .string a0_1] 26 (0, 0)) (zK BK303.out) hg (Kd.R_ne HO_7.out BK303.out (by decide))); have n4_ := Aside0.mk ((by rw [hw]; exact below_set (HB.out) GB20.out : Below w.heap.size w w23)); clear HO_3; clear HO_5; clear HO_7; clear BK303; clear HB; have HO_3 := n0_; have HO_5 := n1_; have HO_7 := n2_; have BK303 := n3_; have HB := n4_; clear n0_ n1_ n2_ n3_ n4_; clear hg hw hp_))
              (try simp only [← hl7_2])
              go_roundg k2
              case measure => have := HK1.out; have := HK2.out; omega
              case rel => exact ⟨(y312), (wrap64 (x27_2 + 1)), zF, H', ⟨by have := HK1.out; have := HK2.out; omega⟩, ⟨by (try simp only [hl7_2]); (with_reducible repeat (first | apply Kd.R_alloc | apply Kd.R_drewN | apply Kd.R_drew)); exact HO_3.out⟩, ⟨by (try simp only [hl7_2]); (with_reducible repeat (first | apply Kd.S_alloc | apply Kd.S_drewN | apply Kd.S_drew)); exact Kd.S_mono HO_5.out (fun _ hk => hk.2)⟩, ⟨by (try simp only [hl7_2]); (with_reducible repeat (first | apply Kd.R_alloc | apply Kd.R_drewN | apply Kd.R_drew)); exact HO_7.out⟩, ⟨by (try simp only [hl7_2]); (with_reducible repeat (first | refine blk_drewN ?_ _ | refine blk_drew ?_ | refine blk_alloc ?_ _)); exact BK303.out⟩, ⟨zG GE303.out⟩⟩
             ·rw [if_neg c19] at H
              exact absurd H (by simp)
            ·rw [if_neg c18] at H
             exact absurd H (by simp)
           ·rw [if_neg c16] at H
            exact absurd H (by simp)
         ·rw [if_neg c14] at H
          have c14b0 : decide (x27_2 < (y308.length : Int)) = false := decide_eq_false c14
          (try simp only [hl7_2] at c14b0)
          clear c14
          by_cases c24 : x5_1.length < 5864062014805
          ·rw [if_pos c24] at H
           have LMc24 := Aside0.mk c24
           clear c24
           obtain ⟨y313, hy313⟩ : ∃ y_ : List (List Int), y_ = (x5_1 ++ [x7_2]) := ⟨_, rfl⟩
           replace H : (impl_LeftTable.l0 k2 t304 y313 (wrap64 (x6_1 + 1)) a0_0 a0_1) = some r := by first | (rw [hy313]; with_reducible exact H) | (have H2_ := (Option.bind_some _ _).symm.trans H; rw [hy313]; with_reducible exact H2_) | (have H2_ := (Option.bind_some _ _).symm.trans H; with_reducible exact H2_) | with_reducible exact H | (rw [hy313]; exact H) | exact H
           have Ny313 := Aside0.mk hy313
           clear hy313
           have H' := Aside0.mk H
           clear H
           go_wp2_with (first | ((with_reducible refine gate_builtin (b := .append) (xs := #[.tmp 41, .tmp 43]) rfl ?_); at_builtin; refine Kd.S_append (Kd.slice 3 (Kd.int .i64)) (w0 := w) w.heap.size rfl (.tmp 41) (.tmp 43) 29 34 (.slice none 0 0) 24 rfl Try.underlying29 info34 rfl (by decide) (by omega) u5 x5_1 x7_2 [.slice Ao13 x7_2.length co13] (fun _ => True) (fun k_ => some k_ = (.slice Ao13 x7_2.length co13 : Value).ownBlock) rfl rfl ?aP (fun k_ hk_ => ((Kd.R_mono (ok' := fun k_ => ((fun _ => True)) k_ ∧ some k_ ≠ (u5 : Value).ownBlock) (Kd.R_apart' (HO_7.out) (Kd.S_typed HO_5.out) (by decide)) (fun k_ hk => ⟨trivial, hk.2⟩))).1 k_ hk_.symm) ?aF ?aO ?aB ?aS ?aL ?_; (case aP => exact Kd.M_row (Kd.R_mono (Kd.R_tight rfl (Kd.R_mono (ok' := fun k_ => ((fun _ => True)) k_ ∧ some k_ ≠ (u5 : Value).ownBlock) (Kd.R_apart' (HO_7.out) (Kd.S_typed HO_5.out) (by decide)) (fun k_ hk => ⟨trivial, hk.2⟩))) (fun _ h_ => h_))); (case aB => exact (zG GE303.out)); (case aF => exact (fun _ _ => trivial)); (case aO => exact (by (with_reducible repeat (first | apply Kd.S_alloc | apply Kd.S_drewN | apply Kd.S_drew)); exact Kd.S_mono HO_5.out (fun k_ hk => ⟨trivial, fun e_ => hk e_⟩))); (case aS => exact (below_size (zG GE303.out))); (case aL => have := LMc24.out; omega); intro v314 w25 ho hb hg hat; rw [← Ny313.out] at ho; have n0_ := Aside0.mk (Kd.R_over' (zR HO_3.out) (Kd.S_typed (by (with_reducible repeat (first | apply Kd.S_alloc | apply Kd.S_drewN | apply Kd.S_drew)); exact HO_5.out)) (by decide) hg); have n1_ := Aside0.mk (blk_grown (g := gb303) (o := .cells #[.int .i64 a0_0, .string a0_1] 26 (0, 0)) (zK BK303.out) hg (Kd.S_ne HO_5.out BK303.out (by decide))); have n2_ := Aside0.mk (hb); have n3_ := Aside0.mk (ho); clear HO_3; clear BK303; clear HB; clear HO_5; clear HO_7; have HO_3 := n0_; have BK303 := n1_; have HB := n2_; have HO315 := n3_; clear n0_ n1_ n2_ n3_; clear ho hb hg hat))
           (try simp only [← hl7_2])
           go_roundg k2
           case measure => have := HK1.out; have := HK2.out; omega
           case rel => exact ⟨(y313), (wrap64 (x6_1 + 1)), zF, H', ⟨by have := HK1.out; have := HK2.out; omega⟩, ⟨by (try simp only [hl7_2]); (with_reducible repeat (first | apply Kd.R_alloc | apply Kd.R_drewN | apply Kd.R_drew)); exact HO_3.out⟩, ⟨by (try simp only [hl7_2]); (with_reducible repeat (first | apply Kd.S_alloc | apply Kd.S_drewN | apply Kd.S_drew)); exact HO315.out⟩, ⟨by (try simp only [hl7_2]); (with_reducible repeat (first | refine blk_drewN ?_ _ | refine blk_drew ?_ | refine blk_alloc ?_ _)); exact BK303.out⟩, ⟨zG GE303.out⟩⟩
          ·rw [if_neg c24] at H
           exact absurd H (by simp)
      ·rw [if_neg c9] at H
       exact absurd H (by simp)
     ·rw [if_neg c8] at H
      exact absurd H (by simp)
    ·rw [if_neg c7] at H
     have c7b0 : decide (x6_1 < a0_0) = false := decide_eq_false c7
     clear c7
     obtain rfl := Option.some.inj H
     have hcz26_0 : wr.cell? ⟨gb303, 0, none⟩ = some (.int .i64 a0_0) := (blk_cell BK303.out 0).trans rfl
     have hcz26_1 : wr.cell? ⟨gb303, 1, none⟩ = some (.string a0_1) := (blk_cell BK303.out 1).trans rfl
     have hfz26_0 := blk_frozen BK303.out 0
     have hfz26_1 := blk_frozen BK303.out 1
     go_wp2
     go_ret
     exact ⟨_, zE, by (with_reducible repeat (first | apply Kd.S_alloc | apply Kd.S_drewN | apply Kd.S_drew)); exact HO_5.out, zG GE303.out⟩
 ·replace c3 := Bool.eq_false_iff.mpr c3
  subst c3
  have H1 : (some ([] : List (List Int))) = some r := by rw [if_neg (show ¬ (false = true) by decide)] at H; exact H
  clear H
  have H := H1
  clear H1
  obtain rfl := Option.some.inj H
  go_enter Try.func17, Try.ntmps17
  go_wp2_with (first | ((with_reducible refine gate_dst (N := 1) rfl ?_); refine box_event ?hg (N := 1) ?hd (cs := #[.int .i64 a0_0, .string a0_1]) (t := 26) ?hr ?_; (case hd => rfl); (case hg => rfl); (case hr => first | (go_simp; done) | (go_simp; rfl)); intro gb303 hg w27 hbox hb; have BK303 := Aside0.mk (hbox); have GW303 := Aside0.mk ((by rw [hg]; exact (below_size zB) : w.heap.size ≤ gb303)); have GE303 := Aside0.mk ((by rw [hg]; exact (below_size zB) : w.heap.size ≤ gb303)); replace HB := Aside0.mk (below_step zB hb); clear hb hbox hg; have hcz28_0 : w27.cell? ⟨gb303, 0, none⟩ = some (.int .i64 a0_0) := (blk_cell BK303.out 0).trans rfl; have hcz28_1 : w27.cell? ⟨gb303, 1, none⟩ = some (.string a0_1) := (blk_cell BK303.out 1).trans rfl; have hfz28_0 := blk_frozen BK303.out 0; have hfz28_1 := blk_frozen BK303.out 1) | ((with_reducible refine gate_callee (f := 41) rfl ?_); refine goesL_ (some 11) rfl rfl Try.func41 (by kernel_rfl) rfl #[.agg #[.int .i64 a0_0, .string a0_1]] rfl zM ?_; (with_reducible refine (impl_orderOf.calls k a0_0 a0_1 t304 false _ A2.out).mono ?_); rintro e w29 ⟨v305, rfl, ho0, hb⟩; refine ⟨_, rfl, ?_⟩; have HO306 := Aside0.mk (Kd.R_lower ho0 (below_size (zG GE303.out))); replace BK303 := Aside0.mk (blk_below (g := gb303) (o := .cells #[.int .i64 a0_0, .string a0_1] 26 (0, 0)) (zK BK303.out) hb); replace HB := Aside0.mk (below_step (zG GE303.out) hb); (try clear hb); (try clear ho0)))
  go_ret
  exact ⟨_, zE, by first | exact Kd.S_nil _ _ _ _ _ | exact Kd.N_nil _ _ _ _ _ | exact Kd.V_nil _ _ _ _ _ | exact Kd.Q_nil _ _ _ _ _ | exact Kd.R_nil _ _ _ _ _, zG GE303.out⟩
/-! ### impl_LeftRow: function 22 -/
mutual
def impl_LeftRow.l0 : Nat → List Int → List (List Int) → Int → Int → Option (List Int)
 | 0, _, _, _, _ => none
 | k + 1, x3, x16, x17, x18 => if x18 < x17 then (if 0 ≤ x18 then (if x18 < (x16.length : Int) then (impl_LeftRow.l1 k x3 x18 x16 x17 x18 (rd_L4 x16 x18) ((rd_L4 x16 x18).length : Int) 0) else (none)) else (none)) else (some x3)
def impl_LeftRow.l1 : Nat → List Int → Int → List (List Int) → Int → Int → List Int → Int → Int → Option (List Int)
 | 0, _, _, _, _, _, _, _, _ => none
 | k + 1, x3, x4, x16, x17, x18, x23, x24, x25 => if x25 < x24 then (if 0 ≤ x25 then (if x25 < (x23.length : Int) then (if x4 = x25 then (impl_LeftRow.l1 k x3 x4 x16 x17 x18 x23 x24 (wrap64 (x25 + 1))) else (if 0 ≤ (rd x23 x25) then (if (rd x23 x25) < (x3.length : Int) then (impl_LeftRow.l1 k (x3.set ((rd x23 x25) : Int).toNat (wrap64 ((rd x3 (rd x23 x25)) + 1))) x4 x16 x17 x18 x23 x24 (wrap64 (x25 + 1))) else (none)) else (none))) else (none)) else (none)) else (impl_LeftRow.l0 k x3 x16 x17 (wrap64 (x18 + 1)))
end
def impl_LeftRow.f (k : Nat) (a0_0 : Int) (a0_1 : ByteArray) : Option (List Int) := (impl_IsAcyclic.f k a0_0 a0_1).bind fun t351 => (if t351 = true then (if 0 ≤ (wrap64 (a0_0 - 1)) then (if (wrap64 (a0_0 - 1) : Int).toNat ≤ 35184372088832 then ((impl_LeftTable.f k a0_0 a0_1).bind fun t355 => (impl_LeftRow.l0 k (List.replicate (wrap64 (a0_0 - 1) : Int).toNat 0) t355 (t355.length : Int) 0)) else (none)) else (none)) else (some ([] : List Int)))
theorem impl_LeftRow.mono_l : ∀ k, (∀ y0 y1 y2 y3, LeO (impl_LeftRow.l0 k y0 y1 y2 y3) (impl_LeftRow.l0 (k + 1) y0 y1 y2 y3)) ∧ (∀ y0 y1 y2 y3 y4 y5 y6 y7, LeO (impl_LeftRow.l1 k y0 y1 y2 y3 y4 y5 y6 y7) (impl_LeftRow.l1 (k + 1) y0 y1 y2 y3 y4 y5 y6 y7))
 | 0 => ⟨fun _ _ _ _ r h => by simp [impl_LeftRow.l0] at h, fun _ _ _ _ _ _ _ _ r h => by simp [impl_LeftRow.l1] at h⟩
 | k + 1 => by
  obtain ⟨ih0, ih1⟩ := impl_LeftRow.mono_l k
  refine ⟨?_, ?_⟩ <;> intros <;> (first | unfold impl_LeftRow.l0 | unfold impl_LeftRow.l1) <;> repeat' first
  | (with_reducible exact ih0 _ _ _ _)
  | (with_reducible exact ih1 _ _ _ _ _ _ _ _)
  | (with_reducible exact impl_IsAcyclic.mono _ _ _)
  | (with_reducible exact impl_LeftTable.mono _ _ _)
  | (with_reducible exact LeO.refl _)
  | (with_reducible exact LeO.none _)
  | (with_reducible refine LeO.ite ?_ ?_)
  | (with_reducible refine LeO.bind ?_ (fun _ => ?_))
  | exact ih0 _ _ _ _
  | exact ih1 _ _ _ _ _ _ _ _
  | exact impl_IsAcyclic.mono _ _ _
  | exact impl_LeftTable.mono _ _ _
  | exact LeO.none _
  | refine LeO.ite ?_ ?_
  | refine LeO.bind ?_ (fun _ => ?_)
theorem impl_LeftRow.mono : ∀ a0 a1 k, LeO (impl_LeftRow.f k a0 a1) (impl_LeftRow.f (k + 1) a0 a1) := by
 intro a0 a1 k
 obtain ⟨ih0, ih1⟩ := impl_LeftRow.mono_l k
 unfold impl_LeftRow.f
 repeat' first
   | (with_reducible exact ih0 _ _ _ _)
   | (with_reducible exact ih1 _ _ _ _ _ _ _ _)
   | (with_reducible exact impl_IsAcyclic.mono _ _ _)
   | (with_reducible exact impl_LeftTable.mono _ _ _)
   | (with_reducible exact LeO.refl _)
   | (with_reducible exact LeO.none _)
   | (with_reducible refine LeO.ite ?_ ?_)
   | (with_reducible refine LeO.bind ?_ (fun _ => ?_))
   | exact ih0 _ _ _ _
   | exact ih1 _ _ _ _ _ _ _ _
   | exact impl_IsAcyclic.mono _ _ _
   | exact impl_LeftTable.mono _ _ _
   | exact LeO.none _
   | refine LeO.ite ?_ ?_
   | refine LeO.bind ?_ (fun _ => ?_)
set_option maxHeartbeats 8000000 in
set_option maxRecDepth 100000 in
theorem impl_LeftRow.calls (k : Nat) (a0_0 : Int) (a0_1 : ByteArray) (r : List Int) (w : World) (h : impl_LeftRow.f k a0_0 a0_1 = some r) :
  Calls Try.prog 22 #[.agg #[.int .i64 a0_0, .string a0_1]] w fun e w' => ∃ v0_ : Value, e = .returned (v0_) ∧ Kd.R (Kd.int .i64) 3 w' w.heap.size (fun _ => True) v0_ r ∧ Below w.heap.size w w' := by
 have hu26 := Try.underlying26
 have HB := Aside0.mk (Below.refl w.heap.size w)
 have H : ((impl_IsAcyclic.f k a0_0 a0_1).bind fun t351 => (if t351 = true then (if 0 ≤ (wrap64 (a0_0 - 1)) then (if (wrap64 (a0_0 - 1) : Int).toNat ≤ 35184372088832 then ((impl_LeftTable.f k a0_0 a0_1).bind fun t355 => (impl_LeftRow.l0 k (List.replicate (wrap64 (a0_0 - 1) : Int).toNat 0) t355 (t355.length : Int) 0)) else (none)) else (none)) else (some ([] : List Int)))) = some r := h
 clear h
 replace H := Option.bind_eq_some_iff.mp H
 obtain ⟨t351, A20, H⟩ := H
 replace H : (if t351 = true then (if 0 ≤ (wrap64 (a0_0 - 1)) then (if (wrap64 (a0_0 - 1) : Int).toNat ≤ 35184372088832 then ((impl_LeftTable.f k a0_0 a0_1).bind fun t355 => (impl_LeftRow.l0 k (List.replicate (wrap64 (a0_0 - 1) : Int).toNat 0) t355 (t355.length : Int) 0)) else (none)) else (none)) else (some ([] : List Int))) = some r := H
 have A2 := Aside0.mk A20
 clear A20
 by_cases c3 : t351 = true
 ·subst c3
  have H1 : (if 0 ≤ (wrap64 (a0_0 - 1)) then (if (wrap64 (a0_0 - 1) : Int).toNat ≤ 35184372088832 then ((impl_LeftTable.f k a0_0 a0_1).bind fun t355 => (impl_LeftRow.l0 k (List.replicate (wrap64 (a0_0 - 1) : Int).toNat 0) t355 (t355.length : Int) 0)) else (none)) else (none)) = some r := by rw [if_pos rfl] at H; exact H
  clear H
  have H := H1
  clear H1
  obtain ⟨ji4, hji4⟩ : ∃ j_ : Int, (wrap64 (a0_0 - 1)) = j_ := ⟨_, rfl⟩
  replace H : (if 0 ≤ (ji4) then (if (ji4 : Int).toNat ≤ 35184372088832 then ((impl_LeftTable.f k a0_0 a0_1).bind fun t355 => (impl_LeftRow.l0 k (List.replicate (ji4 : Int).toNat 0) t355 (t355.length : Int) 0)) else (none)) else (none)) = some r := by first | (rw [hji4] at H; exact H) | (simp only [hji4] at H ⊢; exact H)
  (try rw [hji4] at A2)
  have hji4w : (IntKind.i64.wrap (a0_0 - 1)) = ji4 := (i64_w _).trans hji4
  by_cases c5 : 0 ≤ (ji4)
  ·rw [if_pos c5] at H
   have c5b0 := eq_true c5
   have c5b1 : decide (0 ≤ (ji4)) = true := decide_eq_true c5
   clear c5
   by_cases c6 : (ji4 : Int).toNat ≤ 35184372088832
   ·rw [if_pos c6] at H
    have c6b0 := eq_true c6
    have c6b1 : decide ((ji4 : Int).toNat ≤ 35184372088832) = true := decide_eq_true c6
    clear c6
    obtain ⟨y352, hy352⟩ : ∃ y_ : List Int, y_ = (List.replicate (ji4 : Int).toNat 0) := ⟨_, rfl⟩
    replace H : ((impl_LeftTable.f k a0_0 a0_1).bind fun t355 => (impl_LeftRow.l0 k y352 t355 (t355.length : Int) 0)) = some r := by first | (rw [hy352]; with_reducible exact H) | (have H2_ := (Option.bind_some _ _).symm.trans H; rw [hy352]; with_reducible exact H2_) | (have H2_ := (Option.bind_some _ _).symm.trans H; with_reducible exact H2_) | with_reducible exact H | (rw [hy352]; exact H) | exact H
    have Ny352 := Aside0.mk hy352
    clear hy352
    replace H := Option.bind_eq_some_iff.mp H
    obtain ⟨t355, A70, H⟩ := H
    replace H : (impl_LeftRow.l0 k y352 t355 (t355.length : Int) 0) = some r := H
    have A7 := Aside0.mk A70
    clear A70
    have H' := Aside0.mk H
    clear H
    go_enter Try.func22, Try.ntmps22
    go_wp2_with (first | ((with_reducible refine gate_dst (N := 1) rfl ?_); refine box_event ?hg (N := 1) ?hd (cs := #[.int .i64 a0_0, .string a0_1]) (t := 26) ?hr ?_; (case hd => rfl); (case hg => rfl); (case hr => first | (go_simp; done) | (go_simp; rfl)); intro gb350 hg w8 hbox hb; have BK350 := Aside0.mk (hbox); have GW350 := Aside0.mk ((by rw [hg]; exact (below_size zB) : w.heap.size ≤ gb350)); have GE350 := Aside0.mk ((by rw [hg]; exact (below_size zB) : w.heap.size ≤ gb350)); replace HB := Aside0.mk (below_step zB hb); clear hb hbox hg; have hcz9_0 : w8.cell? ⟨gb350, 0, none⟩ = some (.int .i64 a0_0) := (blk_cell BK350.out 0).trans rfl; have hcz9_1 : w8.cell? ⟨gb350, 1, none⟩ = some (.string a0_1) := (blk_cell BK350.out 1).trans rfl; have hfz9_0 := blk_frozen BK350.out 0; have hfz9_1 := blk_frozen BK350.out 1) | ((with_reducible refine gate_callee (f := 44) rfl ?_); refine goesL_ (some 9) rfl rfl Try.func44 (by kernel_rfl) rfl #[.agg #[.int .i64 a0_0, .string a0_1]] rfl zM ?_; (with_reducible refine (impl_IsAcyclic.calls k a0_0 a0_1 true _ A2.out).mono ?_); rintro e w10 ⟨rfl, hb⟩; refine ⟨_, rfl, ?_⟩; replace BK350 := Aside0.mk (blk_below (g := gb350) (o := .cells #[.int .i64 a0_0, .string a0_1] 26 (0, 0)) (zK BK350.out) hb); replace HB := Aside0.mk (below_step (zG GE350.out) hb); (try clear hb); have hcz11_0 : w10.cell? ⟨gb350, 0, none⟩ = some (.int .i64 a0_0) := (blk_cell BK350.out 0).trans rfl; have hcz11_1 : w10.cell? ⟨gb350, 1, none⟩ = some (.string a0_1) := (blk_cell BK350.out 1).trans rfl; have hfz11_0 := blk_frozen BK350.out 0; have hfz11_1 := blk_frozen BK350.out 1) | ((with_reducible refine gate_dst (N := 14) rfl ?_); refine Kd.R_make (Kd.int .i64) _ 3 rfl (N := 14) rfl 34 _ _ rfl ji4 rfl rfl Try.underlying34 (.int .i64 0) 8 info3 rfl (by decide) (by omega) 0 (ok := fun _ => True) (okp := fun _ => True) rfl (fun _ hk => hk) trivial (zA) (Nat.le_trans (Nat.mul_le_mul_right _ (zA : ji4.toNat ≤ 35184372088832)) (by omega)) (Below.refl _ _) (Nat.le_refl _) ?_; intro v353 w12 ho13 hb hg_ hnew_; clear hg_ hnew_; (first | rw [← Ny352.out] at ho13 | (simp only [Int.reduceToNat] at ho13; rw [← Ny352.out] at ho13)); have HO354 := Aside0.mk (Kd.R_lower ho13 (below_size (zG GE350.out))); replace BK350 := Aside0.mk (blk_below (g := gb350) (o := .cells #[.int .i64 a0_0, .string a0_1] 26 (0, 0)) (zK BK350.out) hb); replace HB := Aside0.mk (below_step (zG GE350.out) hb); clear hb ho13; have hcz14_0 : w12.cell? ⟨gb350, 0, none⟩ = some (.int .i64 a0_0) := (blk_cell BK350.out 0).trans rfl; have hcz14_1 : w12.cell? ⟨gb350, 1, none⟩ = some (.string a0_1) := (blk_cell BK350.out 1).trans rfl; have hfz14_0 := blk_frozen BK350.out 0; have hfz14_1 := blk_frozen BK350.out 1) | ((with_reducible refine gate_callee (f := 17) rfl ?_); refine goesL_ (some 16) rfl rfl Try.func17 (by kernel_rfl) rfl #[.agg #[.int .i64 a0_0, .string a0_1]] rfl zM ?_; (with_reducible refine (impl_LeftTable.calls k a0_0 a0_1 t355 _ A7.out).mono ?_); rintro e w15 ⟨v356, rfl, ho0, hb⟩; refine ⟨_, rfl, ?_⟩; have n0_ := Aside0.mk (Kd.R_below (zR HO354.out) hb); have n1_ := Aside0.mk (Kd.S_lower (Kd.S_new' ho0 (Kd.R_lt (zR HO354.out))) (below_size (zG GE350.out))); have n2_ := Aside0.mk (blk_below (g := gb350) (o := .cells #[.int .i64 a0_0, .string a0_1] 26 (0, 0)) (zK BK350.out) hb); have n3_ := Aside0.mk (below_step (zG GE350.out) hb); clear HO354; clear BK350; clear HB; have HO354 := n0_; have HO357 := n1_; have BK350 := n2_; have HB := n3_; clear n0_ n1_ n2_ n3_; (try clear hb); (try clear ho0); obtain ⟨Ao16, co16, eo16⟩ := Kd.S_slice HO357.out; subst eo16))
    go_loopg [18] k (fun kq v18 w' => ∃ (x3_1 : List Int) (x18_1 : Int), v18 = .int .i64 x18_1 ∧ Aside0 (impl_LeftRow.l0 kq x3_1 t355 (t355.length : Int) x18_1 = some r) ∧ Aside0 (kq ≤ k) ∧ Aside0 (Kd.R (Kd.int .i64) 3 w' w.heap.size (fun _ => True) v353 x3_1) ∧ Aside0 (Kd.S (Kd.slice 3 (Kd.int .i64)) 34 w' w.heap.size (fun k_ => some k_ ≠ (v353 : Value).ownBlock) (.slice Ao16 t355.length co16) t355) ∧ Aside0 (w'.heap[gb350]? = some (.cells #[.int .i64 a0_0, .string a0_1] 26 (0, 0))) ∧ Aside0 (Below w.heap.size w w'))
    case atStart => exact ⟨(y352), (0), zF, H', ⟨Nat.le_refl _⟩, ⟨zR HO354.out⟩, ⟨by (with_reducible repeat (first | apply Kd.S_alloc | apply Kd.S_drewN | apply Kd.S_drew)); exact Kd.S_mono HO357.out (fun _ hk => hk.2)⟩, ⟨zK BK350.out⟩, ⟨zG GE350.out⟩⟩
    case round =>
     clear H'
     try clear c1
     try clear c2
     try clear p2
     try clear c3
     try clear c4
     try clear c5
     try clear c5b0
     try clear c5b1
     try clear c6
     try clear c6b0
     try clear c6b1
     try clear p6
     try clear hcz11_0
     try clear hcz11_1
     try clear hcz14_0
     try clear hcz14_1
     try clear hcz9_0
     try clear hcz9_1
     try clear hfz11_0
     try clear hfz11_1
     try clear hfz14_0
     try clear hfz14_1
     try clear hfz9_0
     try clear hfz9_1
     obtain ⟨x3_1, x18_1, rfl, HA, HK1, HO_3, HO_16, BK350, HB⟩ := hrel
     cases gk with
     | zero => exact absurd HA.out (by simp [impl_LeftRow.l0])
     | succ k1 =>
      have H := HA.out
      clear HA
      simp only [impl_LeftRow.l0] at H
      by_cases c17 : x18_1 < (t355.length : Int)
      ·rw [if_pos c17] at H
       have c17b0 : decide (x18_1 < (t355.length : Int)) = true := decide_eq_true c17
       clear c17
       by_cases c18 : 0 ≤ x18_1
       ·rw [if_pos c18] at H
        have c18b0 : decide (0 ≤ x18_1) = true := decide_eq_true c18
        clear c18
        by_cases c19 : x18_1 < (t355.length : Int)
        ·rw [if_pos c19] at H
         have c19b0 : decide (x18_1 < (t355.length : Int)) = true := decide_eq_true c19
         clear c19
         have H' := Aside0.mk H
         clear H
         have p358 : 0 ≤ (x18_1 : Int) := zA
         have q358 : x18_1 < (t355.length : Int) := zA
         obtain ⟨ad358, A358_0, c358_0, e358, hx358_0, hl358_0, hi358_0⟩ := at_L4 (Kd.S_reads' HO_16.out).2.2 x18_1 p358 q358
         cases e358
         obtain ⟨ce358, hce358, hMe358, hcc358⟩ := Kd.S_get HO_16.out [] x18_1 p358 (by first | exact q358 | exact zA | (have e_ := (Kd.S_reads' HO_16.out).1; omega))
         obtain ⟨ve358_0, rfl, ge358_0⟩ := hMe358
         have hv358_0 := hcc358 0 _ rfl
         rw [Nat.add_zero, show ((Kd.slice 3 (Kd.int .i64))).sz = 1 from rfl, Nat.mul_one] at hv358_0
         replace hv358_0 := Option.some.inj (hv358_0.symm.trans hx358_0)
         rw [hv358_0] at ge358_0
         have HL358_0 := Aside0.mk (show Kd.R (Kd.int .i64) 3 _ _ _ _ (rd_L4 t355 x18_1) from ge358_0)
         clear hv358_0 ge358_0
         clear hcc358 hce358
         have HR358_0 := Aside0.mk hi358_0
         have HC358_0 := Aside0.mk hl358_0
         clear hi358_0 hl358_0
         replace p358 := eq_true p358
         replace q358 := eq_true q358
         go_wp2
         go_loopg [25] k1 (fun kq v25 w' => ∃ (x3_2 : List Int) (x25_2 : Int), v25 = .int .i64 x25_2 ∧ Aside0 (impl_LeftRow.l1 kq x3_2 x18_1 t355 (t355.length : Int) x18_1 (rd_L4 t355 x18_1) ((rd_L4 t355 x18_1).length : Int) x25_2 = some r) ∧ Aside0 (kq ≤ k1) ∧ Aside0 (Kd.R (Kd.int .i64) 3 w' w.heap.size (fun _ => True) v353 x3_2) ∧ Aside0 (Kd.S (Kd.slice 3 (Kd.int .i64)) 34 w' w.heap.size (fun k_ => some k_ ≠ (v353 : Value).ownBlock) (.slice (some ad358) t355.length co16) t355) ∧ Aside0 (w'.heap[gb350]? = some (.cells #[.int .i64 a0_0, .string a0_1] 26 (0, 0))) ∧ Aside0 (Below w.heap.size w w') ∧ Aside0 (Kd.R (Kd.int .i64) 3 w' w.heap.size (fun k_ => some k_ ≠ (v353 : Value).ownBlock) (.slice A358_0 (rd_L4 t355 x18_1).length c358_0) (rd_L4 t355 x18_1)))
         case atStart => exact ⟨(x3_1), (0), zF, H', ⟨Nat.le_refl _⟩, ⟨zR HO_3.out⟩, ⟨by (with_reducible repeat (first | apply Kd.S_alloc | apply Kd.S_drewN | apply Kd.S_drew)); exact HO_16.out⟩, ⟨zK BK350.out⟩, ⟨zG GE350.out⟩, ⟨Kd.R_mono HL358_0.out (fun k_ h_ => by first | exact h_ | exact h_.1 | exact h_.2 | exact h_.1.1 | exact h_.2.1)⟩⟩
         case round =>
          clear H'
          try clear c1
          try clear c2
          try clear p2
          try clear c3
          try clear p3
          try clear q3
          try clear hx3
          try clear c4
          try clear c5
          try clear c5b0
          try clear c5b1
          try clear c6
          try clear c6b0
          try clear c6b1
          try clear p6
          try clear c17
          try clear c17b0
          try clear c18
          try clear c18b0
          try clear c19
          try clear c19b0
          try clear hcz11_0
          try clear hcz11_1
          try clear hcz14_0
          try clear hcz14_1
          try clear hcz9_0
          try clear hcz9_1
          try clear hfz11_0
          try clear hfz11_1
          try clear hfz14_0
          try clear hfz14_1
          try clear hfz9_0
          try clear hfz9_1
          try clear hx358_0
          try clear p2
          try clear p358
          try clear p6
          try clear q358
          obtain ⟨x3_2, x25_2, rfl, HA, HK2, HO_3, HO_16, BK350, HB, HLr⟩ := hrel
          cases gk with
          | zero => exact absurd HA.out (by simp [impl_LeftRow.l1])
          | succ k2 =>
           have H := HA.out
           clear HA
           simp only [impl_LeftRow.l1] at H
           by_cases c20 : x25_2 < ((rd_L4 t355 x18_1).length : Int)
           ·rw [if_pos c20] at H
            have c20b0 : decide (x25_2 < ((rd_L4 t355 x18_1).length : Int)) = true := decide_eq_true c20
            clear c20
            by_cases c21 : 0 ≤ x25_2
            ·rw [if_pos c21] at H
             have c21b0 : decide (0 ≤ x25_2) = true := decide_eq_true c21
             clear c21
             by_cases c22 : x25_2 < ((rd_L4 t355 x18_1).length : Int)
             ·rw [if_pos c22] at H
              have c22b0 : decide (x25_2 < ((rd_L4 t355 x18_1).length : Int)) = true := decide_eq_true c22
              clear c22
              by_cases c23 : x18_1 = x25_2
              ·rw [if_pos c23] at H
               have c23b0 : (x18_1 == x25_2) = true := beq_iff_eq.mpr c23
               have c23b1 : (x18_1 != x25_2) = false := bne_eq_false_iff_eq.mpr c23
               clear c23
               have H' := Aside0.mk H
               clear H
               have p359 : 0 ≤ (x25_2 : Int) := zA
               have q359 : x25_2 < ((rd_L4 t355 x18_1).length : Int) := zA
               obtain ⟨ad359, e359, hx359_0⟩ := Kd.at_int (Kd.R_reads' HLr.out).2.2 x25_2 p359 q359
               cases e359
               replace p359 := eq_true p359
               replace q359 := eq_true q359
               go_wp2
               go_roundg k2
               case measure => have := HK1.out; have := HK2.out; omega
               case rel => exact ⟨(x3_2), (wrap64 (x25_2 + 1)), zF, H', ⟨by have := HK1.out; have := HK2.out; omega⟩, ⟨zR HO_3.out⟩, ⟨by (with_reducible repeat (first | apply Kd.S_alloc | apply Kd.S_drewN | apply Kd.S_drew)); exact HO_16.out⟩, ⟨zK BK350.out⟩, ⟨zG GE350.out⟩, HLr⟩
              ·rw [if_neg c23] at H
               have c23b0 : (x18_1 == x25_2) = false := beq_eq_false_iff_ne.mpr c23
               have c23b1 : (x18_1 != x25_2) = true := bne_iff_ne.mpr c23
               by_cases c24 : 0 ≤ (rd (rd_L4 t355 x18_1) x25_2)
               ·rw [if_pos c24] at H
                have c24b0 : decide (0 ≤ (rd (rd_L4 t355 x18_1) x25_2)) = true := decide_eq_true c24
                clear c24
                by_cases c25 : (rd (rd_L4 t355 x18_1) x25_2) < (x3_2.length : Int)
                ·rw [if_pos c25] at H
                 have c25b0 : decide ((rd (rd_L4 t355 x18_1) x25_2) < (x3_2.length : Int)) = true := decide_eq_true c25
                 clear c25
                 obtain ⟨y361, hy361⟩ : ∃ y_ : List Int, y_ = (x3_2.set ((rd (rd_L4 t355 x18_1) x25_2) : Int).toNat (wrap64 ((rd x3_2 (rd (rd_L4 t355 x18_1) x25_2)) + 1))) := ⟨_, rfl⟩
                 replace H : (impl_LeftRow.l1 k2 y361 x18_1 t355 (t355.length : Int) x18_1 (rd_L4 t355 x18_1) ((rd_L4 t355 x18_1).length : Int) (wrap64 (x25_2 + 1))) = some r := by first | (rw [hy361]; with_reducible exact H) | (have H2_ := (Option.bind_some _ _).symm.trans H; rw [hy361]; with_reducible exact H2_) | (have H2_ := (Option.bind_some _ _).symm.trans H; with_reducible exact H2_) | with_reducible exact H | (rw [hy361]; exact H) | exact H
                 have Ny361 := Aside0.mk hy361
                 clear hy361
                 have H' := Aside0.mk H
                 clear H
                 have p359 : 0 ≤ (x25_2 : Int) := zA
                 have q359 : x25_2 < ((rd_L4 t355 x18_1).length : Int) := zA
                 obtain ⟨ad359, e359, hx359_0⟩ := Kd.at_int (Kd.R_reads' HLr.out).2.2 x25_2 p359 q359
                 cases e359
                 replace p359 := eq_true p359
                 replace q359 := eq_true q359
                 obtain ⟨Ao27, co27, eo27⟩ := Kd.R_slice HO_3.out
                 subst eo27
                 have p360 : 0 ≤ ((rd (rd_L4 t355 x18_1) x25_2) : Int) := zA
                 have q360 : (rd (rd_L4 t355 x18_1) x25_2) < (x3_2.length : Int) := zA
                 obtain ⟨ad360, e360, hx360_0⟩ := Kd.at_int (Kd.R_reads' HO_3.out).2.2 (rd (rd_L4 t355 x18_1) x25_2) p360 q360
                 cases e360
                 replace p360 := eq_true p360
                 replace q360 := eq_true q360
                 have p26 : 0 ≤ ((rd (rd_L4 t355 x18_1) x25_2) : Int) := zA
                 have q26 : ((rd (rd_L4 t355 x18_1) x25_2) : Int) < ((x3_2.length : Int) : Int) := zA
                 obtain ⟨go26, co26, eo26, gb26, gl26, cl26, HG26⟩ := Kd.R_form HO_3.out (by omega)
                 (first | cases eo26 | (injection eo26 with ea_ en_ ec_; (first | subst ea_ | (injection ea_ with ea_; subst ea_)); subst ec_; clear en_))
                 have GB26 := Aside0.mk gb26
                 have GG26 := Aside0.mk HG26
                 clear gb26 gl26 HG26
                 (first | simp only [add_plain] at hx360_0 | skip)
                 obtain ⟨hx26_0, hf26_0⟩ := Kd.R_celln 0 HO_3.out ((rd (rd_L4 t355 x18_1) x25_2) : Int) p26 q26
                 replace p26 := eq_true p26
                 replace q26 := eq_true q26
                 have HP28 := Kd.R_putg HO_3.out ((rd (rd_L4 t355 x18_1) x25_2) : Int) (wrap64 ((rd x3_2 (rd (rd_L4 t355 x18_1) x25_2)) + 1))
                 go_wp2_with (first | ((with_reducible refine gate_store (t := 3) (p := 38) rfl ?_); refine store_event (t := 3) (p := 38) (v := ?vo_w29) (w1 := (wr.setCell ⟨go26, ((rd (rd_L4 t355 x18_1) x25_2) : Int).toNat, none⟩ (.int .i64 (wrap64 ((rd x3_2 (rd (rd_L4 t355 x18_1) x25_2)) + 1))))) ?hg ?ho ?hn ?hr ?_; (case ho => rfl); (case hg => rfl); (case hn => rfl); (case hr => first | (go_simp; done) | (go_simp; rfl)); intro w29 hw; have hg : wr.grownBy w29 (some go26) := (by rw [hw]; exact HP28.2); have hp_ : Kd.R (Kd.int .i64) 3 w29 w.heap.size (fun _ => True) (.slice (some ⟨go26, 0, none⟩) x3_2.length co27) y361 := (by rw [hw, Ny361.out]; exact HP28.1); clear HP28; have n0_ := Aside0.mk (hp_); have n1_ := Aside0.mk (Kd.S_after (v := (.slice (some ⟨go26, 0, none⟩) x3_2.length co27)) (v1 := (.slice (some ⟨go26, 0, none⟩) x3_2.length co27)) (ok := (fun _ => True)) (by (with_reducible repeat (first | apply Kd.S_alloc | apply Kd.S_drewN | apply Kd.S_drew)); exact Kd.S_mono HO_16.out (fun _ hk => ⟨trivial, hk⟩)) hg (.inl rfl)); have n2_ := Aside0.mk (blk_grown (g := gb350) (o := .cells #[.int .i64 a0_0, .string a0_1] 26 (0, 0)) (zK BK350.out) hg (Kd.R_ne HO_3.out BK350.out (by decide))); have n3_ := Aside0.mk ((by rw [hw]; exact below_set (HB.out) GB26.out : Below w.heap.size w w29)); clear HO_3; clear HO_16; clear BK350; clear HB; have HO_3 := n0_; have HO_16 := n1_; have BK350 := n2_; have HB := n3_; clear n0_ n1_ n2_ n3_; have n9_ := Aside0.mk (Kd.R_grown HLr.out hg (fun _ hk => hk)); clear HLr; have HLr := n9_; clear n9_; clear hg hw hp_))
                 go_roundg k2
                 case measure => have := HK1.out; have := HK2.out; omega
                 case rel => exact ⟨(y361), (wrap64 (x25_2 + 1)), zF, H', ⟨by have := HK1.out; have := HK2.out; omega⟩, ⟨zR HO_3.out⟩, ⟨by (with_reducible repeat (first | apply Kd.S_alloc | apply Kd.S_drewN | apply Kd.S_drew)); exact Kd.S_mono HO_16.out (fun _ hk => hk.2)⟩, ⟨zK BK350.out⟩, ⟨zG GE350.out⟩, HLr⟩
                ·rw [if_neg c25] at H
                 exact absurd H (by simp)
               ·rw [if_neg c24] at H
                exact absurd H (by simp)
             ·rw [if_neg c22] at H
              exact absurd H (by simp)
            ·rw [if_neg c21] at H
             exact absurd H (by simp)
           ·rw [if_neg c20] at H
            have c20b0 : decide (x25_2 < ((rd_L4 t355 x18_1).length : Int)) = false := decide_eq_false c20
            clear c20
            have H' := Aside0.mk H
            clear H
            go_wp2
            go_roundg k2
            case measure => have := HK1.out; have := HK2.out; omega
            case rel => exact ⟨(x3_2), (wrap64 (x18_1 + 1)), zF, H', ⟨by have := HK1.out; have := HK2.out; omega⟩, ⟨zR HO_3.out⟩, ⟨by (with_reducible repeat (first | apply Kd.S_alloc | apply Kd.S_drewN | apply Kd.S_drew)); exact HO_16.out⟩, ⟨zK BK350.out⟩, ⟨zG GE350.out⟩⟩
        ·rw [if_neg c19] at H
         exact absurd H (by simp)
       ·rw [if_neg c18] at H
        exact absurd H (by simp)
      ·rw [if_neg c17] at H
       have c17b0 : decide (x18_1 < (t355.length : Int)) = false := decide_eq_false c17
       clear c17
       obtain rfl := Option.some.inj H
       go_wp2
       go_ret
       exact ⟨_, by first | rfl | (simp [errW_none, errW_some] <;> rfl) | (simp only [← hji4]; first | rfl | (simp [errW_none, errW_some] <;> rfl)) | (simp [*, errW_none, errW_some] <;> rfl), zR HO_3.out, zG GE350.out⟩
   ·rw [if_neg c6] at H
    exact absurd H (by simp)
  ·rw [if_neg c5] at H
   exact absurd H (by simp)
 ·replace c3 := Bool.eq_false_iff.mpr c3
  subst c3
  have H1 : (some ([] : List Int)) = some r := by rw [if_neg (show ¬ (false = true) by decide)] at H; exact H
  clear H
  have H := H1
  clear H1
  obtain rfl := Option.some.inj H
  go_enter Try.func22, Try.ntmps22
  go_wp2_with (first | ((with_reducible refine gate_dst (N := 1) rfl ?_); refine box_event ?hg (N := 1) ?hd (cs := #[.int .i64 a0_0, .string a0_1]) (t := 26) ?hr ?_; (case hd => rfl); (case hg => rfl); (case hr => first | (go_simp; done) | (go_simp; rfl)); intro gb350 hg w30 hbox hb; have BK350 := Aside0.mk (hbox); have GW350 := Aside0.mk ((by rw [hg]; exact (below_size zB) : w.heap.size ≤ gb350)); have GE350 := Aside0.mk ((by rw [hg]; exact (below_size zB) : w.heap.size ≤ gb350)); replace HB := Aside0.mk (below_step zB hb); clear hb hbox hg; have hcz31_0 : w30.cell? ⟨gb350, 0, none⟩ = some (.int .i64 a0_0) := (blk_cell BK350.out 0).trans rfl; have hcz31_1 : w30.cell? ⟨gb350, 1, none⟩ = some (.string a0_1) := (blk_cell BK350.out 1).trans rfl; have hfz31_0 := blk_frozen BK350.out 0; have hfz31_1 := blk_frozen BK350.out 1) | ((with_reducible refine gate_callee (f := 44) rfl ?_); refine goesL_ (some 9) rfl rfl Try.func44 (by kernel_rfl) rfl #[.agg #[.int .i64 a0_0, .string a0_1]] rfl zM ?_; (with_reducible refine (impl_IsAcyclic.calls k a0_0 a0_1 false _ A2.out).mono ?_); rintro e w32 ⟨rfl, hb⟩; refine ⟨_, rfl, ?_⟩; replace BK350 := Aside0.mk (blk_below (g := gb350) (o := .cells #[.int .i64 a0_0, .string a0_1] 26 (0, 0)) (zK BK350.out) hb); replace HB := Aside0.mk (below_step (zG GE350.out) hb); (try clear hb)))
  go_ret
  exact ⟨_, zE, by first | exact Kd.R_nil _ _ _ _ _ | exact Kd.N_nil _ _ _ _ _ | exact Kd.V_nil _ _ _ _ _ | exact Kd.Q_nil _ _ _ _ _ | exact Kd.S_nil _ _ _ _ _, zG GE350.out⟩
/-! ### laws_FnExactLeftRow: function 5 -/
def laws_FnExactLeftRow.f (k : Nat) (a0_0 : Int) (a0_1 : ByteArray) : Option (Bool) := (laws_szSigns.f a0_0 a0_1 1048576).bind fun t363 => (if t363 < 0 then (some true) else ((laws_toSigns.f a0_0 a0_1).bind fun bt364 => ((spec_LeftRow.f k bt364.1 bt364.2).bind fun t366 => ((laws_toSigns.f a0_0 a0_1).bind fun bt369 => ((impl_LeftRow.f k bt369.1 bt369.2).bind fun t371 => ((laws_eqIntS.f k t371 t366).bind fun t374 => (if t374 = true then ((laws_markIntS.f k t371 1).bind fun bt375 => ((laws_heldIntS.f k bt375.2 1).bind fun t377 => (if t377 < 0 then (some false) else (if t377 = bt375.1 then ((laws_toSigns.f a0_0 a0_1).bind fun bt378 => ((impl_LeftRow.f k bt378.1 bt378.2).bind fun t380 => ((laws_eqIntS.f k t380 t366).bind fun t383 => (if t383 = true then ((laws_heldIntS.f k bt375.2 1).bind fun t384 => (if t384 < 0 then (some false) else (if t384 = bt375.1 then (some true) else (some false)))) else (some false))))) else (some false))))) else (some false))))))))
theorem laws_FnExactLeftRow.mono : ∀ a0 a1 k, LeO (laws_FnExactLeftRow.f k a0 a1) (laws_FnExactLeftRow.f (k + 1) a0 a1) := by
 intro a0 a1 k
 unfold laws_FnExactLeftRow.f
 repeat' first
   | (with_reducible exact impl_LeftRow.mono _ _ _)
   | (with_reducible exact laws_eqIntS.mono _ _ _)
   | (with_reducible exact laws_heldIntS.mono _ _ _)
   | (with_reducible exact laws_markIntS.mono _ _ _)
   | (with_reducible exact spec_LeftRow.mono _ _ _)
   | (with_reducible exact LeO.refl _)
   | (with_reducible exact LeO.none _)
   | (with_reducible refine LeO.ite ?_ ?_)
   | (with_reducible refine LeO.bind ?_ (fun _ => ?_))
   | exact impl_LeftRow.mono _ _ _
   | exact laws_eqIntS.mono _ _ _
   | exact laws_heldIntS.mono _ _ _
   | exact laws_markIntS.mono _ _ _
   | exact spec_LeftRow.mono _ _ _
   | exact LeO.none _
   | refine LeO.ite ?_ ?_
   | refine LeO.bind ?_ (fun _ => ?_)
set_option maxHeartbeats 8000000 in
set_option maxRecDepth 100000 in
theorem laws_FnExactLeftRow.calls (k : Nat) (a0_0 : Int) (a0_1 : ByteArray) (r : Bool) (w : World) (h : laws_FnExactLeftRow.f k a0_0 a0_1 = some r) (hr_ : r = true) :
  Calls Try.prog 5 #[.agg #[.int .i64 a0_0, .string a0_1]] w fun e w' => e = .returned (.bool r) ∧ Below w.heap.size w w' := by
 have hu23 := Try.underlying23
 have HB := Aside0.mk (Below.refl w.heap.size w)
 have H : ((laws_szSigns.f a0_0 a0_1 1048576).bind fun t363 => (if t363 < 0 then (some true) else ((laws_toSigns.f a0_0 a0_1).bind fun bt364 => ((spec_LeftRow.f k bt364.1 bt364.2).bind fun t366 => ((laws_toSigns.f a0_0 a0_1).bind fun bt369 => ((impl_LeftRow.f k bt369.1 bt369.2).bind fun t371 => ((laws_eqIntS.f k t371 t366).bind fun t374 => (if t374 = true then ((laws_markIntS.f k t371 1).bind fun bt375 => ((laws_heldIntS.f k bt375.2 1).bind fun t377 => (if t377 < 0 then (some false) else (if t377 = bt375.1 then ((laws_toSigns.f a0_0 a0_1).bind fun bt378 => ((impl_LeftRow.f k bt378.1 bt378.2).bind fun t380 => ((laws_eqIntS.f k t380 t366).bind fun t383 => (if t383 = true then ((laws_heldIntS.f k bt375.2 1).bind fun t384 => (if t384 < 0 then (some false) else (if t384 = bt375.1 then (some true) else (some false)))) else (some false))))) else (some false))))) else (some false))))))))) = some r := h
 clear h
 replace H := Option.bind_eq_some_iff.mp H
 obtain ⟨t363, A20, H⟩ := H
 replace H : (if t363 < 0 then (some true) else ((laws_toSigns.f a0_0 a0_1).bind fun bt364 => ((spec_LeftRow.f k bt364.1 bt364.2).bind fun t366 => ((laws_toSigns.f a0_0 a0_1).bind fun bt369 => ((impl_LeftRow.f k bt369.1 bt369.2).bind fun t371 => ((laws_eqIntS.f k t371 t366).bind fun t374 => (if t374 = true then ((laws_markIntS.f k t371 1).bind fun bt375 => ((laws_heldIntS.f k bt375.2 1).bind fun t377 => (if t377 < 0 then (some false) else (if t377 = bt375.1 then ((laws_toSigns.f a0_0 a0_1).bind fun bt378 => ((impl_LeftRow.f k bt378.1 bt378.2).bind fun t380 => ((laws_eqIntS.f k t380 t366).bind fun t383 => (if t383 = true then ((laws_heldIntS.f k bt375.2 1).bind fun t384 => (if t384 < 0 then (some false) else (if t384 = bt375.1 then (some true) else (some false)))) else (some false))))) else (some false))))) else (some false)))))))) = some r := H
 have A2 := Aside0.mk A20
 clear A20
 by_cases c3 : t363 < 0
 ·rw [if_pos c3] at H
  have c3b0 : decide (t363 < 0) = true := decide_eq_true c3
  clear c3
  obtain rfl := Option.some.inj H
  go_enter Try.func5, Try.ntmps5
  go_wp2_with (first | ((with_reducible refine gate_dst (N := 1) rfl ?_); refine box_event ?hg (N := 1) ?hd (cs := #[.int .i64 a0_0, .string a0_1]) (t := 23) ?hr ?_; (case hd => rfl); (case hg => rfl); (case hr => first | (go_simp; done) | (go_simp; rfl)); intro gb362 hg w4 hbox hb; have BK362 := Aside0.mk (hbox); have GW362 := Aside0.mk ((by rw [hg]; exact (below_size zB) : w.heap.size ≤ gb362)); have GE362 := Aside0.mk ((by rw [hg]; exact (below_size zB) : w.heap.size ≤ gb362)); replace HB := Aside0.mk (below_step zB hb); clear hb hbox hg; have hcz5_0 : w4.cell? ⟨gb362, 0, none⟩ = some (.int .i64 a0_0) := (blk_cell BK362.out 0).trans rfl; have hcz5_1 : w4.cell? ⟨gb362, 1, none⟩ = some (.string a0_1) := (blk_cell BK362.out 1).trans rfl; have hfz5_0 := blk_frozen BK362.out 0; have hfz5_1 := blk_frozen BK362.out 1) | ((with_reducible refine gate_callee (f := 12) rfl ?_); refine goesL_ (some 11) rfl rfl Try.func12 (by kernel_rfl) rfl #[.agg #[.int .i64 a0_0, .string a0_1], .int .i64 1048576] rfl zM ?_; (with_reducible refine (laws_szSigns.calls a0_0 a0_1 1048576 t363 _ A2.out).mono ?_); rintro e w6 ⟨rfl, hb⟩; refine ⟨_, rfl, ?_⟩; replace BK362 := Aside0.mk (blk_below (g := gb362) (o := .cells #[.int .i64 a0_0, .string a0_1] 23 (0, 0)) (zK BK362.out) hb); replace HB := Aside0.mk (below_step (zG GE362.out) hb); (try clear hb)))
  go_ret
  exact ⟨zE, zG GE362.out⟩
 ·rw [if_neg c3] at H
  have c3b0 : decide (t363 < 0) = false := decide_eq_false c3
  clear c3
  replace H := Option.bind_eq_some_iff.mp H
  obtain ⟨⟨t364, t365⟩, A70, H⟩ := H
  replace H : ((spec_LeftRow.f k t364 t365).bind fun t366 => ((laws_toSigns.f a0_0 a0_1).bind fun bt369 => ((impl_LeftRow.f k bt369.1 bt369.2).bind fun t371 => ((laws_eqIntS.f k t371 t366).bind fun t374 => (if t374 = true then ((laws_markIntS.f k t371 1).bind fun bt375 => ((laws_heldIntS.f k bt375.2 1).bind fun t377 => (if t377 < 0 then (some false) else (if t377 = bt375.1 then ((laws_toSigns.f a0_0 a0_1).bind fun bt378 => ((impl_LeftRow.f k bt378.1 bt378.2).bind fun t380 => ((laws_eqIntS.f k t380 t366).bind fun t383 => (if t383 = true then ((laws_heldIntS.f k bt375.2 1).bind fun t384 => (if t384 < 0 then (some false) else (if t384 = bt375.1 then (some true) else (some false)))) else (some false))))) else (some false))))) else (some false)))))) = some r := H
  have A7 := Aside0.mk A70
  clear A70
  replace H := Option.bind_eq_some_iff.mp H
  obtain ⟨t366, A80, H⟩ := H
  replace H : ((laws_toSigns.f a0_0 a0_1).bind fun bt369 => ((impl_LeftRow.f k bt369.1 bt369.2).bind fun t371 => ((laws_eqIntS.f k t371 t366).bind fun t374 => (if t374 = true then ((laws_markIntS.f k t371 1).bind fun bt375 => ((laws_heldIntS.f k bt375.2 1).bind fun t377 => (if t377 < 0 then (some false) else (if t377 = bt375.1 then ((laws_toSigns.f a0_0 a0_1).bind fun bt378 => ((impl_LeftRow.f k bt378.1 bt378.2).bind fun t380 => ((laws_eqIntS.f k t380 t366).bind fun t383 => (if t383 = true then ((laws_heldIntS.f k bt375.2 1).bind fun t384 => (if t384 < 0 then (some false) else (if t384 = bt375.1 then (some true) else (some false)))) else (some false))))) else (some false))))) else (some false))))) = some r := H
  have A8 := Aside0.mk A80
  clear A80
  replace H := Option.bind_eq_some_iff.mp H
  obtain ⟨⟨t369, t370⟩, A90, H⟩ := H
  replace H : ((impl_LeftRow.f k t369 t370).bind fun t371 => ((laws_eqIntS.f k t371 t366).bind fun t374 => (if t374 = true then ((laws_markIntS.f k t371 1).bind fun bt375 => ((laws_heldIntS.f k bt375.2 1).bind fun t377 => (if t377 < 0 then (some false) else (if t377 = bt375.1 then ((laws_toSigns.f a0_0 a0_1).bind fun bt378 => ((impl_LeftRow.f k bt378.1 bt378.2).bind fun t380 => ((laws_eqIntS.f k t380 t366).bind fun t383 => (if t383 = true then ((laws_heldIntS.f k bt375.2 1).bind fun t384 => (if t384 < 0 then (some false) else (if t384 = bt375.1 then (some true) else (some false)))) else (some false))))) else (some false))))) else (some false)))) = some r := H
  have A9 := Aside0.mk A90
  clear A90
  replace H := Option.bind_eq_some_iff.mp H
  obtain ⟨t371, A100, H⟩ := H
  replace H : ((laws_eqIntS.f k t371 t366).bind fun t374 => (if t374 = true then ((laws_markIntS.f k t371 1).bind fun bt375 => ((laws_heldIntS.f k bt375.2 1).bind fun t377 => (if t377 < 0 then (some false) else (if t377 = bt375.1 then ((laws_toSigns.f a0_0 a0_1).bind fun bt378 => ((impl_LeftRow.f k bt378.1 bt378.2).bind fun t380 => ((laws_eqIntS.f k t380 t366).bind fun t383 => (if t383 = true then ((laws_heldIntS.f k bt375.2 1).bind fun t384 => (if t384 < 0 then (some false) else (if t384 = bt375.1 then (some true) else (some false)))) else (some false))))) else (some false))))) else (some false))) = some r := H
  have A10 := Aside0.mk A100
  clear A100
  replace H := Option.bind_eq_some_iff.mp H
  obtain ⟨t374, A110, H⟩ := H
  replace H : (if t374 = true then ((laws_markIntS.f k t371 1).bind fun bt375 => ((laws_heldIntS.f k bt375.2 1).bind fun t377 => (if t377 < 0 then (some false) else (if t377 = bt375.1 then ((laws_toSigns.f a0_0 a0_1).bind fun bt378 => ((impl_LeftRow.f k bt378.1 bt378.2).bind fun t380 => ((laws_eqIntS.f k t380 t366).bind fun t383 => (if t383 = true then ((laws_heldIntS.f k bt375.2 1).bind fun t384 => (if t384 < 0 then (some false) else (if t384 = bt375.1 then (some true) else (some false)))) else (some false))))) else (some false))))) else (some false)) = some r := H
  have A11 := Aside0.mk A110
  clear A110
  by_cases c12 : t374 = true
  ·subst c12
   have H1 : ((laws_markIntS.f k t371 1).bind fun bt375 => ((laws_heldIntS.f k bt375.2 1).bind fun t377 => (if t377 < 0 then (some false) else (if t377 = bt375.1 then ((laws_toSigns.f a0_0 a0_1).bind fun bt378 => ((impl_LeftRow.f k bt378.1 bt378.2).bind fun t380 => ((laws_eqIntS.f k t380 t366).bind fun t383 => (if t383 = true then ((laws_heldIntS.f k bt375.2 1).bind fun t384 => (if t384 < 0 then (some false) else (if t384 = bt375.1 then (some true) else (some false)))) else (some false))))) else (some false))))) = some r := by rw [if_pos rfl] at H; exact H
   clear H
   have H := H1
   clear H1
   replace H := Option.bind_eq_some_iff.mp H
   obtain ⟨⟨t375, t376⟩, A130, H⟩ := H
   replace H : ((laws_heldIntS.f k t376 1).bind fun t377 => (if t377 < 0 then (some false) else (if t377 = t375 then ((laws_toSigns.f a0_0 a0_1).bind fun bt378 => ((impl_LeftRow.f k bt378.1 bt378.2).bind fun t380 => ((laws_eqIntS.f k t380 t366).bind fun t383 => (if t383 = true then ((laws_heldIntS.f k t376 1).bind fun t384 => (if t384 < 0 then (some false) else (if t384 = t375 then (some true) else (some false)))) else (some false))))) else (some false)))) = some r := H
   have A13 := Aside0.mk A130
   clear A130
   replace H := Option.bind_eq_some_iff.mp H
   obtain ⟨t377, A140, H⟩ := H
   replace H : (if t377 < 0 then (some false) else (if t377 = t375 then ((laws_toSigns.f a0_0 a0_1).bind fun bt378 => ((impl_LeftRow.f k bt378.1 bt378.2).bind fun t380 => ((laws_eqIntS.f k t380 t366).bind fun t383 => (if t383 = true then ((laws_heldIntS.f k t376 1).bind fun t384 => (if t384 < 0 then (some false) else (if t384 = t375 then (some true) else (some false)))) else (some false))))) else (some false))) = some r := H
   have A14 := Aside0.mk A140
   clear A140
   by_cases c15 : t377 < 0
   ·rw [if_pos c15] at H
    have c15b0 : decide (t377 < 0) = true := decide_eq_true c15
    clear c15
    obtain rfl := Option.some.inj H
    cases hr_
   ·rw [if_neg c15] at H
    have c15b0 : decide (t377 < 0) = false := decide_eq_false c15
    clear c15
    by_cases c28 : t377 = t375
    ·rw [if_pos c28] at H
     have c28b0 : (t377 == t375) = true := beq_iff_eq.mpr c28
     have c28b1 : (t377 != t375) = false := bne_eq_false_iff_eq.mpr c28
     clear c28
     replace H := Option.bind_eq_some_iff.mp H
     obtain ⟨⟨t378, t379⟩, A290, H⟩ := H
     replace H : ((impl_LeftRow.f k t378 t379).bind fun t380 => ((laws_eqIntS.f k t380 t366).bind fun t383 => (if t383 = true then ((laws_heldIntS.f k t376 1).bind fun t384 => (if t384 < 0 then (some false) else (if t384 = t375 then (some true) else (some false)))) else (some false)))) = some r := H
     have A29 := Aside0.mk A290
     clear A290
     replace H := Option.bind_eq_some_iff.mp H
     obtain ⟨t380, A300, H⟩ := H
     replace H : ((laws_eqIntS.f k t380 t366).bind fun t383 => (if t383 = true then ((laws_heldIntS.f k t376 1).bind fun t384 => (if t384 < 0 then (some false) else (if t384 = t375 then (some true) else (some false)))) else (some false))) = some r := H
     have A30 := Aside0.mk A300
     clear A300
     replace H := Option.bind_eq_some_iff.mp H
     obtain ⟨t383, A310, H⟩ := H
     replace H : (if t383 = true then ((laws_heldIntS.f k t376 1).bind fun t384 => (if t384 < 0 then (some false) else (if t384 = t375 then (some true) else (some false)))) else (some false)) = some r := H
     have A31 := Aside0.mk A310
     clear A310
     by_cases c32 : t383 = true
     ·subst c32
      have H1 : ((laws_heldIntS.f k t376 1).bind fun t384 => (if t384 < 0 then (some false) else (if t384 = t375 then (some true) else (some false)))) = some r := by rw [if_pos rfl] at H; exact H
      clear H
      have H := H1
      clear H1
      replace H := Option.bind_eq_some_iff.mp H
      obtain ⟨t384, A330, H⟩ := H
      replace H : (if t384 < 0 then (some false) else (if t384 = t375 then (some true) else (some false))) = some r := H
      have A33 := Aside0.mk A330
      clear A330
      by_cases c34 : t384 < 0
      ·rw [if_pos c34] at H
       have c34b0 : decide (t384 < 0) = true := decide_eq_true c34
       clear c34
       obtain rfl := Option.some.inj H
       cases hr_
      ·rw [if_neg c34] at H
       have c34b0 : decide (t384 < 0) = false := decide_eq_false c34
       clear c34
       by_cases c51 : t384 = t375
       ·rw [if_pos c51] at H
        have c51b0 : (t384 == t375) = true := beq_iff_eq.mpr c51
        have c51b1 : (t384 != t375) = false := bne_eq_false_iff_eq.mpr c51
        clear c51
        obtain rfl := Option.some.inj H
        go_enter Try.func5, Try.ntmps5
        go_wp2_with (first | ((with_reducible refine gate_dst (N := 1) rfl ?_); refine box_event ?hg (N := 1) ?hd (cs := #[.int .i64 a0_0, .string a0_1]) (t := 23) ?hr ?_; (case hd => rfl); (case hg => rfl); (case hr => first | (go_simp; done) | (go_simp; rfl)); intro gb362 hg w52 hbox hb; have BK362 := Aside0.mk (hbox); have GW362 := Aside0.mk ((by rw [hg]; exact (below_size zB) : w.heap.size ≤ gb362)); have GE362 := Aside0.mk ((by rw [hg]; exact (below_size zB) : w.heap.size ≤ gb362)); replace HB := Aside0.mk (below_step zB hb); clear hb hbox hg; have hcz53_0 : w52.cell? ⟨gb362, 0, none⟩ = some (.int .i64 a0_0) := (blk_cell BK362.out 0).trans rfl; have hcz53_1 : w52.cell? ⟨gb362, 1, none⟩ = some (.string a0_1) := (blk_cell BK362.out 1).trans rfl; have hfz53_0 := blk_frozen BK362.out 0; have hfz53_1 := blk_frozen BK362.out 1) | ((with_reducible refine gate_callee (f := 12) rfl ?_); refine goesL_ (some 11) rfl rfl Try.func12 (by kernel_rfl) rfl #[.agg #[.int .i64 a0_0, .string a0_1], .int .i64 1048576] rfl zM ?_; (with_reducible refine (laws_szSigns.calls a0_0 a0_1 1048576 t363 _ A2.out).mono ?_); rintro e w54 ⟨rfl, hb⟩; refine ⟨_, rfl, ?_⟩; replace BK362 := Aside0.mk (blk_below (g := gb362) (o := .cells #[.int .i64 a0_0, .string a0_1] 23 (0, 0)) (zK BK362.out) hb); replace HB := Aside0.mk (below_step (zG GE362.out) hb); (try clear hb); have hcz55_0 : w54.cell? ⟨gb362, 0, none⟩ = some (.int .i64 a0_0) := (blk_cell BK362.out 0).trans rfl; have hcz55_1 : w54.cell? ⟨gb362, 1, none⟩ = some (.string a0_1) := (blk_cell BK362.out 1).trans rfl; have hfz55_0 := blk_frozen BK362.out 0; have hfz55_1 := blk_frozen BK362.out 1) | ((with_reducible refine gate_callee (f := 14) rfl ?_); refine goesL_ (some 15) rfl rfl Try.func14 (by kernel_rfl) rfl #[.agg #[.int .i64 a0_0, .string a0_1]] rfl zM ?_; (with_reducible refine (laws_toSigns.calls a0_0 a0_1 t364 t365 _ A7.out).mono ?_); rintro e w56 ⟨rfl, hb⟩; refine ⟨_, rfl, ?_⟩; replace BK362 := Aside0.mk (blk_below (g := gb362) (o := .cells #[.int .i64 a0_0, .string a0_1] 23 (0, 0)) (zK BK362.out) hb); replace HB := Aside0.mk (below_step (zG GE362.out) hb); (try clear hb)) | ((with_reducible refine gate_callee (f := 21) rfl ?_); refine goesL_ (some 16) rfl rfl Try.func21 (by kernel_rfl) rfl #[.agg #[.int .i64 t364, .string t365]] rfl zM ?_; (with_reducible refine (spec_LeftRow.calls k t364 t365 t366 _ A8.out).mono ?_); rintro e w57 ⟨v367, rfl, ho0, hb⟩; refine ⟨_, rfl, ?_⟩; have HO368 := Aside0.mk (Kd.R_lower ho0 (below_size (zG GE362.out))); replace BK362 := Aside0.mk (blk_below (g := gb362) (o := .cells #[.int .i64 a0_0, .string a0_1] 23 (0, 0)) (zK BK362.out) hb); replace HB := Aside0.mk (below_step (zG GE362.out) hb); (try clear hb); (try clear ho0); have hcz58_0 : w57.cell? ⟨gb362, 0, none⟩ = some (.int .i64 a0_0) := (blk_cell BK362.out 0).trans rfl; have hcz58_1 : w57.cell? ⟨gb362, 1, none⟩ = some (.string a0_1) := (blk_cell BK362.out 1).trans rfl; have hfz58_0 := blk_frozen BK362.out 0; have hfz58_1 := blk_frozen BK362.out 1) | ((with_reducible refine gate_callee (f := 14) rfl ?_); refine goesL_ (some 18) rfl rfl Try.func14 (by kernel_rfl) rfl #[.agg #[.int .i64 a0_0, .string a0_1]] rfl zM ?_; (with_reducible refine (laws_toSigns.calls a0_0 a0_1 t369 t370 _ A9.out).mono ?_); rintro e w59 ⟨rfl, hb⟩; refine ⟨_, rfl, ?_⟩; replace HO368 := Aside0.mk (Kd.R_below (zR HO368.out) hb); replace BK362 := Aside0.mk (blk_below (g := gb362) (o := .cells #[.int .i64 a0_0, .string a0_1] 23 (0, 0)) (zK BK362.out) hb); replace HB := Aside0.mk (below_step (zG GE362.out) hb); (try clear hb)) | ((with_reducible refine gate_callee (f := 22) rfl ?_); refine goesL_ (some 19) rfl rfl Try.func22 (by kernel_rfl) rfl #[.agg #[.int .i64 t369, .string t370]] rfl zM ?_; (with_reducible refine (impl_LeftRow.calls k t369 t370 t371 _ A10.out).mono ?_); rintro e w60 ⟨v372, rfl, ho0, hb⟩; refine ⟨_, rfl, ?_⟩; have n0_ := Aside0.mk (Kd.R_elder' (zR HO368.out) (Kd.R_base ho0) hb); have n1_ := Aside0.mk (Kd.R_lower (Kd.R_new' ho0 (Kd.R_lt (zR HO368.out))) (below_size (zG GE362.out))); have n2_ := Aside0.mk (blk_below (g := gb362) (o := .cells #[.int .i64 a0_0, .string a0_1] 23 (0, 0)) (zK BK362.out) hb); have n3_ := Aside0.mk (below_step (zG GE362.out) hb); clear HO368; clear BK362; clear HB; have HO368 := n0_; have HO373 := n1_; have BK362 := n2_; have HB := n3_; clear n0_ n1_ n2_ n3_; (try clear hb); (try clear ho0); obtain ⟨Ao61, co61, eo61⟩ := Kd.R_slice HO373.out; subst eo61; obtain ⟨Ao62, co62, eo62⟩ := Kd.R_slice HO368.out; subst eo62) | ((with_reducible refine gate_callee (f := 23) rfl ?_); refine goesL_ (some 22) rfl rfl Try.func23 (by kernel_rfl) rfl #[.slice Ao61 t371.length co61, .slice Ao62 t366.length co62] rfl zM ?_; (with_reducible refine (laws_eqIntS.calls k _ _ t371 _ _ t366 true _ ?side1 ?side2 ?side3 ?side4 A11.out).mono ?_); (case side1 => repeat (first | exact (Kd.R_reads' HO373.out).2.2 | (with_reducible refine Kd.C_alloc ?_ _) | (with_reducible refine Kd.C_drewN ?_ _) | (with_reducible refine Kd.C_drew ?_))); (case side2 => exact (Kd.R_reads' HO373.out).2.1); (case side3 => repeat (first | exact (Kd.R_reads' HO368.out).2.2 | (with_reducible refine Kd.C_alloc ?_ _) | (with_reducible refine Kd.C_drewN ?_ _) | (with_reducible refine Kd.C_drew ?_))); (case side4 => exact (Kd.R_reads' HO368.out).2.1); rintro e w' ⟨rfl, ⟨nd, rfl⟩⟩; refine ⟨_, rfl, ?_⟩) | ((with_reducible refine gate_callee (f := 24) rfl ?_); refine goesL_ (some 26) rfl rfl Try.func24 (by kernel_rfl) rfl #[.slice Ao61 t371.length co61, .int .i64 1] rfl zM ?_; (with_reducible refine (laws_markIntS.calls k (fun k_ => some k_ = (.slice Ao61 t371.length co61 : Value).ownBlock) (.slice Ao61 t371.length co61) t371 1 t375 t376 w _ ?side1 ?side2 A13.out).mono ?_); (case side1 => repeat (first | (with_reducible first | exact HB.out | apply below_alloc | apply pw_below_drewN | apply below_drew1 | refine below_set ?_ GE362.out) | exact HB.out)); (case side2 => exact Kd.R_tight rfl HO373.out); rintro e w63 ⟨rfl, hy0, hb, hkp⟩; refine ⟨_, rfl, ?_⟩; replace BK362 := Aside0.mk (blk_kept (zK BK362.out) hkp (fun hs_ => (fun e_ => (Kd.R_ne HO373.out BK362.out (by decide)) e_) hs_)); replace HO368 := Aside0.mk (Kd.R_mono (ok' := fun k_ => some k_ ≠ (.slice Ao61 t371.length co61 : Value).ownBlock) (Kd.R_keptB (HO368.out) hkp (fun k_ hk_ hs_ => (hk_.2) hs_)) (fun k_ hk_ => hk_.1.2)); replace HO373 := Aside0.mk (Kd.R_reok rfl hy0 (fun k_ e_ => HO373.out.1 k_ e_)); replace HB := Aside0.mk (hb); (try clear hb); (try clear hkp); (try clear hy0)) | ((with_reducible refine gate_callee (f := 25) rfl ?_); refine goesL_ (some 29) rfl rfl Try.func25 (by kernel_rfl) rfl #[.slice Ao61 t376.length co61, .int .i64 1] rfl (by (try simp only [List.map_toArray, List.map_cons, List.map_nil]); first | done | (rw [show t376.length = t371.length from (Kd.R_reads' HO373.out).1.symm] <;> rfl) | rfl | (simp only [List.length_drop, List.length_take]; rfl)) ?_; (with_reducible refine (laws_heldIntS.calls k _ _ t376 1 t377 _ ?side1 ?side2 A14.out).mono ?_); (case side1 => repeat (first | exact (Kd.R_reads' HO373.out).2.2 | (with_reducible refine Kd.C_alloc ?_ _) | (with_reducible refine Kd.C_drewN ?_ _) | (with_reducible refine Kd.C_drew ?_))); (case side2 => rw [show t376.length = t371.length from (Kd.R_reads' HO373.out).1.symm]; exact (Kd.R_reads' HO373.out).2.1); rintro e w' ⟨rfl, ⟨nd, rfl⟩⟩; refine ⟨_, rfl, ?_⟩; have hcz64_0 : w63.cell? ⟨gb362, 0, none⟩ = some (.int .i64 a0_0) := (blk_cell BK362.out 0).trans rfl; have hcz64_1 : w63.cell? ⟨gb362, 1, none⟩ = some (.string a0_1) := (blk_cell BK362.out 1).trans rfl; have hfz64_0 := blk_frozen BK362.out 0; have hfz64_1 := blk_frozen BK362.out 1) | ((with_reducible refine gate_callee (f := 14) rfl ?_); refine goesL_ (some 36) rfl rfl Try.func14 (by kernel_rfl) rfl #[.agg #[.int .i64 a0_0, .string a0_1]] rfl zM ?_; (with_reducible refine (laws_toSigns.calls a0_0 a0_1 t378 t379 _ A29.out).mono ?_); rintro e w65 ⟨rfl, hb⟩; refine ⟨_, rfl, ?_⟩; replace HO368 := Aside0.mk (Kd.R_below (zR HO368.out) hb); replace HO373 := Aside0.mk (Kd.R_below (zR HO373.out) hb); replace BK362 := Aside0.mk (blk_below (g := gb362) (o := .cells #[.int .i64 a0_0, .string a0_1] 23 (0, 0)) (zK BK362.out) hb); replace HB := Aside0.mk (below_step (zG GE362.out) hb); (try clear hb)) | ((with_reducible refine gate_callee (f := 22) rfl ?_); refine goesL_ (some 37) rfl rfl Try.func22 (by kernel_rfl) rfl #[.agg #[.int .i64 t378, .string t379]] rfl zM ?_; (with_reducible refine (impl_LeftRow.calls k t378 t379 t380 _ A30.out).mono ?_); rintro e w66 ⟨v381, rfl, ho0, hb⟩; refine ⟨_, rfl, ?_⟩; have n0_ := Aside0.mk (Kd.R_elder' (zR HO368.out) (Kd.R_base ho0) hb); have n1_ := Aside0.mk (Kd.R_elder' (zR HO373.out) (Kd.R_base ho0) hb); have n2_ := Aside0.mk (Kd.R_lower (Kd.R_new' (Kd.R_new' ho0 (Kd.R_lt (zR HO368.out))) (Kd.R_lt (zR HO373.out))) (below_size (zG GE362.out))); have n3_ := Aside0.mk (blk_below (g := gb362) (o := .cells #[.int .i64 a0_0, .string a0_1] 23 (0, 0)) (zK BK362.out) hb); have n4_ := Aside0.mk (below_step (zG GE362.out) hb); clear HO368; clear HO373; clear BK362; clear HB; have HO368 := n0_; have HO373 := n1_; have HO382 := n2_; have BK362 := n3_; have HB := n4_; clear n0_ n1_ n2_ n3_ n4_; (try clear hb); (try clear ho0); obtain ⟨Ao67, co67, eo67⟩ := Kd.R_slice HO382.out; subst eo67) | ((with_reducible refine gate_callee (f := 23) rfl ?_); refine goesL_ (some 40) rfl rfl Try.func23 (by kernel_rfl) rfl #[.slice Ao67 t380.length co67, .slice Ao62 t366.length co62] rfl zM ?_; (with_reducible refine (laws_eqIntS.calls k _ _ t380 _ _ t366 true _ ?side1 ?side2 ?side3 ?side4 A31.out).mono ?_); (case side1 => repeat (first | exact (Kd.R_reads' HO382.out).2.2 | (with_reducible refine Kd.C_alloc ?_ _) | (with_reducible refine Kd.C_drewN ?_ _) | (with_reducible refine Kd.C_drew ?_))); (case side2 => exact (Kd.R_reads' HO382.out).2.1); (case side3 => repeat (first | exact (Kd.R_reads' HO368.out).2.2 | (with_reducible refine Kd.C_alloc ?_ _) | (with_reducible refine Kd.C_drewN ?_ _) | (with_reducible refine Kd.C_drew ?_))); (case side4 => exact (Kd.R_reads' HO368.out).2.1); rintro e w' ⟨rfl, ⟨nd, rfl⟩⟩; refine ⟨_, rfl, ?_⟩) | ((with_reducible refine gate_callee (f := 25) rfl ?_); refine goesL_ (some 44) rfl rfl Try.func25 (by kernel_rfl) rfl #[.slice Ao61 t376.length co61, .int .i64 1] rfl (by (try simp only [List.map_toArray, List.map_cons, List.map_nil]); first | done | (rw [show t376.length = t371.length from (Kd.R_reads' HO373.out).1.symm] <;> rfl) | rfl | (simp only [List.length_drop, List.length_take]; rfl)) ?_; (with_reducible refine (laws_heldIntS.calls k _ _ t376 1 t384 _ ?side1 ?side2 A33.out).mono ?_); (case side1 => repeat (first | exact (Kd.R_reads' HO373.out).2.2 | (with_reducible refine Kd.C_alloc ?_ _) | (with_reducible refine Kd.C_drewN ?_ _) | (with_reducible refine Kd.C_drew ?_))); (case side2 => rw [show t376.length = t371.length from (Kd.R_reads' HO373.out).1.symm]; exact (Kd.R_reads' HO373.out).2.1); rintro e w' ⟨rfl, ⟨nd, rfl⟩⟩; refine ⟨_, rfl, ?_⟩))
        go_ret
        exact ⟨zE, zG GE362.out⟩
       ·rw [if_neg c51] at H
        have c51b0 : (t384 == t375) = false := beq_eq_false_iff_ne.mpr c51
        have c51b1 : (t384 != t375) = true := bne_iff_ne.mpr c51
        obtain rfl := Option.some.inj H
        cases hr_
     ·replace c32 := Bool.eq_false_iff.mpr c32
      subst c32
      have H1 : (some false) = some r := by rw [if_neg (show ¬ (false = true) by decide)] at H; exact H
      clear H
      have H := H1
      clear H1
      obtain rfl := Option.some.inj H
      cases hr_
    ·rw [if_neg c28] at H
     have c28b0 : (t377 == t375) = false := beq_eq_false_iff_ne.mpr c28
     have c28b1 : (t377 != t375) = true := bne_iff_ne.mpr c28
     obtain rfl := Option.some.inj H
     cases hr_
  ·replace c12 := Bool.eq_false_iff.mpr c12
   subst c12
   have H1 : (some false) = some r := by rw [if_neg (show ¬ (false = true) by decide)] at H; exact H
   clear H
   have H := H1
   clear H1
   obtain rfl := Option.some.inj H
   cases hr_
end Go.Proofs.Ytbjncemaeagjjaa.PX
namespace Go.Proofs.Ytbjncemaeagjjaa.M
open Go.RowKit Go.Proofs.YtbjncemaeagjjaaW.PrintWords Go.Proofs.Ytbjncemaeagjjaa.PX Go.Proofs.Ytbjncemaeagjjaa.G Go.Proofs.YtbjncemaeagjjaaW.PrintMore
/-- How many elements lie to the left of i and j. -/
def leftV (n : Nat) (t : ByteArray) (i j : Nat) : Nat := ((List.range' 0 n).filter fun k => decide (chi n t i j k = 1)).length
theorem count_fold (c : Nat → Bool) (l : List Nat) : ∀ s : Nat, l.foldl (fun s k => if c k = true then s + 1 else s) s = s + (l.filter c).length := by
  induction l with
  | nil => intro s; rfl
  | cons x l ih =>
    intro s
    rw [List.foldl_cons, ih, List.filter_cons]
    cases c x
    · rfl
    · simp only [if_true, List.length_cons]; omega
theorem leftV_le (n : Nat) (t : ByteArray) (i j : Nat) : leftV n t i j ≤ n := by
  unfold leftV
  exact Nat.le_trans (List.length_filter_le _ _) (by rw [List.length_range']; omega)
theorem impl_left {n : Nat} {t : ByteArray} (h : areOk n t = true) {i j : Nat} (hi : i < n) (hj : j < n) : Ev (fun k => impl_chi_left.f k (tblL n t) (i : Int) (j : Int)) (leftV n t i j : Int) := by
  obtain ⟨⟨h0, h1⟩, _, _⟩ := (areOk_iff _ _).1 h
  unfold impl_chi_left.f
  have key := loop_up' (σ := Nat) (ρ := Int) (lo := 0) (n := n) (K := fun s _ => some (s : Int)) (L := fun x s k => impl_chi_left.l0 k (tblL n t) (i : Int) (j : Int) (s : Int) x) (fun x s => s ≤ x)
    (fun s x => .ok (if decide (chi n t i j x = 1) = true then s + 1 else s)) (fun s _ => ?_) (fun x _ hx s hs => ?_) (fun x _ hx s hs s' e => ?_) (by omega) 0 (Nat.le_refl _)
  · rw [foldlM_ok, count_fold] at key
    refine ev_cast (key _ (Ev.now _)) ?_
    rw [Nat.zero_add]
    rfl
  · refine Goes.step ?_
    simp only [impl_chi_left.l0, tbl_n]
    exact Goes.neg (by omega) (Goes.ok (K := fun s _ => some (s : Int)) s)
  · refine Goes.step ?_
    simp only [impl_chi_left.l0, tbl_n]
    rw [tbl_rd n t i j x (by omega) (by omega) (by omega), wrap_id (x := (x : Int) + 1) (by omega) (by omega), wrap_id (x := (s : Int) + 1) (by omega) (by omega)]
    refine Goes.pos (by omega) (Goes.pos (by omega) (Goes.pos (by omega) (Goes.pos (by omega) (Goes.pos (by omega) (Goes.pos (by omega) (Goes.pos (by omega) ?_))))))
    by_cases g : chi n t i j x = 1
    · rw [decide_eq_true g, if_pos rfl]
      exact Goes.pos g (Goes.ok (K := fun (s : Nat) k => impl_chi_left.l0 k (tblL n t) (i : Int) (j : Int) (s : Int) ((x + 1 : Nat) : Int)) (s + 1))
    · rw [decide_eq_false g, if_neg (by decide)]
      exact Goes.neg g (Goes.ok (K := fun (s : Nat) k => impl_chi_left.l0 k (tblL n t) (i : Int) (j : Int) (s : Int) ((x + 1 : Nat) : Int)) s)
  · cases e
    split <;> omega
theorem spec_left {n : Nat} {t : ByteArray} (h : areOk n t = true) {i j : Nat} (hi : i < n) (hj : j < n) (hij : i ≠ j) : Ev (fun k => spec_l7Left.f k (n : Int) t (i : Int) (j : Int)) (leftV n t i j : Int) := by
  obtain ⟨⟨h0, h1⟩, _, _⟩ := (areOk_iff _ _).1 h
  unfold spec_l7Left.f
  have hb1 : ∀ x : Bool, spec_l1Bit.f x = some (if x = true then 1 else 0) := fun x => by unfold spec_l1Bit.f; split <;> rfl
  have key := loop_up' (σ := Nat) (ρ := Int) (lo := 0) (n := n) (K := fun s _ => some (s : Int)) (L := fun x s k => spec_l7Left.l0 k (i : Int) (j : Int) (s : Int) x (n : Int) t) (fun x s => s ≤ x)
    (fun s x => .ok (if decide (chi n t i j x = 1) = true then s + 1 else s)) (fun s _ => ?_) (fun x _ hx s hs => ?_) (fun x _ hx s hs s' e => ?_) (by omega) 0 (Nat.le_refl _)
  · rw [foldlM_ok, count_fold] at key
    refine ev_cast (key _ (Ev.now _)) ?_
    rw [Nat.zero_add]
    rfl
  · refine Goes.step ?_
    simp only [spec_l7Left.l0]
    exact Goes.neg (by omega) (Goes.ok (K := fun s _ => some (s : Int)) s)
  · have fin : ∀ (v : Bool), v = decide (chi n t i j x = 1) → Goes (.ok (if decide (chi n t i j x = 1) = true then s + 1 else s)) (fun (s : Nat) k => spec_l7Left.l0 k (i : Int) (j : Int) (s : Int) ((x + 1 : Nat) : Int) (n : Int) t)
        (fun k => (spec_l1Bit.f v).bind fun t163 => spec_l7Left.l0 k (i : Int) (j : Int) (wrap64 ((s : Int) + t163)) ((x + 1 : Nat) : Int) (n : Int) t) := by
      intro v hv
      refine Goes.call (hb1 v) ?_
      rw [← hv]
      cases v
      · rw [if_neg (by decide), if_neg (by decide), wrap_id (by omega) (by omega), show (s : Int) + 0 = (s : Int) by omega]
        exact Goes.ok (K := fun (s : Nat) k => spec_l7Left.l0 k (i : Int) (j : Int) (s : Int) ((x + 1 : Nat) : Int) (n : Int) t) s
      · rw [if_pos rfl, if_pos rfl, wrap_id (by omega) (by omega)]
        exact Goes.ok (K := fun (s : Nat) k => spec_l7Left.l0 k (i : Int) (j : Int) (s : Int) ((x + 1 : Nat) : Int) (n : Int) t) (s + 1)
    refine Goes.step ?_
    simp only [spec_l7Left.l0]
    rw [wrap_id (x := (x : Int) + 1) (by omega) (by omega)]
    refine Goes.pos (by omega) ?_
    by_cases g1 : x = i
    · subst g1
      refine Goes.pos rfl (fin false ?_)
      rw [(chi_zero t (by omega) (by omega) (show x < 7 by omega) (show j < 7 by omega)).2.1]
      rfl
    · refine Goes.neg (by omega) ?_
      by_cases g2 : x = j
      · subst g2
        refine Goes.pos rfl (fin false ?_)
        rw [(chi_zero t (by omega) (by omega) (show x < 7 by omega) (show i < 7 by omega)).2.2]
        rfl
      · refine Goes.neg (by omega) (Goes.ev (l3At_ev h hi hj hx hij (by omega) (by omega)) (fin _ ?_))
        rcases chi_three n t i j x with e | e | e <;> rw [e] <;> rfl
  · cases e
    split <;> omega
/-- The left ones of both directions and the pair itself are all. -/
theorem count_one : ∀ n : Nat, n ≤ 7 → ∀ i : Nat, i < n → ((List.range' 0 n).filter fun k => decide (k = i)).length = 1 := by decide +kernel
theorem count_four (p q r u : Nat → Bool) (l : List Nat) (h : ∀ k ∈ l, (if p k then 1 else 0) + (if q k then 1 else 0) + (if r k then 1 else 0) + (if u k then 1 else 0) = 1) :
    (l.filter p).length + (l.filter q).length + (l.filter r).length + (l.filter u).length = l.length := by
  induction l with
  | nil => rfl
  | cons x l ih =>
    have h1 := ih fun k hk => h k (List.mem_cons_of_mem _ hk)
    have h2 := h x List.mem_cons_self
    rw [List.filter_cons, List.filter_cons, List.filter_cons, List.filter_cons, List.length_cons]
    revert h2
    cases p x <;> cases q x <;> cases r x <;> cases u x <;> simp only [if_true, if_false, List.length_cons, Bool.false_eq_true] <;> intro h2 <;> omega
theorem leftV_sum {n : Nat} (t : ByteArray) (h0 : 3 ≤ n) (h1 : n ≤ 7) {i j : Nat} (hi : i < n) (hj : j < n) (hij : i ≠ j) : leftV n t i j + leftV n t j i + 2 = n := by
  have h := count_four (fun k => decide (chi n t i j k = 1)) (fun k => decide (chi n t j i k = 1)) (fun k => decide (k = i)) (fun k => decide (k = j)) (List.range' 0 n) fun k hk => ?_
  · rw [count_one n h1 i hi, count_one n h1 j hj, List.length_range'] at h
    unfold leftV
    omega
  · rw [List.mem_range'_1] at hk
    have e := chi_swap1 t h0 h1 (show i < 7 by omega) (show j < 7 by omega) (show k < 7 by omega)
    rw [e]
    by_cases g1 : k = i
    · subst g1
      rw [(chi_zero t h0 h1 (show k < 7 by omega) (show j < 7 by omega)).2.1, decide_eq_true (show k = k from rfl), decide_eq_false hij]
      rfl
    · by_cases g2 : k = j
      · subst g2
        rw [(chi_zero t h0 h1 (show k < 7 by omega) (show i < 7 by omega)).2.2, decide_eq_true (show k = k from rfl), decide_eq_false g1]
        rfl
      · rw [decide_eq_false g1, decide_eq_false g2]
        rcases chi_pm t h0 h1 hi hj (show k < n by omega) hij (by omega) (by omega) with e | e <;> rw [e] <;> rfl
end Go.Proofs.Ytbjncemaeagjjaa.M
namespace Go.Proofs.Ytbjncemaeagjjaa.PX
open Go.RowKit Go.Proofs.Ytbjncemaeagjjaa.G Go.Proofs.YtbjncemaeagjjaaW.PrintWords Go.Proofs.YtbjncemaeagjjaaW.PrintLast Go.Proofs.YtbjncemaeagjjaaW.PrintMore
attribute [local go_sem] max2_int min2_int max_two min_two max_three min_three max_four min_four   -- for this text's walks alone
set_option linter.unusedVariables false
set_option linter.unusedSimpArgs false
/-! ### spec_LeftTable: function 16 -/
mutual
def spec_LeftTable.l0 : Nat → List (List Int) → Int → Int → ByteArray → Option ((List (List Int)))
 | 0, _, _, _, _ => none
 | k + 1, x3, x4, x286000, x286001 => if x4 < x286000 then ((spec_IsAcyclic.f k x286000 x286001).bind fun t289 => (spec_LeftTable.j1 k x3 x4 t289 x286000 x286001)) else (spec_LeftTable.j1 k x3 x4 false x286000 x286001)
def spec_LeftTable.j1 : Nat → List (List Int) → Int → Bool → Int → ByteArray → Option ((List (List Int)))
 | 0, _, _, _, _, _ => none
 | k + 1, x3, x4, x16, x286000, x286001 => if x16 = true then (spec_LeftTable.l1 k x3 x4 (([] : List Int)) 0 x286000 x286001) else (some x3)
def spec_LeftTable.l1 : Nat → List (List Int) → Int → List Int → Int → Int → ByteArray → Option ((List (List Int)))
 | 0, _, _, _, _, _, _ => none
 | k + 1, x3, x4, x5, x6, x286000, x286001 => if x6 < x286000 then (if x4 = x6 then (if x5.length < 17592186044416 then (spec_LeftTable.l1 k x3 x4 (x5 ++ [0]) (wrap64 (x6 + 1)) x286000 x286001) else (none)) else ((spec_l7Left.f k x286000 x286001 x4 x6).bind fun t296 => (if x5.length < 17592186044416 then (spec_LeftTable.l1 k x3 x4 (x5 ++ [t296]) (wrap64 (x6 + 1)) x286000 x286001) else (none)))) else (if x3.length < 5864062014805 then (spec_LeftTable.l0 k (x3 ++ [x5]) (wrap64 (x4 + 1)) x286000 x286001) else (none))
end
def spec_LeftTable.f (k : Nat) (a0_0 : Int) (a0_1 : ByteArray) : Option ((List (List Int))) := spec_LeftTable.l0 k (([] : List (List Int))) 0 a0_0 a0_1
theorem spec_LeftTable.mono_l : ∀ k, (∀ y0 y1 y2 y3, LeO (spec_LeftTable.l0 k y0 y1 y2 y3) (spec_LeftTable.l0 (k + 1) y0 y1 y2 y3)) ∧ (∀ y0 y1 y2 y3 y4, LeO (spec_LeftTable.j1 k y0 y1 y2 y3 y4) (spec_LeftTable.j1 (k + 1) y0 y1 y2 y3 y4)) ∧ (∀ y0 y1 y2 y3 y4 y5, LeO (spec_LeftTable.l1 k y0 y1 y2 y3 y4 y5) (spec_LeftTable.l1 (k + 1) y0 y1 y2 y3 y4 y5))
 | 0 => ⟨fun _ _ _ _ r h => by simp [spec_LeftTable.l0] at h, fun _ _ _ _ _ r h => by simp [spec_LeftTable.j1] at h, fun _ _ _ _ _ _ r h => by simp [spec_LeftTable.l1] at h⟩
 | k + 1 => by
  obtain ⟨ih0, ih1, ih2⟩ := spec_LeftTable.mono_l k
  refine ⟨?_, ?_, ?_⟩ <;> intros <;> (first | unfold spec_LeftTable.l0 | unfold spec_LeftTable.j1 | unfold spec_LeftTable.l1) <;> repeat' first
  | (with_reducible exact ih0 _ _ _ _)
  | (with_reducible exact ih1 _ _ _ _ _)
  | (with_reducible exact ih2 _ _ _ _ _ _)
  | (with_reducible exact spec_IsAcyclic.mono _ _ _)
  | (with_reducible exact spec_l7Left.mono _ _ _ _ _)
  | (with_reducible exact LeO.refl _)
  | (with_reducible exact LeO.none _)
  | (with_reducible refine LeO.ite ?_ ?_)
  | (with_reducible refine LeO.bind ?_ (fun _ => ?_))
  | exact ih0 _ _ _ _
  | exact ih1 _ _ _ _ _
  | exact ih2 _ _ _ _ _ _
  | exact spec_IsAcyclic.mono _ _ _
  | exact spec_l7Left.mono _ _ _ _ _
  | exact LeO.none _
  | refine LeO.ite ?_ ?_
  | refine LeO.bind ?_ (fun _ => ?_)
theorem spec_LeftTable.mono : ∀ a0 a1 k, LeO (spec_LeftTable.f k a0 a1) (spec_LeftTable.f (k + 1) a0 a1) := by
 intro a0 a1 k
 obtain ⟨ih0, ih1, ih2⟩ := spec_LeftTable.mono_l k
 unfold spec_LeftTable.f
 repeat' first
   | (with_reducible exact ih0 _ _ _ _)
   | (with_reducible exact ih1 _ _ _ _ _)
   | (with_reducible exact ih2 _ _ _ _ _ _)
   | (with_reducible exact spec_IsAcyclic.mono _ _ _)
   | (with_reducible exact spec_l7Left.mono _ _ _ _ _)
   | (with_reducible exact LeO.refl _)
   | (with_reducible exact LeO.none _)
   | (with_reducible refine LeO.ite ?_ ?_)
   | (with_reducible refine LeO.bind ?_ (fun _ => ?_))
   | exact ih0 _ _ _ _
   | exact ih1 _ _ _ _ _
   | exact ih2 _ _ _ _ _ _
   | exact spec_IsAcyclic.mono _ _ _
   | exact spec_l7Left.mono _ _ _ _ _
   | exact LeO.none _
   | refine LeO.ite ?_ ?_
   | refine LeO.bind ?_ (fun _ => ?_)
set_option maxHeartbeats 8000000 in
set_option maxRecDepth 100000 in
theorem spec_LeftTable.calls (k : Nat) (a0_0 : Int) (a0_1 : ByteArray) (r : List (List Int)) (w : World) (h : spec_LeftTable.f k a0_0 a0_1 = some r) :
  Calls Try.prog 16 #[.agg #[.int .i64 a0_0, .string a0_1]] w fun e w' => ∃ v0_ : Value, e = .returned (v0_) ∧ Kd.S (Kd.slice 3 (Kd.int .i64)) 34 w' w.heap.size (fun _ => True) v0_ r ∧ Below w.heap.size w w' := by
 have hu26 := Try.underlying26
 have HB := Aside0.mk (Below.refl w.heap.size w)
 have H : (spec_LeftTable.l0 k (([] : List (List Int))) 0 a0_0 a0_1) = some r := h
 clear h
 obtain ⟨y286, hy286⟩ : ∃ y_ : List (List Int), y_ = (([] : List (List Int))) := ⟨_, rfl⟩
 replace H : (spec_LeftTable.l0 k y286 0 a0_0 a0_1) = some r := by first | (rw [hy286]; with_reducible exact H) | (have H2_ := (Option.bind_some _ _).symm.trans H; rw [hy286]; with_reducible exact H2_) | (have H2_ := (Option.bind_some _ _).symm.trans H; with_reducible exact H2_) | with_reducible exact H | (rw [hy286]; exact H) | exact H
 have Ny286 := Aside0.mk hy286
 clear hy286
 have H' := Aside0.mk H
 clear H
 go_enter Try.func16, Try.ntmps16
 go_wp2_with (first | ((with_reducible refine gate_dst (N := 1) rfl ?_); refine box_event ?hg (N := 1) ?hd (cs := #[.int .i64 a0_0, .string a0_1]) (t := 26) ?hr ?_; (case hd => rfl); (case hg => rfl); (case hr => first | (go_simp; done) | (go_simp; rfl)); intro gb285 hg w2 hbox hb; have BK285 := Aside0.mk (hbox); have GW285 := Aside0.mk ((by rw [hg]; exact (below_size zB) : w.heap.size ≤ gb285)); have GE285 := Aside0.mk ((by rw [hg]; exact (below_size zB) : w.heap.size ≤ gb285)); replace HB := Aside0.mk (below_step zB hb); clear hb hbox hg) | ((with_reducible refine gate_dst (N := 8) rfl ?_); refine Kd.S_lit (Kd.slice 3 (Kd.int .i64)) _ 34 ?hg (N := 8) ?hd (xs := ([] : List (List Int))) (inner := []) (ok := fun _ => True) (okp := fun _ => True) ?hr ?hp (fun _ hk => hk) trivial (Below.refl _ _) (Nat.le_refl _) (by simp) ?_; (case hd => rfl); (case hg => rfl); (case hr => first | (go_simp; done) | (go_simp; rfl)); (case hp => exact (Reps.none _ _)); intro v287 w3 ho4 hb hg_ hnew_; clear hg_ hnew_; (first | rw [← Ny286.out] at ho4 | (simp only [Int.reduceToNat] at ho4; rw [← Ny286.out] at ho4)); have HO288 := Aside0.mk (Kd.S_lower ho4 (below_size (zG GE285.out))); replace BK285 := Aside0.mk (blk_below (g := gb285) (o := .cells #[.int .i64 a0_0, .string a0_1] 26 (0, 0)) (zK BK285.out) hb); replace HB := Aside0.mk (below_step (zG GE285.out) hb); clear hb ho4))
 go_loopg [3, 4] k (fun kq v3 v4 w' => ∃ (x3_1 : List (List Int)) (x4_1 : Int), v4 = .int .i64 x4_1 ∧ Aside0 (spec_LeftTable.l0 kq x3_1 x4_1 a0_0 a0_1 = some r) ∧ Aside0 (kq ≤ k) ∧ Aside0 (Kd.S (Kd.slice 3 (Kd.int .i64)) 34 w' w.heap.size (fun _ => True) v3 x3_1) ∧ Aside0 (w'.heap[gb285]? = some (.cells #[.int .i64 a0_0, .string a0_1] 26 (0, 0))) ∧ Aside0 (Below w.heap.size w w'))
 case atStart => exact ⟨(y286), (0), zF, H', ⟨Nat.le_refl _⟩, ⟨by (with_reducible repeat (first | apply Kd.S_alloc | apply Kd.S_drewN | apply Kd.S_drew)); exact HO288.out⟩, ⟨zK BK285.out⟩, ⟨zG GE285.out⟩⟩
 case round =>
  clear H'
  try clear c1
  try clear p2
  obtain ⟨x3_1, x4_1, rfl, HA, HK1, HO_3, BK285, HB⟩ := hrel
  cases gk with
  | zero => exact absurd HA.out (by simp [spec_LeftTable.l0])
  | succ k1 =>
   have H := HA.out
   clear HA
   simp only [spec_LeftTable.l0] at H
   have HC5 := Aside0.mk H
   clear H
   go_upto_region 3 with (fail)
   go_cut [16] (fun v16 wc => ∃ (kq : Nat) (x16_4 : Bool), v16 = .bool x16_4 ∧ Aside0 (spec_LeftTable.j1 kq x3_1 x4_1 x16_4 a0_0 a0_1 = some r) ∧ Aside0 (kq ≤ k1) ∧ Aside0 (Kd.S (Kd.slice 3 (Kd.int .i64)) 34 wc w.heap.size (fun _ => True) u3 x3_1) ∧ Aside0 (wc.heap[gb285]? = some (.cells #[.int .i64 a0_0, .string a0_1] 26 (0, 0))) ∧ Aside0 (Below w.heap.size w wc))
   case first =>
    have H := HC5.out
    clear HC5
    by_cases c6 : x4_1 < a0_0
    ·rw [if_pos c6] at H
     have c6b0 : decide (x4_1 < a0_0) = true := decide_eq_true c6
     clear c6
     (first | rw [c6b0] | (simp only [i64_w, i32_w]; rw [c6b0]) | skip)
     replace H := Option.bind_eq_some_iff.mp H
     obtain ⟨t289, A70, H⟩ := H
     replace H : (spec_LeftTable.j1 k1 x3_1 x4_1 t289 a0_0 a0_1) = some r := H
     have A7 := Aside0.mk A70
     clear A70
     have H' := Aside0.mk H
     clear H
     have hcz8_0 : wr.cell? ⟨gb285, 0, none⟩ = some (.int .i64 a0_0) := (blk_cell BK285.out 0).trans rfl
     have hcz8_1 : wr.cell? ⟨gb285, 1, none⟩ = some (.string a0_1) := (blk_cell BK285.out 1).trans rfl
     have hfz8_0 := blk_frozen BK285.out 0
     have hfz8_1 := blk_frozen BK285.out 1
     go_wp2_with (first | (go_at_call 38; (with_reducible refine (spec_IsAcyclic.calls k1 a0_0 a0_1 t289 _ A7.out).mono ?_); rintro e w9 ⟨rfl, hb⟩; replace HO_3 := Aside0.mk (Kd.S_below (by (with_reducible repeat (first | apply Kd.S_alloc | apply Kd.S_drewN | apply Kd.S_drew)); exact HO_3.out) hb); replace BK285 := Aside0.mk (blk_below (g := gb285) (o := .cells #[.int .i64 a0_0, .string a0_1] 26 (0, 0)) (zK BK285.out) hb); replace HB := Aside0.mk (below_step (zG GE285.out) hb); (try clear hb); (try clear hb2); (try clear hk); (try clear hi)))
     go_meet
     case rel => exact ⟨_, (t289), zF, H', ⟨by have := HK1.out; first | omega | exact Nat.le_refl _⟩, ⟨by (with_reducible repeat (first | apply Kd.S_alloc | apply Kd.S_drewN | apply Kd.S_drew)); exact HO_3.out⟩, ⟨zK BK285.out⟩, ⟨zG GE285.out⟩⟩
    ·rw [if_neg c6] at H
     have c6b0 : decide (x4_1 < a0_0) = false := decide_eq_false c6
     clear c6
     (first | rw [c6b0] | (simp only [i64_w, i32_w]; rw [c6b0]) | skip)
     have H' := Aside0.mk H
     clear H
     have hcz10_0 : wr.cell? ⟨gb285, 0, none⟩ = some (.int .i64 a0_0) := (blk_cell BK285.out 0).trans rfl
     have hcz10_1 : wr.cell? ⟨gb285, 1, none⟩ = some (.string a0_1) := (blk_cell BK285.out 1).trans rfl
     have hfz10_0 := blk_frozen BK285.out 0
     have hfz10_1 := blk_frozen BK285.out 1
     go_wp2
     go_meet
     case rel => exact ⟨_, (false), zF, H', ⟨by have := HK1.out; first | omega | exact Nat.le_refl _⟩, ⟨by (with_reducible repeat (first | apply Kd.S_alloc | apply Kd.S_drewN | apply Kd.S_drew)); exact HO_3.out⟩, ⟨zK BK285.out⟩, ⟨zG GE285.out⟩⟩
   case rest =>
    clear HC5
    try clear c1
    try clear p2
    try clear c6
    try clear c6b0
    try clear hcz10_0
    try clear hcz10_1
    try clear hcz8_0
    try clear hcz8_1
    try clear hfz10_0
    try clear hfz10_1
    try clear hfz8_0
    try clear hfz8_1
    try clear p2
    obtain ⟨kq, x16_4, rfl, HA, HJ4, HO_3, BK285, HB⟩ := hcut
    cases kq with
    | zero => exact absurd HA.out (by simp [spec_LeftTable.j1])
    | succ kj4 =>
     have H := HA.out
     clear HA
     simp only [spec_LeftTable.j1] at H
     by_cases c11 : x16_4 = true
     ·subst c11
      have H1 : (spec_LeftTable.l1 kj4 x3_1 x4_1 (([] : List Int)) 0 a0_0 a0_1) = some r := by rw [if_pos rfl] at H; exact H
      clear H
      have H := H1
      clear H1
      obtain ⟨y290, hy290⟩ : ∃ y_ : List Int, y_ = (([] : List Int)) := ⟨_, rfl⟩
      replace H : (spec_LeftTable.l1 kj4 x3_1 x4_1 y290 0 a0_0 a0_1) = some r := by first | (rw [hy290]; with_reducible exact H) | (have H2_ := (Option.bind_some _ _).symm.trans H; rw [hy290]; with_reducible exact H2_) | (have H2_ := (Option.bind_some _ _).symm.trans H; with_reducible exact H2_) | with_reducible exact H | (rw [hy290]; exact H) | exact H
      have Ny290 := Aside0.mk hy290
      clear hy290
      have H' := Aside0.mk H
      clear H
      go_wp2_with (first | ((with_reducible refine gate_dst (N := 19) rfl ?_); refine Kd.R_lit (Kd.int .i64) _ 3 ?hg (N := 19) ?hd (xs := ([] : List Int)) (inner := []) (ok := fun _ => True) (okp := fun _ => True) ?hr ?hp (fun _ hk => hk) trivial (Below.refl _ _) (Nat.le_refl _) (by simp) ?_; (case hd => rfl); (case hg => rfl); (case hr => first | (go_simp; done) | (go_simp; rfl)); (case hp => exact (Reps.none _ _)); intro v291 w12 ho13 hb hg_ hnew_; clear hg_ hnew_; (first | rw [← Ny290.out] at ho13 | (simp only [Int.reduceToNat] at ho13; rw [← Ny290.out] at ho13)); replace HO_3 := Aside0.mk (Kd.S_elder' (by (with_reducible repeat (first | apply Kd.S_alloc | apply Kd.S_drewN | apply Kd.S_drew)); exact HO_3.out) (Kd.R_base ho13) hb); have HO292 := Aside0.mk (Kd.R_lower ho13 (below_size (zG GE285.out))); replace BK285 := Aside0.mk (blk_below (g := gb285) (o := .cells #[.int .i64 a0_0, .string a0_1] 26 (0, 0)) (zK BK285.out) hb); replace HB := Aside0.mk (below_step (zG GE285.out) hb); clear hb ho13))
      go_loopg [5, 6] kj4 (fun kq v5 v6 w' => ∃ (x5_3 : List Int) (x6_3 : Int), v6 = .int .i64 x6_3 ∧ Aside0 (spec_LeftTable.l1 kq x3_1 x4_1 x5_3 x6_3 a0_0 a0_1 = some r) ∧ Aside0 (kq ≤ kj4) ∧ Aside0 (Kd.S (Kd.slice 3 (Kd.int .i64)) 34 w' w.heap.size (fun k_ => some k_ ≠ (v5 : Value).ownBlock) u3 x3_1) ∧ Aside0 (Kd.R (Kd.int .i64) 3 w' w.heap.size (fun _ => True) v5 x5_3) ∧ Aside0 (w'.heap[gb285]? = some (.cells #[.int .i64 a0_0, .string a0_1] 26 (0, 0))) ∧ Aside0 (Below w.heap.size w w'))
      case atStart => exact ⟨(y290), (0), zF, H', ⟨Nat.le_refl _⟩, ⟨by (with_reducible repeat (first | apply Kd.S_alloc | apply Kd.S_drewN | apply Kd.S_drew)); exact Kd.S_mono HO_3.out (fun _ hk => hk.2)⟩, ⟨zR HO292.out⟩, ⟨zK BK285.out⟩, ⟨zG GE285.out⟩⟩
      case round =>
       clear H'
       try clear c1
       try clear p2
       try clear c6
       try clear c6b0
       try clear c11
       try clear hcz10_0
       try clear hcz10_1
       try clear hcz8_0
       try clear hcz8_1
       try clear hfz10_0
       try clear hfz10_1
       try clear hfz8_0
       try clear hfz8_1
       try clear p2
       obtain ⟨x5_3, x6_3, rfl, HA, HK3, HO_3, HO_5, BK285, HB⟩ := hrel
       cases gk with
       | zero => exact absurd HA.out (by simp [spec_LeftTable.l1])
       | succ k3 =>
        have H := HA.out
        clear HA
        simp only [spec_LeftTable.l1] at H
        by_cases c14 : x6_3 < a0_0
        ·rw [if_pos c14] at H
         have c14b0 : decide (x6_3 < a0_0) = true := decide_eq_true c14
         clear c14
         by_cases c15 : x4_1 = x6_3
         ·rw [if_pos c15] at H
          have c15b0 : (x4_1 == x6_3) = true := beq_iff_eq.mpr c15
          have c15b1 : (x4_1 != x6_3) = false := bne_eq_false_iff_eq.mpr c15
          clear c15
          by_cases c16 : x5_3.length < 17592186044416
          ·rw [if_pos c16] at H
           have LMc16 := Aside0.mk c16
           clear c16
           obtain ⟨y293, hy293⟩ : ∃ y_ : List Int, y_ = (x5_3 ++ [0]) := ⟨_, rfl⟩
           replace H : (spec_LeftTable.l1 k3 x3_1 x4_1 y293 (wrap64 (x6_3 + 1)) a0_0 a0_1) = some r := by first | (rw [hy293]; with_reducible exact H) | (have H2_ := (Option.bind_some _ _).symm.trans H; rw [hy293]; with_reducible exact H2_) | (have H2_ := (Option.bind_some _ _).symm.trans H; with_reducible exact H2_) | with_reducible exact H | (rw [hy293]; exact H) | exact H
           have Ny293 := Aside0.mk hy293
           clear hy293
           have H' := Aside0.mk H
           clear H
           have hcz17_0 : wr.cell? ⟨gb285, 0, none⟩ = some (.int .i64 a0_0) := (blk_cell BK285.out 0).trans rfl
           have hcz17_1 : wr.cell? ⟨gb285, 1, none⟩ = some (.string a0_1) := (blk_cell BK285.out 1).trans rfl
           have hfz17_0 := blk_frozen BK285.out 0
           have hfz17_1 := blk_frozen BK285.out 1
           go_wp2_with (first | ((with_reducible refine gate_builtin (b := .append) (xs := #[.tmp 33, .tmp 35]) rfl ?_); at_builtin; refine Kd.R_append (Kd.int .i64) (w0 := w) w.heap.size rfl (.tmp 33) (.tmp 35) 34 3 (.int .i64 0) 8 rfl Try.underlying34 info3 rfl (by decide) (by omega) u5 x5_3 0 [.int .i64 0] (fun _ => True) (fun _ => False) rfl rfl ?aP (fun _ hk => hk.elim) ?aF ?aO ?aB ?aS ?aL ?_; (case aP => exact rfl); (case aB => exact (zG GE285.out)); (case aF => exact (fun _ _ => trivial)); (case aO => exact (zR HO_5.out)); (case aS => exact (below_size (zG GE285.out))); (case aL => have := LMc16.out; omega); intro v294 w18 ho hb hg hat; rw [← Ny293.out] at ho; have n0_ := Aside0.mk (Kd.S_after (ok := (fun _ => True)) (by (with_reducible repeat (first | apply Kd.S_alloc | apply Kd.S_drewN | apply Kd.S_drew)); exact Kd.S_mono HO_3.out (fun _ hk => ⟨trivial, hk⟩)) hg hat); have n1_ := Aside0.mk (blk_grown (g := gb285) (o := .cells #[.int .i64 a0_0, .string a0_1] 26 (0, 0)) (zK BK285.out) hg (Kd.R_ne HO_5.out BK285.out (by decide))); have n2_ := Aside0.mk (hb); have n3_ := Aside0.mk (ho); clear HO_3; clear BK285; clear HB; clear HO_5; have HO_3 := n0_; have BK285 := n1_; have HB := n2_; have HO295 := n3_; clear n0_ n1_ n2_ n3_; clear ho hb hg hat))
           go_roundg k3
           case measure => have := HK1.out; have := HJ4.out; have := HK3.out; omega
           case rel => exact ⟨(y293), (wrap64 (x6_3 + 1)), zF, H', ⟨by have := HK1.out; have := HJ4.out; have := HK3.out; omega⟩, ⟨by (with_reducible repeat (first | apply Kd.S_alloc | apply Kd.S_drewN | apply Kd.S_drew)); exact Kd.S_mono HO_3.out (fun _ hk => hk.2)⟩, ⟨zR HO295.out⟩, ⟨zK BK285.out⟩, ⟨zG GE285.out⟩⟩
          ·rw [if_neg c16] at H
           exact absurd H (by simp)
         ·rw [if_neg c15] at H
          have c15b0 : (x4_1 == x6_3) = false := beq_eq_false_iff_ne.mpr c15
          have c15b1 : (x4_1 != x6_3) = true := bne_iff_ne.mpr c15
          replace H := Option.bind_eq_some_iff.mp H
          obtain ⟨t296, A190, H⟩ := H
          replace H : (if x5_3.length < 17592186044416 then (spec_LeftTable.l1 k3 x3_1 x4_1 (x5_3 ++ [t296]) (wrap64 (x6_3 + 1)) a0_0 a0_1) else (none)) = some r := H
          have A19 := Aside0.mk A190
          clear A190
          by_cases c20 : x5_3.length < 17592186044416
          ·rw [if_pos c20] at H
           have LMc20 := Aside0.mk c20
           clear c20
           obtain ⟨y297, hy297⟩ : ∃ y_ : List Int, y_ = (x5_3 ++ [t296]) := ⟨_, rfl⟩
           replace H : (spec_LeftTable.l1 k3 x3_1 x4_1 y297 (wrap64 (x6_3 + 1)) a0_0 a0_1) = some r := by first | (rw [hy297]; with_reducible exact H) | (have H2_ := (Option.bind_some _ _).symm.trans H; rw [hy297]; with_reducible exact H2_) | (have H2_ := (Option.bind_some _ _).symm.trans H; with_reducible exact H2_) | with_reducible exact H | (rw [hy297]; exact H) | exact H
           have Ny297 := Aside0.mk hy297
           clear hy297
           have H' := Aside0.mk H
           clear H
           have hcz21_0 : wr.cell? ⟨gb285, 0, none⟩ = some (.int .i64 a0_0) := (blk_cell BK285.out 0).trans rfl
           have hcz21_1 : wr.cell? ⟨gb285, 1, none⟩ = some (.string a0_1) := (blk_cell BK285.out 1).trans rfl
           have hfz21_0 := blk_frozen BK285.out 0
           have hfz21_1 := blk_frozen BK285.out 1
           go_wp2_with (first | ((with_reducible refine gate_callee (f := 40) rfl ?_); refine goesL_ (some 32) rfl rfl Try.func40 (by kernel_rfl) rfl #[.agg #[.int .i64 a0_0, .string a0_1], .int .i64 x4_1, .int .i64 x6_3] rfl zM ?_; (with_reducible refine (spec_l7Left.calls k3 a0_0 a0_1 x4_1 x6_3 t296 _ A19.out).mono ?_); rintro e w22 ⟨rfl, hb⟩; refine ⟨_, rfl, ?_⟩; replace HO_3 := Aside0.mk (Kd.S_below (by (with_reducible repeat (first | apply Kd.S_alloc | apply Kd.S_drewN | apply Kd.S_drew)); exact HO_3.out) hb); replace HO_5 := Aside0.mk (Kd.R_below (zR HO_5.out) hb); replace BK285 := Aside0.mk (blk_below (g := gb285) (o := .cells #[.int .i64 a0_0, .string a0_1] 26 (0, 0)) (zK BK285.out) hb); replace HB := Aside0.mk (below_step (zG GE285.out) hb); (try clear hb)) | ((with_reducible refine gate_builtin (b := .append) (xs := #[.tmp 33, .tmp 35]) rfl ?_); at_builtin; refine Kd.R_append (Kd.int .i64) (w0 := w) w.heap.size rfl (.tmp 33) (.tmp 35) 34 3 (.int .i64 0) 8 rfl Try.underlying34 info3 rfl (by decide) (by omega) u5 x5_3 t296 [.int .i64 t296] (fun _ => True) (fun _ => False) rfl rfl ?aP (fun _ hk => hk.elim) ?aF ?aO ?aB ?aS ?aL ?_; (case aP => exact rfl); (case aB => exact (zG GE285.out)); (case aF => exact (fun _ _ => trivial)); (case aO => exact (zR HO_5.out)); (case aS => exact (below_size (zG GE285.out))); (case aL => have := LMc20.out; omega); intro v298 w23 ho hb hg hat; rw [← Ny297.out] at ho; have n0_ := Aside0.mk (Kd.S_after (ok := (fun _ => True)) (by (with_reducible repeat (first | apply Kd.S_alloc | apply Kd.S_drewN | apply Kd.S_drew)); exact Kd.S_mono HO_3.out (fun _ hk => ⟨trivial, hk⟩)) hg hat); have n1_ := Aside0.mk (blk_grown (g := gb285) (o := .cells #[.int .i64 a0_0, .string a0_1] 26 (0, 0)) (zK BK285.out) hg (Kd.R_ne HO_5.out BK285.out (by decide))); have n2_ := Aside0.mk (hb); have n3_ := Aside0.mk (ho); clear HO_3; clear BK285; clear HB; clear HO_5; have HO_3 := n0_; have BK285 := n1_; have HB := n2_; have HO299 := n3_; clear n0_ n1_ n2_ n3_; clear ho hb hg hat))
           go_roundg k3
           case measure => have := HK1.out; have := HJ4.out; have := HK3.out; omega
           case rel => exact ⟨(y297), (wrap64 (x6_3 + 1)), zF, H', ⟨by have := HK1.out; have := HJ4.out; have := HK3.out; omega⟩, ⟨by (with_reducible repeat (first | apply Kd.S_alloc | apply Kd.S_drewN | apply Kd.S_drew)); exact Kd.S_mono HO_3.out (fun _ hk => hk.2)⟩, ⟨zR HO299.out⟩, ⟨zK BK285.out⟩, ⟨zG GE285.out⟩⟩
          ·rw [if_neg c20] at H
           exact absurd H (by simp)
        ·rw [if_neg c14] at H
         have c14b0 : decide (x6_3 < a0_0) = false := decide_eq_false c14
         clear c14
         by_cases c24 : x3_1.length < 5864062014805
         ·rw [if_pos c24] at H
          have LMc24 := Aside0.mk c24
          clear c24
          obtain ⟨y300, hy300⟩ : ∃ y_ : List (List Int), y_ = (x3_1 ++ [x5_3]) := ⟨_, rfl⟩
          replace H : (spec_LeftTable.l0 k3 y300 (wrap64 (x4_1 + 1)) a0_0 a0_1) = some r := by first | (rw [hy300]; with_reducible exact H) | (have H2_ := (Option.bind_some _ _).symm.trans H; rw [hy300]; with_reducible exact H2_) | (have H2_ := (Option.bind_some _ _).symm.trans H; with_reducible exact H2_) | with_reducible exact H | (rw [hy300]; exact H) | exact H
          have Ny300 := Aside0.mk hy300
          clear hy300
          have H' := Aside0.mk H
          clear H
          have hcz25_0 : wr.cell? ⟨gb285, 0, none⟩ = some (.int .i64 a0_0) := (blk_cell BK285.out 0).trans rfl
          have hcz25_1 : wr.cell? ⟨gb285, 1, none⟩ = some (.string a0_1) := (blk_cell BK285.out 1).trans rfl
          have hfz25_0 := blk_frozen BK285.out 0
          have hfz25_1 := blk_frozen BK285.out 1
          obtain ⟨Ao27, co27, eo27⟩ := Kd.R_slice HO_5.out
          subst eo27
          go_wp2_with (first | ((with_reducible refine gate_builtin (b := .append) (xs := #[.tmp 37, .tmp 39]) rfl ?_); at_builtin; refine Kd.S_append (Kd.slice 3 (Kd.int .i64)) (w0 := w) w.heap.size rfl (.tmp 37) (.tmp 39) 29 34 (.slice none 0 0) 24 rfl Try.underlying29 info34 rfl (by decide) (by omega) u3 x3_1 x5_3 [.slice Ao27 x5_3.length co27] (fun _ => True) (fun k_ => some k_ = (.slice Ao27 x5_3.length co27 : Value).ownBlock) rfl rfl ?aP (fun k_ hk_ => ((Kd.R_mono (ok' := fun k_ => ((fun _ => True)) k_ ∧ some k_ ≠ (u3 : Value).ownBlock) (Kd.R_apart' (HO_5.out) (Kd.S_typed HO_3.out) (by decide)) (fun k_ hk => ⟨trivial, hk.2⟩))).1 k_ hk_.symm) ?aF ?aO ?aB ?aS ?aL ?_; (case aP => exact Kd.M_row (Kd.R_mono (Kd.R_tight rfl (Kd.R_mono (ok' := fun k_ => ((fun _ => True)) k_ ∧ some k_ ≠ (u3 : Value).ownBlock) (Kd.R_apart' (HO_5.out) (Kd.S_typed HO_3.out) (by decide)) (fun k_ hk => ⟨trivial, hk.2⟩))) (fun _ h_ => h_))); (case aB => exact (zG GE285.out)); (case aF => exact (fun _ _ => trivial)); (case aO => exact (by (with_reducible repeat (first | apply Kd.S_alloc | apply Kd.S_drewN | apply Kd.S_drew)); exact Kd.S_mono HO_3.out (fun k_ hk => ⟨trivial, fun e_ => hk e_⟩))); (case aS => exact (below_size (zG GE285.out))); (case aL => have := LMc24.out; omega); intro v301 w26 ho hb hg hat; rw [← Ny300.out] at ho; have n0_ := Aside0.mk (blk_grown (g := gb285) (o := .cells #[.int .i64 a0_0, .string a0_1] 26 (0, 0)) (zK BK285.out) hg (Kd.S_ne HO_3.out BK285.out (by decide))); have n1_ := Aside0.mk (hb); have n2_ := Aside0.mk (ho); clear BK285; clear HB; clear HO_3; clear HO_5; have BK285 := n0_; have HB := n1_; have HO302 := n2_; clear n0_ n1_ n2_; clear ho hb hg hat))
          go_roundg k3
          case measure => have := HK1.out; have := HJ4.out; have := HK3.out; omega
          case rel => exact ⟨(y300), (wrap64 (x4_1 + 1)), zF, H', ⟨by have := HK1.out; have := HJ4.out; have := HK3.out; omega⟩, ⟨by (with_reducible repeat (first | apply Kd.S_alloc | apply Kd.S_drewN | apply Kd.S_drew)); exact HO302.out⟩, ⟨zK BK285.out⟩, ⟨zG GE285.out⟩⟩
         ·rw [if_neg c24] at H
          exact absurd H (by simp)
     ·replace c11 := Bool.eq_false_iff.mpr c11
      subst c11
      have H1 : (some x3_1) = some r := by rw [if_neg (show ¬ (false = true) by decide)] at H; exact H
      clear H
      have H := H1
      clear H1
      obtain rfl := Option.some.inj H
      go_wp2
      go_ret
      exact ⟨_, zE, by (with_reducible repeat (first | apply Kd.S_alloc | apply Kd.S_drewN | apply Kd.S_drew)); exact HO_3.out, zG GE285.out⟩
end Go.Proofs.Ytbjncemaeagjjaa.PX
namespace Go.Proofs.Ytbjncemaeagjjaa.M
open Go.RowKit Go.Proofs.YtbjncemaeagjjaaW.PrintWords Go.Proofs.Ytbjncemaeagjjaa.PX Go.Proofs.Ytbjncemaeagjjaa.G Go.Proofs.YtbjncemaeagjjaaW.PrintMore
def rowV (n : Nat) (t : ByteArray) (i : Nat) : List Int := (List.range' 0 n).map fun j => if i = j then (0 : Int) else (leftV n t i j : Int)
/-- What LeftTable answers. -/
def tableA (n : Int) (t : ByteArray) : List (List Int) := if acyOk n t = true then (List.range' 0 n.toNat).map (rowV n.toNat t) else []
theorem rowV_length (n : Nat) (t : ByteArray) (i : Nat) : (rowV n t i).length = n := by unfold rowV; rw [List.length_map, List.length_range']
theorem rowV_at (n : Nat) (t : ByteArray) (i j : Nat) (hj : j < (rowV n t i).length) : (rowV n t i)[j] = if i = j then (0 : Int) else (leftV n t i j : Int) := by
  simp [rowV]
theorem foldl_snoc {α β : Type} (f : α → β) (l : List α) : ∀ s : List β, l.foldl (fun s a => s ++ [f a]) s = s ++ l.map f := by
  induction l with
  | nil => intro s; simp
  | cons x l ih => intro s; rw [List.foldl_cons, ih, List.map_cons, List.append_assoc]; rfl
theorem take_succ_at (l : List Int) (x : Nat) (hx : x < l.length) : l.take (x + 1) = l.take x ++ [l[x]] := by
  rw [List.take_add_one, List.getElem?_eq_getElem hx]
  rfl
theorem impl_row {N : Nat} {t : ByteArray} (ha : areOk N t = true) (h7 : N ≤ 7) (s : List (List Int)) (i : Nat) (hi : i < N) (d : Nat) : ∀ x : Nat, x + d = N →
    Goes (.ok (rowV N t i)) (fun row k => if s.length < 5864062014805 then impl_LeftTable.l0 k (tblL N t) (s ++ [row]) ((i + 1 : Nat) : Int) (N : Int) t else none)
      (fun k => impl_LeftTable.l1 k (tblL N t) s (i : Int) ((rowV N t i).take x ++ List.replicate d 0) (N : Int) (x : Int) (N : Int) t) := by
  induction d with
  | zero =>
    intro x hx
    refine Goes.step ?_
    simp only [impl_LeftTable.l1]
    refine Goes.neg (by omega) ?_
    rw [wrap_id (x := (i : Int) + 1) (by omega) (by omega), List.replicate_zero, List.append_nil, List.take_of_length_le (by rw [rowV_length]; omega)]
    exact Goes.ok (K := fun row k => if s.length < 5864062014805 then impl_LeftTable.l0 k (tblL N t) (s ++ [row]) ((i + 1 : Nat) : Int) (N : Int) t else none) _
  | succ d ih =>
    intro x hx
    have hl : x < (rowV N t i).length := by rw [rowV_length]; omega
    have hlen : ((rowV N t i).take x ++ List.replicate (d + 1) 0).length = N := by
      rw [List.length_append, List.length_take, List.length_replicate, rowV_length]; omega
    have nxt := ih (x + 1) (by omega)
    rw [take_succ_at _ _ hl, rowV_at, List.append_assoc] at nxt
    refine Goes.step ?_
    simp only [impl_LeftTable.l1]
    rw [wrap_id (x := (x : Int) + 1) (by omega) (by omega)]
    refine Goes.pos (by omega) ?_
    by_cases g : i = x
    · rw [if_pos g] at nxt
      exact Goes.pos (by omega) nxt
    · rw [if_neg g] at nxt
      refine Goes.neg (by omega) (Goes.pos (tblL_length _ _) (Goes.ev (impl_left ha (by omega) (by omega)) (Goes.pos (by omega) (Goes.pos (by rw [hlen]; omega) ?_))))
      have e : ((rowV N t i).take x ++ List.replicate (d + 1) 0).set (x : Int).toNat (leftV N t i x : Int) = (rowV N t i).take x ++ ([(leftV N t i x : Int)] ++ List.replicate d 0) := by
        rw [Int.toNat_natCast, List.set_append_right _ _ (by rw [List.length_take]; omega), List.length_take, rowV_length, show x - min x N = 0 by omega, List.replicate_succ, List.set_cons_zero]
        rfl
      rw [e]
      exact nxt
theorem impl_table (n : Int) (t : ByteArray) (hs : t.size ≤ 9223372036854775807) : Ev (fun k => impl_LeftTable.f k n t) (tableA n t) := by
  unfold impl_LeftTable.f tableA
  refine Ev.bind (order_ev n t hs) ?_
  by_cases h : acyOk n t = true
  · rw [if_pos h, if_pos h]
    obtain ⟨N, rfl, ha, h3, h7⟩ := acy_are h
    simp only [Int.toNat_natCast]
    refine ev_pos (by first | rfl | trivial) ?_
    have key := loop_up' (σ := List (List Int)) (ρ := List (List Int)) (lo := 0) (n := N) (K := fun s _ => some s) (L := fun x s k => impl_LeftTable.l0 k (tblL N t) s x (N : Int) t) (fun x s => s.length ≤ x)
      (fun s x => .ok (s ++ [rowV N t x])) (fun s _ => ?_) (fun x _ hx s hl => ?_) (fun x _ hx s hl s' e => ?_) (by omega) [] (Nat.le_refl _)
    · rw [foldlM_ok, foldl_snoc, List.nil_append, Nat.sub_zero] at key
      exact key _ (Ev.now _)
    · refine Goes.step ?_
      simp only [impl_LeftTable.l0]
      exact Goes.neg (by omega) (Goes.ok (K := fun s _ => some s) s)
    · refine Goes.step ?_
      simp only [impl_LeftTable.l0, Int.toNat_natCast]
      refine Goes.pos (by omega) (Goes.pos (by omega) (Goes.pos (by omega) (Goes.call rfl ?_)))
      rw [List.length_replicate]
      have row := impl_row ha h7 s x hx N 0 (by omega)
      rw [List.take_zero, List.nil_append] at row
      exact fun r hr => row r (ev_pos (by omega) hr)
    · cases e
      rw [List.length_append, List.length_singleton]
      omega
  · rw [if_neg h, if_neg h]
    exact ev_neg (by decide) (Ev.now _)
theorem spec_table (n : Int) (t : ByteArray) (hs : t.size ≤ 9223372036854775807) : Ev (fun k => spec_LeftTable.f k n t) (tableA n t) := by
  unfold spec_LeftTable.f tableA
  have hA := spec_isA n t hs
  by_cases h : acyOk n t = true
  · rw [if_pos h]
    rw [h] at hA
    obtain ⟨N, rfl, ha, h3, h7⟩ := acy_are h
    simp only [Int.toNat_natCast]
    have key := loop_up' (σ := List (List Int)) (ρ := List (List Int)) (lo := 0) (n := N) (K := fun s _ => some s) (L := fun x s k => spec_LeftTable.l0 k s x (N : Int) t) (fun x s => s.length ≤ x)
      (fun s x => .ok (s ++ [rowV N t x])) (fun s _ => ?_) (fun x _ hx s hl => ?_) (fun x _ hx s hl s' e => ?_) (by omega) [] (Nat.le_refl _)
    · rw [foldlM_ok, foldl_snoc, List.nil_append, Nat.sub_zero] at key
      exact key _ (Ev.now _)
    · refine Goes.step ?_
      simp only [spec_LeftTable.l0]
      refine Goes.neg (by omega) (Goes.step ?_)
      simp only [spec_LeftTable.j1]
      exact Goes.neg (by decide) (Goes.ok (K := fun s _ => some s) s)
    · refine Goes.step ?_
      simp only [spec_LeftTable.l0]
      refine Goes.pos (by omega) (Goes.ev hA (Goes.step ?_))
      simp only [spec_LeftTable.j1]
      refine Goes.pos (by first | rfl | trivial) ?_
      have row := loop_up' (σ := List Int) (ρ := List (List Int)) (lo := 0) (n := N) (K := fun (row : List Int) k => if s.length < 5864062014805 then spec_LeftTable.l0 k (s ++ [row]) ((x + 1 : Nat) : Int) (N : Int) t else none) (L := fun y row k => spec_LeftTable.l1 k s (x : Int) row y (N : Int) t) (fun y row => row.length ≤ y)
        (fun row y => .ok (row ++ [if x = y then (0 : Int) else (leftV N t x y : Int)])) (fun row _ => ?_) (fun y _ hy row hr => ?_) (fun y _ hy row hr row' e => ?_) (by omega) [] (Nat.le_refl _)
      · rw [foldlM_ok, foldl_snoc, List.nil_append, Nat.sub_zero] at row
        exact fun r hr => row r (ev_pos (by omega) hr)
      · refine Goes.step ?_
        simp only [spec_LeftTable.l1]
        rw [wrap_id (x := (x : Int) + 1) (by omega) (by omega)]
        exact Goes.neg (by omega) (Goes.ok (K := fun (row : List Int) k => if s.length < 5864062014805 then spec_LeftTable.l0 k (s ++ [row]) ((x + 1 : Nat) : Int) (N : Int) t else none) row)
      · refine Goes.step ?_
        simp only [spec_LeftTable.l1]
        rw [wrap_id (x := (y : Int) + 1) (by omega) (by omega)]
        refine Goes.pos (by omega) ?_
        by_cases g : x = y
        · rw [if_pos g]
          exact Goes.pos (by omega) (Goes.pos (by omega) (Goes.ok (K := fun row k => spec_LeftTable.l1 k s (x : Int) row ((y + 1 : Nat) : Int) (N : Int) t) _))
        · rw [if_neg g]
          exact Goes.neg (by omega) (Goes.ev (spec_left ha (by omega) (by omega) g) (Goes.pos (by omega) (Goes.ok (K := fun row k => spec_LeftTable.l1 k s (x : Int) row ((y + 1 : Nat) : Int) (N : Int) t) _)))
      · cases e
        rw [List.length_append, List.length_singleton]
        omega
    · cases e
      rw [List.length_append, List.length_singleton]
      omega
  · rw [if_neg h]
    rw [Bool.eq_false_iff.2 h] at hA
    refine ev_step ?_
    simp only [spec_LeftTable.l0]
    by_cases g : 0 < n
    · refine ev_pos g (Ev.bind hA (ev_step ?_))
      simp only [spec_LeftTable.j1]
      exact ev_neg (by decide) (Ev.now _)
    · refine ev_neg g (ev_step ?_)
      simp only [spec_LeftTable.j1]
      exact ev_neg (by decide) (Ev.now _)
end Go.Proofs.Ytbjncemaeagjjaa.M
namespace Go.Proofs.Ytbjncemaeagjjaa.M
open Go.RowKit Go.Proofs.YtbjncemaeagjjaaW.PrintWords Go.Proofs.Ytbjncemaeagjjaa.PX Go.Proofs.Ytbjncemaeagjjaa.G Go.Proofs.YtbjncemaeagjjaaW.PrintMore
def rowG (n : Nat) (t : ByteArray) (i : Nat) (s : List Int) (j : Nat) : List Int := if i = j then s else s.set (leftV n t i j) (wrap64 (rd s (leftV n t i j : Int) + 1))
def rowF (n : Nat) (t : ByteArray) (s : List Int) (i : Nat) : List Int := (List.range' 0 (n - 0)).foldl (rowG n t i) s
/-- What LeftRow answers. -/
def rowA (n : Int) (t : ByteArray) : List Int := if acyOk n t = true then (List.range' 0 (n.toNat - 0)).foldl (rowF n.toNat t) (List.replicate (n.toNat - 1) 0) else []
theorem rowG_length (n : Nat) (t : ByteArray) (i : Nat) (s : List Int) (j : Nat) : (rowG n t i s j).length = s.length := by
  unfold rowG
  split
  · rfl
  · rw [List.length_set]
theorem foldl_length {α : Type} (g : List Int → α → List Int) (hg : ∀ s a, (g s a).length = s.length) (l : List α) : ∀ s, (l.foldl g s).length = s.length := by
  induction l with
  | nil => intro s; rfl
  | cons x l ih => intro s; rw [List.foldl_cons, ih, hg]
theorem rowF_length (n : Nat) (t : ByteArray) (s : List Int) (i : Nat) : (rowF n t s i).length = s.length := foldl_length _ (rowG_length n t i) _ s
theorem rowA_length (n : Int) (t : ByteArray) : (rowA n t).length ≤ 7 := by
  unfold rowA
  by_cases h : acyOk n t = true
  · rw [if_pos h]
    obtain ⟨N, rfl, ha, h3, h7⟩ := acy_are h
    rw [foldl_length _ (fun s a => rowF_length _ t s a), List.length_replicate]
    omega
  · rw [if_neg h]
    exact Nat.zero_le _
theorem impl_rowA (n : Int) (t : ByteArray) (hs : t.size ≤ 9223372036854775807) : Ev (fun k => impl_LeftRow.f k n t) (rowA n t) := by
  unfold impl_LeftRow.f rowA
  refine Ev.bind (impl_isA n t hs) ?_
  by_cases h : acyOk n t = true
  · have hT := impl_table n t hs
    unfold tableA at hT
    rw [if_pos h] at hT
    rw [if_pos h]
    obtain ⟨N, rfl, ha, h3, h7⟩ := acy_are h
    simp only [Int.toNat_natCast] at hT ⊢
    rw [wrap_id (x := (N : Int) - 1) (by omega) (by omega)]
    refine ev_pos h (ev_pos (by omega) (ev_pos (by omega) (Ev.bind hT ?_)))
    generalize hV : (List.range' 0 N).map (rowV N t) = T
    have hl : T.length = N := by rw [← hV, List.length_map, List.length_range']
    have hr : ∀ i : Nat, i < N → rd_L4 T (i : Int) = rowV N t i := by
      intro i hi
      rw [← hV]
      unfold rd_L4
      rw [Int.toNat_natCast, List.getD_eq_getElem?_getD, List.getElem?_map, List.getElem?_range' (by omega)]
      show rowV N t (0 + 1 * i) = _
      rw [show 0 + 1 * i = i by omega]
    rw [hl, show ((N : Int) - 1).toNat = N - 1 by omega]
    have key := loop_up' (σ := List Int) (ρ := List Int) (lo := 0) (n := N) (K := fun s _ => some s) (L := fun x s k => impl_LeftRow.l0 k s T (N : Int) x) (fun x s => s.length = N - 1)
      (fun s x => .ok (rowF N t s x)) (fun s _ => ?_) (fun i _ hi s hs' => ?_) (fun x _ hx s hs' s' e => ?_) (by omega) (List.replicate (N - 1) 0) (List.length_replicate ..)
    · rw [foldlM_ok] at key
      exact key _ (Ev.now _)
    · refine Goes.step ?_
      simp only [impl_LeftRow.l0]
      exact Goes.neg (by omega) (Goes.ok (K := fun s _ => some s) s)
    · refine Goes.step ?_
      simp only [impl_LeftRow.l0]
      refine Goes.pos (by omega) (Goes.pos (by omega) (Goes.pos (by omega) ?_))
      rw [hr i hi, rowV_length]
      have row := loop_up' (σ := List Int) (ρ := List Int) (lo := 0) (n := N) (K := fun s k => impl_LeftRow.l0 k s T (N : Int) ((i + 1 : Nat) : Int)) (L := fun y s k => impl_LeftRow.l1 k s (i : Int) T (N : Int) (i : Int) (rowV N t i) (N : Int) y) (fun y s => s.length = N - 1)
        (fun s y => .ok (rowG N t i s y)) (fun s _ => ?_) (fun j _ hj s hr' => ?_) (fun y _ hy s hr' s' e => ?_) (by omega) s hs'
      · rw [foldlM_ok] at row
        exact row
      · refine Goes.step ?_
        simp only [impl_LeftRow.l1]
        rw [wrap_id (x := (i : Int) + 1) (by omega) (by omega)]
        exact Goes.neg (by omega) (Goes.ok (K := fun s k => impl_LeftRow.l0 k s T (N : Int) ((i + 1 : Nat) : Int)) s)
      · have hd : rd (rowV N t i) (j : Int) = if i = j then (0 : Int) else (leftV N t i j : Int) := by
          unfold rd
          rw [Int.toNat_natCast, List.getD_eq_getElem?_getD, List.getElem?_eq_getElem (by rw [rowV_length]; exact hj), Option.getD_some, rowV_at]
        refine Goes.step ?_
        simp only [impl_LeftRow.l1]
        rw [hd, wrap_id (x := (j : Int) + 1) (by omega) (by omega)]
        refine Goes.pos (by omega) (Goes.pos (by omega) (Goes.pos (by rw [rowV_length]; omega) ?_))
        unfold rowG
        by_cases g : i = j
        · rw [if_pos g]
          exact Goes.pos (by omega) (Goes.ok (K := fun s k => impl_LeftRow.l1 k s (i : Int) T (N : Int) (i : Int) (rowV N t i) (N : Int) ((j + 1 : Nat) : Int)) s)
        · rw [if_neg g, if_neg g]
          have sm := leftV_sum t h3 h7 hi hj g
          exact Goes.neg (by omega) (Goes.pos (by omega) (Goes.pos (by omega) (Goes.ok (K := fun s k => impl_LeftRow.l1 k s (i : Int) T (N : Int) (i : Int) (rowV N t i) (N : Int) ((j + 1 : Nat) : Int)) _)))
      · cases e
        rw [rowG_length]
        exact hr'
    · cases e
      rw [rowF_length]
      exact hs'
  · rw [if_neg h]
    exact ev_neg h (Ev.now _)
theorem spec_rowA (n : Int) (t : ByteArray) (hs : t.size ≤ 9223372036854775807) : Ev (fun k => spec_LeftRow.f k n t) (rowA n t) := by
  unfold spec_LeftRow.f rowA
  refine Ev.bind (spec_isA n t hs) ?_
  by_cases h : acyOk n t = true
  · rw [if_pos h]
    obtain ⟨N, rfl, ha, h3, h7⟩ := acy_are h
    simp only [Int.toNat_natCast]
    rw [wrap_id (x := (N : Int) - 1) (by omega) (by omega)]
    refine ev_pos h (ev_pos (by omega) (ev_pos (by omega) ?_))
    rw [show ((N : Int) - 1).toNat = N - 1 by omega]
    have key := loop_up' (σ := List Int) (ρ := List Int) (lo := 0) (n := N) (K := fun s _ => some s) (L := fun x s k => spec_LeftRow.l0 k s x (N : Int) t) (fun x s => s.length = N - 1)
      (fun s x => .ok (rowF N t s x)) (fun s _ => ?_) (fun i _ hi s hs' => ?_) (fun x _ hx s hs' s' e => ?_) (by omega) (List.replicate (N - 1) 0) (List.length_replicate ..)
    · rw [foldlM_ok] at key
      exact key _ (Ev.now _)
    · refine Goes.step ?_
      simp only [spec_LeftRow.l0]
      exact Goes.neg (by omega) (Goes.ok (K := fun s _ => some s) s)
    · refine Goes.step ?_
      simp only [spec_LeftRow.l0]
      refine Goes.pos (by omega) ?_
      have row := loop_up' (σ := List Int) (ρ := List Int) (lo := 0) (n := N) (K := fun s k => spec_LeftRow.l0 k s ((i + 1 : Nat) : Int) (N : Int) t) (L := fun y s k => spec_LeftRow.l1 k s (i : Int) y (N : Int) t) (fun y s => s.length = N - 1)
        (fun s y => .ok (rowG N t i s y)) (fun s _ => ?_) (fun j _ hj s hr' => ?_) (fun y _ hy s hr' s' e => ?_) (by omega) s hs'
      · rw [foldlM_ok] at row
        exact row
      · refine Goes.step ?_
        simp only [spec_LeftRow.l1]
        rw [wrap_id (x := (i : Int) + 1) (by omega) (by omega)]
        exact Goes.neg (by omega) (Goes.ok (K := fun s k => spec_LeftRow.l0 k s ((i + 1 : Nat) : Int) (N : Int) t) s)
      · refine Goes.step ?_
        simp only [spec_LeftRow.l1]
        rw [wrap_id (x := (j : Int) + 1) (by omega) (by omega)]
        refine Goes.pos (by omega) ?_
        unfold rowG
        by_cases g : i = j
        · rw [if_pos g]
          exact Goes.pos (by omega) (Goes.ok (K := fun s k => spec_LeftRow.l1 k s (i : Int) ((j + 1 : Nat) : Int) (N : Int) t) s)
        · rw [if_neg g]
          have sm := leftV_sum t h3 h7 hi hj g
          exact Goes.neg (by omega) (Goes.ev (spec_left ha hi hj g) (Goes.pos (by omega) (Goes.pos (by omega) (Goes.ok (K := fun s k => spec_LeftRow.l1 k s (i : Int) ((j + 1 : Nat) : Int) (N : Int) t) _))))
      · cases e
        rw [rowG_length]
        exact hr'
    · cases e
      rw [rowF_length]
      exact hs'
  · rw [if_neg h]
    exact ev_neg h (Ev.now _)
end Go.Proofs.Ytbjncemaeagjjaa.M
namespace Go.Proofs.Ytbjncemaeagjjaa.Pure
open Go.RowKit Go.Proofs.YtbjncemaeagjjaaW.PrintWords Go.Proofs.Ytbjncemaeagjjaa.PX Go.Proofs.Ytbjncemaeagjjaa.M
theorem FnExactLeftRow (n : Int) (t : ByteArray) (_ : (Lit.int .i64 n).wf = true) (hs : t.size ≤ 9223372036854775807) :
    ∃ k, laws_FnExactLeftRow.f k n t = some true := by
  refine Ev.rounds (r := true) ?_
  unfold laws_FnExactLeftRow.f
  obtain ⟨r, hr⟩ := sz_signs n t
  refine ev_call hr ?_
  by_cases h : r < 0
  · exact ev_pos h (Ev.now _)
  have hl := rowA_length n t
  have hsp := spec_rowA n t hs
  have him := impl_rowA n t hs
  generalize rowA n t = V at hl hsp him
  refine ev_neg h (ev_call (a := (n, t)) rfl (Ev.bind hsp (ev_call (a := (n, t)) rfl (Ev.bind him (Ev.bind (eqIntS_self _ (by omega)) (ev_pos rfl ?_))))))
  refine Ev.bind (mark_ev _ (by omega)) (Ev.bind (held_ev _ (by omega)) (ev_neg (by omega) (ev_pos rfl ?_)))
  refine ev_call (a := (n, t)) rfl (Ev.bind him (Ev.bind (eqIntS_self _ (by omega)) (ev_pos rfl ?_)))
  exact Ev.bind (held_ev _ (by omega)) (ev_neg (by omega) (ev_pos rfl (Ev.now _)))
end Go.Proofs.Ytbjncemaeagjjaa.Pure
namespace Go.Proofs.Ytbjncemaeagjjaa.fnExactLeftRow
open Go.ChangeShapes Go.WideShapes Go.ChangeAt Go.RowKit Go.Joins
open Go.ChangeMaps (open_string shut_string)
set_option linter.unusedVariables false
theorem own : ownKnob Try.prog.godebug = none := by kernel_rfl
theorem str_mk {H : Type} {enc : TypeId × Value → H} {P : Program} {w : World} {base : Nat} {spare : Nat → Bool} {held : Bool} {t : TypeId} {s : ByteArray} (ht : P.underlying t = some .string) (hs : s.size ≤ maxLen) : DataW.trod enc P w base spare held 1 t [.string s] = some (.lit (.string s.data.toList), []) := by
  simp [DataW.trod, ht, hs]
set_option maxRecDepth 100000 in
theorem lifted (os : Os) (started : os.Started) (H : Type) (enc : TypeId × Value → H) :
    ReturnsInHanded {} Try.checked os 5 .any (Rows.fnExactLeftRowSpec.pre6 enc Try.prog Try.f5 Rows.fnExactLeftRowRow.domain false) (Rows.fnExactLeftRowSpec.post enc Try.prog Try.f5 false true false false) := by
  refine returnsInHanded_of_change_sized (C := Try.checked) own started (by kernel_rfl) Try.func5
    (ChangeSpec.witness6 (enc := enc) (C := Try.checked) false ⟨#[], #[.agg #[.int .i64 0, .string ByteArray.empty]], []⟩ 8 (by kernel_rfl) (by kernel_rfl) (by kernel_rfl) (by kernel_rfl)) ?_
  intro W base args ds gs before hval0 hW hcnd hsz0 _
  have hsz : (DataW.weightsEach Try.prog (Try.f5.params.toList ++ Rows.fnExactLeftRowSpec.plain.varTypes Try.prog) (ds ++ gs)).all (· ≤ reachBytes) = true := hsz0
  have hval : ∀ (j : Nat) t v, Try.f5.params[j]? = some t → args[j]? = some v → Value.okWide Try.prog W .any base t v := hval0
  have hW' := hW
  obtain ⟨p, q, hA0, hV, rfl, hfz, hnd⟩ := hW
  have hA : DataW.TrodAll enc Try.prog W 0 (fun _ => true) true Try.f5.params.toList args.toList ds p := hA0
  rw [Try.params5] at hA hval hsz
  obtain ⟨v0, vs0, d0, ds0, p0, q0, hargs, rfl, rfl, h0, r0⟩ := trodAll_cons hA
  obtain ⟨rfl, rfl, rfl⟩ := trodAll_nil r0
  obtain rfl : args = #[v0] := by cases args; simp_all
  obtain ⟨rfl, rfl⟩ := trodVars_none hV
  obtain ⟨c0_0, c0_1, y0_0, y0_1, m0, rfl, rfl, rfl, hy0_0, hy0_1⟩ := open_agg2 Try.underlying23 (by kernel_rfl) (by kernel_rfl) (hval 0 23 v0 rfl rfl) h0
  obtain ⟨a0_0, e0_0, rfl, wa0⟩ := DataW.trod_int Try.underlying3 hy0_0
  obtain ⟨a0_1, e0_1, rfl, ws0⟩ := DataW.trod_string Try.underlying9 hy0_1
  simp only [List.cons.injEq, and_true] at e0_0 e0_1
  subst e0_0 e0_1
  clear hA0 hval0 hsz0 hsz
  obtain ⟨k, hP⟩ := Pure.FnExactLeftRow a0_0 a0_1 wa0 ws0
  refine (PX.laws_FnExactLeftRow.calls k a0_0 a0_1 true W hP rfl).mono fun e W' ⟨he, bel⟩ => ?_
  subst he
  exact ⟨_, rfl, _, _, _, [], _, [], hW', trodAll_mk1 (shut_bool Try.underlying4 _), (trodAll_cons_mk (shut_agg2 Try.underlying23 (by kernel_rfl) (by kernel_rfl) ⟨_, trod_int_mk 0 Try.underlying3 wa0⟩ ⟨_, str_mk Try.underlying9 ws0⟩) trodAll_mk0), rfl, bel.frame _, fun h => by cases h⟩
theorem over : Rows.fnExactLeftRowRow.holds Try.pinned (OpenSpec.ofChange Rows.fnExactLeftRowSpec) :=
  OpenClaim.holds_of_wide 5 Try.f5 rfl rfl rfl rfl rfl rfl rfl ⟨rfl, rfl, rfl, rfl, rfl⟩ rfl rfl rfl rfl rfl (by kernel_rfl) Try.func5 (by kernel_rfl)
    (of_decide_eq_true (by kernel_rfl)) (by unfold Func.isWrapper; first | (rw [if_pos (by decide +kernel)]; kernel_rfl) | (rw [if_neg (by decide +kernel)]; exact ⟨rfl, rfl⟩))
    (fun os started H enc _ => lifted os started H enc)
theorem proved : Rows.FnExactLeftRowSaid := over
#print axioms proved
end Go.Proofs.Ytbjncemaeagjjaa.fnExactLeftRow
namespace Go.Proofs.Ytbjncemaeagjjaa
/-- The row, under a short name, for the claim. -/
theorem fnExactLeftRow_holds : Rows.FnExactLeftRowSaid := fnExactLeftRow.proved
end Go.Proofs.Ytbjncemaeagjjaa
