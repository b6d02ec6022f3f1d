/- FnExactHullOf returns true for all arguments and leaves them as they were. No condition. -/
import Derived.Test.YtbjncemaeagjjaaProg
import Derived.Test.YtbjncemaeagjjaaRows
import Derived.WalkKit
import Derived.ProofKit
import Derived.OpenShut
import Derived.ShutString
import Derived.ChangeOld
import Derived.Below
import Derived.SizedLaws
import Derived.Lib.SmallJoins
import Derived.ChangeSame
import Derived.Test.YtbjncemaeagjjaaV1
import Derived.Test.YtbjncemaeagjjaaBtdqkke1
import Derived.Test.YtbjncemaeagjjaaBtdqkke2
import Derived.Test.YtbjncemaeagjjaaBtdqkke3
import Derived.Test.YtbjncemaeagjjaaBtdqkke4
set_option linter.unusedVariables false
set_option linter.unusedSimpArgs false
namespace Go.Proofs.Ytbjncemaeagjjaa.PX
open Go.RowKit Go.Proofs.Ytbjncemaeagjjaa.G Go.Proofs.YtbjncemaeagjjaaW.PrintWords Go.Proofs.YtbjncemaeagjjaaW.PrintLast Go.Proofs.YtbjncemaeagjjaaW.PrintMore
attribute [local go_sem] max2_int min2_int max_two min_two max_three min_three max_four min_four   -- for this text's walks alone
set_option linter.unusedVariables false
set_option linter.unusedSimpArgs false
/-! ### spec_l6Left: function 52 -/
def spec_l6Left.l0 : Nat → Int → Int → Int → Int → Int → ByteArray → Option (Bool)
 | 0, _, _, _, _, _, _ => none
 | k + 1, x1, x2, x3, x9, x537000, x537001 => if x9 < x537000 then (if x9 = x2 then (spec_l6Left.l0 k x1 x2 x3 (wrap64 (x9 + 1)) x537000 x537001) else (if x9 = x3 then (spec_l6Left.l0 k x1 x2 x3 (wrap64 (x9 + 1)) x537000 x537001) else ((spec_l6Has.f x1 x9).bind fun t537 => (if t537 = true then ((spec_l3At.f k x537000 x537001 x2 x3 x9).bind fun t538 => (if t538 < 0 then (some false) else (spec_l6Left.l0 k x1 x2 x3 (wrap64 (x9 + 1)) x537000 x537001))) else (spec_l6Left.l0 k x1 x2 x3 (wrap64 (x9 + 1)) x537000 x537001))))) else (some true)
def spec_l6Left.f (k : Nat) (a0_0 : Int) (a0_1 : ByteArray) (a1 : Int) (a2 : Int) (a3 : Int) : Option (Bool) := spec_l6Left.l0 k a1 a2 a3 0 a0_0 a0_1
theorem spec_l6Left.mono_l : ∀ k, (∀ y0 y1 y2 y3 y4 y5, LeO (spec_l6Left.l0 k y0 y1 y2 y3 y4 y5) (spec_l6Left.l0 (k + 1) y0 y1 y2 y3 y4 y5))
 | 0 => fun _ _ _ _ _ _ r h => by simp [spec_l6Left.l0] at h
 | k + 1 => by
  have ih0 := spec_l6Left.mono_l k
  ·intro y0 y1 y2 y3 y4 y5
   unfold spec_l6Left.l0
   repeat' first
   | (with_reducible exact ih0 _ _ _ _ _ _)
   | (with_reducible exact spec_l3At.mono _ _ _ _ _ _)
   | (with_reducible exact LeO.refl _)
   | (with_reducible exact LeO.none _)
   | (with_reducible refine LeO.ite ?_ ?_)
   | (with_reducible refine LeO.bind ?_ (fun _ => ?_))
   | exact ih0 _ _ _ _ _ _
   | exact spec_l3At.mono _ _ _ _ _ _
   | exact LeO.none _
   | refine LeO.ite ?_ ?_
   | refine LeO.bind ?_ (fun _ => ?_)
theorem spec_l6Left.mono : ∀ a0 a1 a2 a3 a4 k, LeO (spec_l6Left.f k a0 a1 a2 a3 a4) (spec_l6Left.f (k + 1) a0 a1 a2 a3 a4) := by
 intro a0 a1 a2 a3 a4 k
 have ih0 := spec_l6Left.mono_l k
 unfold spec_l6Left.f
 repeat' first
   | (with_reducible exact ih0 _ _ _ _ _ _)
   | (with_reducible exact spec_l3At.mono _ _ _ _ _ _)
   | (with_reducible exact LeO.refl _)
   | (with_reducible exact LeO.none _)
   | (with_reducible refine LeO.ite ?_ ?_)
   | (with_reducible refine LeO.bind ?_ (fun _ => ?_))
   | exact ih0 _ _ _ _ _ _
   | exact spec_l3At.mono _ _ _ _ _ _
   | exact LeO.none _
   | refine LeO.ite ?_ ?_
   | refine LeO.bind ?_ (fun _ => ?_)
set_option maxHeartbeats 8000000 in
set_option maxRecDepth 100000 in
theorem spec_l6Left.calls (k : Nat) (a0_0 : Int) (a0_1 : ByteArray) (a1 : Int) (a2 : Int) (a3 : Int) (r : Bool) (w : World) (h : spec_l6Left.f k a0_0 a0_1 a1 a2 a3 = some r) :
  Calls Try.prog 52 #[.agg #[.int .i64 a0_0, .string a0_1], .int .i64 a1, .int .i64 a2, .int .i64 a3] w fun e w' => e = .returned (.bool r) ∧ Below w.heap.size w w' := by
 have hu26 := Try.underlying26
 have HB := Aside0.mk (Below.refl w.heap.size w)
 have H : (spec_l6Left.l0 k a1 a2 a3 0 a0_0 a0_1) = some r := h
 clear h
 have H' := Aside0.mk H
 clear H
 go_enter Try.func52, Try.ntmps52
 go_wp2_with (first | ((with_reducible refine gate_dst (N := 4) rfl ?_); refine box_event ?hg (N := 4) ?hd (cs := #[.int .i64 a0_0, .string a0_1]) (t := 26) ?hr ?_; (case hd => rfl); (case hg => rfl); (case hr => first | (go_simp; done) | (go_simp; rfl)); intro gb536 hg w5 hbox hb; have BK536 := Aside0.mk (hbox); have GW536 := Aside0.mk ((by rw [hg]; exact (below_size zB) : w.heap.size ≤ gb536)); have GE536 := Aside0.mk ((by rw [hg]; exact (below_size zB) : w.heap.size ≤ gb536)); replace HB := Aside0.mk (below_step zB hb); clear hb hbox hg))
 go_loopg [9] k (fun kq v9 w' => ∃ (x9_1 : Int), v9 = .int .i64 x9_1 ∧ Aside0 (spec_l6Left.l0 kq a1 a2 a3 x9_1 a0_0 a0_1 = some r) ∧ Aside0 (kq ≤ k) ∧ Aside0 (w'.heap[gb536]? = some (.cells #[.int .i64 a0_0, .string a0_1] 26 (0, 0))) ∧ Aside0 (Below w.heap.size w w'))
 case atStart => exact ⟨(0), zF, H', ⟨Nat.le_refl _⟩, ⟨zK BK536.out⟩, ⟨zG GE536.out⟩⟩
 case round =>
  clear H'
  try clear p2
  try clear c5
  obtain ⟨x9_1, rfl, HA, HK1, BK536, HB⟩ := hrel
  cases gk with
  | zero => exact absurd HA.out (by simp [spec_l6Left.l0])
  | succ k1 =>
   have H := HA.out
   clear HA
   simp only [spec_l6Left.l0] at H
   by_cases c6 : x9_1 < a0_0
   ·rw [if_pos c6] at H
    have c6b0 : decide (x9_1 < a0_0) = true := decide_eq_true c6
    clear c6
    by_cases c7 : x9_1 = a2
    ·rw [if_pos c7] at H
     have c7b0 : (x9_1 == a2) = true := beq_iff_eq.mpr c7
     have c7b1 : (x9_1 != a2) = false := bne_eq_false_iff_eq.mpr c7
     clear c7
     have H' := Aside0.mk H
     clear H
     have hcz8_0 : wr.cell? ⟨gb536, 0, none⟩ = some (.int .i64 a0_0) := (blk_cell BK536.out 0).trans rfl
     have hcz8_1 : wr.cell? ⟨gb536, 1, none⟩ = some (.string a0_1) := (blk_cell BK536.out 1).trans rfl
     have hfz8_0 := blk_frozen BK536.out 0
     have hfz8_1 := blk_frozen BK536.out 1
     go_wp2
     go_roundg k1
     case measure => have := HK1.out; omega
     case rel => exact ⟨(wrap64 (x9_1 + 1)), zF, H', ⟨by have := HK1.out; omega⟩, ⟨zK BK536.out⟩, ⟨zG GE536.out⟩⟩
    ·rw [if_neg c7] at H
     have c7b0 : (x9_1 == a2) = false := beq_eq_false_iff_ne.mpr c7
     have c7b1 : (x9_1 != a2) = true := bne_iff_ne.mpr c7
     by_cases c9 : x9_1 = a3
     ·rw [if_pos c9] at H
      have c9b0 : (x9_1 == a3) = true := beq_iff_eq.mpr c9
      have c9b1 : (x9_1 != a3) = false := bne_eq_false_iff_eq.mpr c9
      clear c9
      have H' := Aside0.mk H
      clear H
      have hcz10_0 : wr.cell? ⟨gb536, 0, none⟩ = some (.int .i64 a0_0) := (blk_cell BK536.out 0).trans rfl
      have hcz10_1 : wr.cell? ⟨gb536, 1, none⟩ = some (.string a0_1) := (blk_cell BK536.out 1).trans rfl
      have hfz10_0 := blk_frozen BK536.out 0
      have hfz10_1 := blk_frozen BK536.out 1
      go_wp2
      go_roundg k1
      case measure => have := HK1.out; omega
      case rel => exact ⟨(wrap64 (x9_1 + 1)), zF, H', ⟨by have := HK1.out; omega⟩, ⟨zK BK536.out⟩, ⟨zG GE536.out⟩⟩
     ·rw [if_neg c9] at H
      have c9b0 : (x9_1 == a3) = false := beq_eq_false_iff_ne.mpr c9
      have c9b1 : (x9_1 != a3) = true := bne_iff_ne.mpr c9
      replace H := Option.bind_eq_some_iff.mp H
      obtain ⟨t537, A110, H⟩ := H
      replace H : (if t537 = true then ((spec_l3At.f k1 a0_0 a0_1 a2 a3 x9_1).bind fun t538 => (if t538 < 0 then (some false) else (spec_l6Left.l0 k1 a1 a2 a3 (wrap64 (x9_1 + 1)) a0_0 a0_1))) else (spec_l6Left.l0 k1 a1 a2 a3 (wrap64 (x9_1 + 1)) a0_0 a0_1)) = some r := H
      have A11 := Aside0.mk A110
      clear A110
      by_cases c12 : t537 = true
      ·subst c12
       have H1 : ((spec_l3At.f k1 a0_0 a0_1 a2 a3 x9_1).bind fun t538 => (if t538 < 0 then (some false) else (spec_l6Left.l0 k1 a1 a2 a3 (wrap64 (x9_1 + 1)) a0_0 a0_1))) = some r := by rw [if_pos rfl] at H; exact H
       clear H
       have H := H1
       clear H1
       replace H := Option.bind_eq_some_iff.mp H
       obtain ⟨t538, A130, H⟩ := H
       replace H : (if t538 < 0 then (some false) else (spec_l6Left.l0 k1 a1 a2 a3 (wrap64 (x9_1 + 1)) a0_0 a0_1)) = some r := H
       have A13 := Aside0.mk A130
       clear A130
       by_cases c14 : t538 < 0
       ·rw [if_pos c14] at H
        have c14b0 : decide (t538 < 0) = true := decide_eq_true c14
        clear c14
        obtain rfl := Option.some.inj H
        have hcz15_0 : wr.cell? ⟨gb536, 0, none⟩ = some (.int .i64 a0_0) := (blk_cell BK536.out 0).trans rfl
        have hcz15_1 : wr.cell? ⟨gb536, 1, none⟩ = some (.string a0_1) := (blk_cell BK536.out 1).trans rfl
        have hfz15_0 := blk_frozen BK536.out 0
        have hfz15_1 := blk_frozen BK536.out 1
        go_wp2_with (first | (go_at_call 51; (with_reducible refine (spec_l6Has.calls a1 x9_1 true _ A11.out).mono ?_); rintro e w' ⟨rfl, ⟨nd, rfl⟩⟩) | (go_at_call 63; (with_reducible refine (spec_l3At.calls k1 a0_0 a0_1 a2 a3 x9_1 t538 _ A13.out).mono ?_); rintro e w16 ⟨rfl, hb⟩; replace BK536 := Aside0.mk (blk_below (g := gb536) (o := .cells #[.int .i64 a0_0, .string a0_1] 26 (0, 0)) (zK BK536.out) hb); replace HB := Aside0.mk (below_step (zG GE536.out) hb); (try clear hb); (try clear hb2); (try clear hk); (try clear hi)))
        go_ret
        exact ⟨zE, zG GE536.out⟩
       ·rw [if_neg c14] at H
        have c14b0 : decide (t538 < 0) = false := decide_eq_false c14
        clear c14
        have H' := Aside0.mk H
        clear H
        have hcz17_0 : wr.cell? ⟨gb536, 0, none⟩ = some (.int .i64 a0_0) := (blk_cell BK536.out 0).trans rfl
        have hcz17_1 : wr.cell? ⟨gb536, 1, none⟩ = some (.string a0_1) := (blk_cell BK536.out 1).trans rfl
        have hfz17_0 := blk_frozen BK536.out 0
        have hfz17_1 := blk_frozen BK536.out 1
        go_wp2_with (first | (go_at_call 51; (with_reducible refine (spec_l6Has.calls a1 x9_1 true _ A11.out).mono ?_); rintro e w' ⟨rfl, ⟨nd, rfl⟩⟩) | (go_at_call 63; (with_reducible refine (spec_l3At.calls k1 a0_0 a0_1 a2 a3 x9_1 t538 _ A13.out).mono ?_); rintro e w18 ⟨rfl, hb⟩; replace BK536 := Aside0.mk (blk_below (g := gb536) (o := .cells #[.int .i64 a0_0, .string a0_1] 26 (0, 0)) (zK BK536.out) hb); replace HB := Aside0.mk (below_step (zG GE536.out) hb); (try clear hb); (try clear hb2); (try clear hk); (try clear hi)))
        go_roundg k1
        case measure => have := HK1.out; omega
        case rel => exact ⟨(wrap64 (x9_1 + 1)), zF, H', ⟨by have := HK1.out; omega⟩, ⟨zK BK536.out⟩, ⟨zG GE536.out⟩⟩
      ·replace c12 := Bool.eq_false_iff.mpr c12
       subst c12
       have H1 : (spec_l6Left.l0 k1 a1 a2 a3 (wrap64 (x9_1 + 1)) a0_0 a0_1) = some r := by rw [if_neg (show ¬ (false = true) by decide)] at H; exact H
       clear H
       have H := H1
       clear H1
       have H' := Aside0.mk H
       clear H
       have hcz19_0 : wr.cell? ⟨gb536, 0, none⟩ = some (.int .i64 a0_0) := (blk_cell BK536.out 0).trans rfl
       have hcz19_1 : wr.cell? ⟨gb536, 1, none⟩ = some (.string a0_1) := (blk_cell BK536.out 1).trans rfl
       have hfz19_0 := blk_frozen BK536.out 0
       have hfz19_1 := blk_frozen BK536.out 1
       go_wp2_with (first | (go_at_call 51; (with_reducible refine (spec_l6Has.calls a1 x9_1 false _ A11.out).mono ?_); rintro e w' ⟨rfl, ⟨nd, rfl⟩⟩))
       go_roundg k1
       case measure => have := HK1.out; omega
       case rel => exact ⟨(wrap64 (x9_1 + 1)), zF, H', ⟨by have := HK1.out; omega⟩, ⟨zK BK536.out⟩, ⟨zG GE536.out⟩⟩
   ·rw [if_neg c6] at H
    have c6b0 : decide (x9_1 < a0_0) = false := decide_eq_false c6
    clear c6
    obtain rfl := Option.some.inj H
    have hcz20_0 : wr.cell? ⟨gb536, 0, none⟩ = some (.int .i64 a0_0) := (blk_cell BK536.out 0).trans rfl
    have hcz20_1 : wr.cell? ⟨gb536, 1, none⟩ = some (.string a0_1) := (blk_cell BK536.out 1).trans rfl
    have hfz20_0 := blk_frozen BK536.out 0
    have hfz20_1 := blk_frozen BK536.out 1
    go_wp2
    go_ret
    exact ⟨zE, zG GE536.out⟩
/-! ### spec_HullOf: function 32 -/
mutual
def spec_HullOf.l0 : Nat → List Int → Int → Int → Int → Int → ByteArray → Option (List Int)
 | 0, _, _, _, _, _, _ => none
 | k + 1, x3, x4, x5, x6, x540000, x540001 => (spec_l6Has.f x5 x6).bind fun t545 => (if t545 = true then (spec_HullOf.l1 k x3 x4 x5 x6 0 x540000 x540001) else (spec_HullOf.l0 k x3 x4 x5 (wrap64 (x6 + 1)) x540000 x540001))
def spec_HullOf.l1 : Nat → List Int → Int → Int → Int → Int → Int → ByteArray → Option (List Int)
 | 0, _, _, _, _, _, _, _ => none
 | k + 1, x3, x4, x5, x6, x7, x540000, x540001 => if x7 < x540000 then (if x3.length < 17592186044416 then (spec_HullOf.l2 k (x3 ++ [x6]) x4 x5 x6 x7 (-1) 0 x540000 x540001) else (none)) else (some x3)
def spec_HullOf.l2 : Nat → List Int → Int → Int → Int → Int → Int → Int → Int → ByteArray → Option (List Int)
 | 0, _, _, _, _, _, _, _, _, _ => none
 | k + 1, x3, x4, x5, x6, x7, x8, x9, x540000, x540001 => if x9 < x540000 then (if x9 = x6 then (spec_HullOf.l2 k x3 x4 x5 x6 x7 x8 (wrap64 (x9 + 1)) x540000 x540001) else ((spec_l6Has.f x5 x9).bind fun t550 => (if t550 = true then ((spec_l6Left.f k x540000 x540001 x4 x6 x9).bind fun t551 => (if t551 = true then (spec_HullOf.l2 k x3 x4 x5 x6 x7 x9 (wrap64 (x9 + 1)) x540000 x540001) else (spec_HullOf.l2 k x3 x4 x5 x6 x7 x8 (wrap64 (x9 + 1)) x540000 x540001))) else (spec_HullOf.l2 k x3 x4 x5 x6 x7 x8 (wrap64 (x9 + 1)) x540000 x540001)))) else (if 0 < (x3.length : Int) then (if x8 = (rd x3 0) then (some x3) else (if x8 < 0 then (some x3) else (spec_HullOf.l1 k x3 x4 x5 x8 (wrap64 (x7 + 1)) x540000 x540001))) else (none))
end
def spec_HullOf.f (k : Nat) (a0_0 : Int) (a0_1 : ByteArray) : Option (List Int) := (some (([] : List Int) : List Int)).bind fun y540 => ((spec_IsAcyclic.f k a0_0 a0_1).bind fun t543 => (if t543 = true then (if 0 ≤ (IntKind.u64.wrap (a0_0)) then ((spec_l6Extreme.f k a0_0 a0_1 (wrap64 ((shl .i64 1 (IntKind.u64.wrap (a0_0))) - 1))).bind fun t544 => (spec_HullOf.l0 k y540 (wrap64 ((shl .i64 1 (IntKind.u64.wrap (a0_0))) - 1)) t544 0 a0_0 a0_1)) else (none)) else (some y540)))
theorem spec_HullOf.mono_l : ∀ k, (∀ y0 y1 y2 y3 y4 y5, LeO (spec_HullOf.l0 k y0 y1 y2 y3 y4 y5) (spec_HullOf.l0 (k + 1) y0 y1 y2 y3 y4 y5)) ∧ (∀ y0 y1 y2 y3 y4 y5 y6, LeO (spec_HullOf.l1 k y0 y1 y2 y3 y4 y5 y6) (spec_HullOf.l1 (k + 1) y0 y1 y2 y3 y4 y5 y6)) ∧ (∀ y0 y1 y2 y3 y4 y5 y6 y7 y8, LeO (spec_HullOf.l2 k y0 y1 y2 y3 y4 y5 y6 y7 y8) (spec_HullOf.l2 (k + 1) y0 y1 y2 y3 y4 y5 y6 y7 y8))
 | 0 => ⟨fun _ _ _ _ _ _ r h => by simp [spec_HullOf.l0] at h, fun _ _ _ _ _ _ _ r h => by simp [spec_HullOf.l1] at h, fun _ _ _ _ _ _ _ _ _ r h => by simp [spec_HullOf.l2] at h⟩
 | k + 1 => by
  obtain ⟨ih0, ih1, ih2⟩ := spec_HullOf.mono_l k
  refine ⟨?_, ?_, ?_⟩ <;> intros <;> (first | unfold spec_HullOf.l0 | unfold spec_HullOf.l1 | unfold spec_HullOf.l2) <;> repeat' first
  | (with_reducible exact ih0 _ _ _ _ _ _)
  | (with_reducible exact ih1 _ _ _ _ _ _ _)
  | (with_reducible exact ih2 _ _ _ _ _ _ _ _ _)
  | (with_reducible exact spec_IsAcyclic.mono _ _ _)
  | (with_reducible exact spec_l6Extreme.mono _ _ _ _)
  | (with_reducible exact spec_l6Left.mono _ _ _ _ _ _)
  | (with_reducible exact LeO.refl _)
  | (with_reducible exact LeO.none _)
  | (with_reducible refine LeO.ite ?_ ?_)
  | (with_reducible refine LeO.bind ?_ (fun _ => ?_))
  | exact ih0 _ _ _ _ _ _
  | exact ih1 _ _ _ _ _ _ _
  | exact ih2 _ _ _ _ _ _ _ _ _
  | exact spec_IsAcyclic.mono _ _ _
  | exact spec_l6Extreme.mono _ _ _ _
  | exact spec_l6Left.mono _ _ _ _ _ _
  | exact LeO.none _
  | refine LeO.ite ?_ ?_
  | refine LeO.bind ?_ (fun _ => ?_)
theorem spec_HullOf.mono : ∀ a0 a1 k, LeO (spec_HullOf.f k a0 a1) (spec_HullOf.f (k + 1) a0 a1) := by
 intro a0 a1 k
 obtain ⟨ih0, ih1, ih2⟩ := spec_HullOf.mono_l k
 unfold spec_HullOf.f
 repeat' first
   | (with_reducible exact ih0 _ _ _ _ _ _)
   | (with_reducible exact ih1 _ _ _ _ _ _ _)
   | (with_reducible exact ih2 _ _ _ _ _ _ _ _ _)
   | (with_reducible exact spec_IsAcyclic.mono _ _ _)
   | (with_reducible exact spec_l6Extreme.mono _ _ _ _)
   | (with_reducible exact spec_l6Left.mono _ _ _ _ _ _)
   | (with_reducible exact LeO.refl _)
   | (with_reducible exact LeO.none _)
   | (with_reducible refine LeO.ite ?_ ?_)
   | (with_reducible refine LeO.bind ?_ (fun _ => ?_))
   | exact ih0 _ _ _ _ _ _
   | exact ih1 _ _ _ _ _ _ _
   | exact ih2 _ _ _ _ _ _ _ _ _
   | exact spec_IsAcyclic.mono _ _ _
   | exact spec_l6Extreme.mono _ _ _ _
   | exact spec_l6Left.mono _ _ _ _ _ _
   | exact LeO.none _
   | refine LeO.ite ?_ ?_
   | refine LeO.bind ?_ (fun _ => ?_)
set_option maxHeartbeats 8000000 in
set_option maxRecDepth 100000 in
theorem spec_HullOf.calls (k : Nat) (a0_0 : Int) (a0_1 : ByteArray) (r : List Int) (w : World) (h : spec_HullOf.f k a0_0 a0_1 = some r) :
  Calls Try.prog 32 #[.agg #[.int .i64 a0_0, .string a0_1]] w fun e w' => ∃ v0_ : Value, e = .returned (v0_) ∧ Kd.R (Kd.int .i64) 3 w' w.heap.size (fun _ => True) v0_ r ∧ Below w.heap.size w w' := by
 have hu26 := Try.underlying26
 have HB := Aside0.mk (Below.refl w.heap.size w)
 have H : ((some (([] : List Int) : List Int)).bind fun y540 => ((spec_IsAcyclic.f k a0_0 a0_1).bind fun t543 => (if t543 = true then (if 0 ≤ (IntKind.u64.wrap (a0_0)) then ((spec_l6Extreme.f k a0_0 a0_1 (wrap64 ((shl .i64 1 (IntKind.u64.wrap (a0_0))) - 1))).bind fun t544 => (spec_HullOf.l0 k y540 (wrap64 ((shl .i64 1 (IntKind.u64.wrap (a0_0))) - 1)) t544 0 a0_0 a0_1)) else (none)) else (some y540)))) = some r := h
 clear h
 obtain ⟨y540, hy540⟩ : ∃ y_ : List Int, y_ = (([] : List Int)) := ⟨_, rfl⟩
 replace H : ((spec_IsAcyclic.f k a0_0 a0_1).bind fun t543 => (if t543 = true then (if 0 ≤ (IntKind.u64.wrap (a0_0)) then ((spec_l6Extreme.f k a0_0 a0_1 (wrap64 ((shl .i64 1 (IntKind.u64.wrap (a0_0))) - 1))).bind fun t544 => (spec_HullOf.l0 k y540 (wrap64 ((shl .i64 1 (IntKind.u64.wrap (a0_0))) - 1)) t544 0 a0_0 a0_1)) else (none)) else (some y540))) = some r := by first | (rw [hy540]; with_reducible exact H) | (have H2_ := (Option.bind_some _ _).symm.trans H; rw [hy540]; with_reducible exact H2_) | (have H2_ := (Option.bind_some _ _).symm.trans H; with_reducible exact H2_) | with_reducible exact H | (rw [hy540]; exact H) | exact H
 have Ny540 := Aside0.mk hy540
 clear hy540
 replace H := Option.bind_eq_some_iff.mp H
 obtain ⟨t543, A20, H⟩ := H
 replace H : (if t543 = true then (if 0 ≤ (IntKind.u64.wrap (a0_0)) then ((spec_l6Extreme.f k a0_0 a0_1 (wrap64 ((shl .i64 1 (IntKind.u64.wrap (a0_0))) - 1))).bind fun t544 => (spec_HullOf.l0 k y540 (wrap64 ((shl .i64 1 (IntKind.u64.wrap (a0_0))) - 1)) t544 0 a0_0 a0_1)) else (none)) else (some y540)) = some r := H
 have A2 := Aside0.mk A20
 clear A20
 by_cases c3 : t543 = true
 ·subst c3
  have H1 : (if 0 ≤ (IntKind.u64.wrap (a0_0)) then ((spec_l6Extreme.f k a0_0 a0_1 (wrap64 ((shl .i64 1 (IntKind.u64.wrap (a0_0))) - 1))).bind fun t544 => (spec_HullOf.l0 k y540 (wrap64 ((shl .i64 1 (IntKind.u64.wrap (a0_0))) - 1)) t544 0 a0_0 a0_1)) else (none)) = some r := by rw [if_pos rfl] at H; exact H
  clear H
  have H := H1
  clear H1
  obtain ⟨ji4, hji4⟩ : ∃ j_ : Int, (IntKind.u64.wrap (a0_0)) = j_ := ⟨_, rfl⟩
  replace H : (if 0 ≤ (ji4) then ((spec_l6Extreme.f k a0_0 a0_1 (wrap64 ((shl .i64 1 (ji4)) - 1))).bind fun t544 => (spec_HullOf.l0 k y540 (wrap64 ((shl .i64 1 (ji4)) - 1)) t544 0 a0_0 a0_1)) else (none)) = some r := by first | (rw [hji4] at H; exact H) | (simp only [hji4] at H ⊢; exact H)
  (try rw [hji4] at A2)
  by_cases c5 : 0 ≤ (ji4)
  ·rw [if_pos c5] at H
   have c5b0 := eq_true c5
   have c5b1 : decide (0 ≤ (ji4)) = true := decide_eq_true c5
   clear c5
   obtain ⟨ji6, hji6⟩ : ∃ j_ : Int, (shl .i64 1 (ji4)) = j_ := ⟨_, rfl⟩
   replace H : ((spec_l6Extreme.f k a0_0 a0_1 (wrap64 ((ji6) - 1))).bind fun t544 => (spec_HullOf.l0 k y540 (wrap64 ((ji6) - 1)) t544 0 a0_0 a0_1)) = some r := by first | (rw [hji6] at H; exact H) | (simp only [hji6] at H ⊢; exact H)
   (try rw [hji6] at A2)
   have hji6_ : (IntKind.i64.wrap (1 * 2 ^ min (ji4).toNat 64)) = ji6 := hji6
   have hji6z : (ji4) ≤ 64 → (IntKind.i64.wrap (1 * 2 ^ (ji4).toNat)) = ji6 := shl_small hji6
   have hji6u : (IntKind.i64.wrap (2 ^ min (ji4).toNat 64)) = ji6 := by have h_ := hji6_; rw [Int.one_mul] at h_; exact h_
   have hji6v : (ji4) ≤ 64 → (IntKind.i64.wrap (2 ^ (ji4).toNat)) = ji6 := fun hle_ => by have h_ := hji6z hle_; rw [Int.one_mul] at h_; exact h_
   have hji6y : (wrap64 (1 * 2 ^ min (ji4).toNat 64)) = ji6 := (i64_w _).symm.trans hji6_
   have hji6x : (ji4) ≤ 64 → (wrap64 (1 * 2 ^ (ji4).toNat)) = ji6 := fun h_ => (i64_w _).symm.trans (hji6z h_)
   replace H := Option.bind_eq_some_iff.mp H
   obtain ⟨t544, A70, H⟩ := H
   replace H : (spec_HullOf.l0 k y540 (wrap64 ((ji6) - 1)) t544 0 a0_0 a0_1) = some r := H
   have A7 := Aside0.mk A70
   clear A70
   have H' := Aside0.mk H
   clear H
   go_enter Try.func32, Try.ntmps32
   go_wp2_with (first | ((with_reducible refine gate_dst (N := 1) rfl ?_); refine box_event ?hg (N := 1) ?hd (cs := #[.int .i64 a0_0, .string a0_1]) (t := 26) ?hr ?_; (case hd => rfl); (case hg => rfl); (case hr => first | (go_simp; done) | (go_simp; rfl)); intro gb539 hg w8 hbox hb; have BK539 := Aside0.mk (hbox); have GW539 := Aside0.mk ((by rw [hg]; exact (below_size zB) : w.heap.size ≤ gb539)); have GE539 := Aside0.mk ((by rw [hg]; exact (below_size zB) : w.heap.size ≤ gb539)); replace HB := Aside0.mk (below_step zB hb); clear hb hbox hg) | ((with_reducible refine gate_dst (N := 10) rfl ?_); refine Kd.R_lit (Kd.int .i64) _ 3 ?hg (N := 10) ?hd (xs := ([] : List Int)) (inner := []) (ok := fun _ => True) (okp := fun _ => True) ?hr ?hp (fun _ hk => hk) trivial (Below.refl _ _) (Nat.le_refl _) (by simp) ?_; (case hd => rfl); (case hg => rfl); (case hr => first | (go_simp; done) | (go_simp; rfl)); (case hp => exact (Reps.none _ _)); intro v541 w9 ho10 hb hg_ hnew_; clear hg_ hnew_; (first | rw [← Ny540.out] at ho10 | (simp only [Int.reduceToNat] at ho10; rw [← Ny540.out] at ho10)); have HO542 := Aside0.mk (Kd.R_lower ho10 (below_size (zG GE539.out))); replace BK539 := Aside0.mk (blk_below (g := gb539) (o := .cells #[.int .i64 a0_0, .string a0_1] 26 (0, 0)) (zK BK539.out) hb); replace HB := Aside0.mk (below_step (zG GE539.out) hb); clear hb ho10; have hcz11_0 : w9.cell? ⟨gb539, 0, none⟩ = some (.int .i64 a0_0) := (blk_cell BK539.out 0).trans rfl; have hcz11_1 : w9.cell? ⟨gb539, 1, none⟩ = some (.string a0_1) := (blk_cell BK539.out 1).trans rfl; have hfz11_0 := blk_frozen BK539.out 0; have hfz11_1 := blk_frozen BK539.out 1) | ((with_reducible refine gate_callee (f := 38) rfl ?_); refine goesL_ (some 12) rfl rfl Try.func38 (by kernel_rfl) rfl #[.agg #[.int .i64 a0_0, .string a0_1]] rfl zM ?_; (with_reducible refine (spec_IsAcyclic.calls k a0_0 a0_1 true _ A2.out).mono ?_); rintro e w12 ⟨rfl, hb⟩; refine ⟨_, rfl, ?_⟩; replace HO542 := Aside0.mk (Kd.R_below (zR HO542.out) hb); replace BK539 := Aside0.mk (blk_below (g := gb539) (o := .cells #[.int .i64 a0_0, .string a0_1] 26 (0, 0)) (zK BK539.out) hb); replace HB := Aside0.mk (below_step (zG GE539.out) hb); (try clear hb); have hcz13_0 : w12.cell? ⟨gb539, 0, none⟩ = some (.int .i64 a0_0) := (blk_cell BK539.out 0).trans rfl; have hcz13_1 : w12.cell? ⟨gb539, 1, none⟩ = some (.string a0_1) := (blk_cell BK539.out 1).trans rfl; have hfz13_0 := blk_frozen BK539.out 0; have hfz13_1 := blk_frozen BK539.out 1) | ((with_reducible refine gate_callee (f := 46) rfl ?_); refine goesL_ (some 22) rfl rfl Try.func46 (by kernel_rfl) rfl #[.agg #[.int .i64 a0_0, .string a0_1], .int .i64 (wrap64 ((ji6) - 1))] rfl (by (try simp only [List.map_toArray, List.map_cons, List.map_nil]); first | done | (simp only [hji6]; rfl) | rfl | (simp only [List.length_drop, List.length_take]; rfl)) ?_; (with_reducible refine (spec_l6Extreme.calls k a0_0 a0_1 (wrap64 ((ji6) - 1)) t544 _ A7.out).mono ?_); rintro e w14 ⟨rfl, hb⟩; refine ⟨_, rfl, ?_⟩; replace HO542 := Aside0.mk (Kd.R_below (zR HO542.out) hb); replace BK539 := Aside0.mk (blk_below (g := gb539) (o := .cells #[.int .i64 a0_0, .string a0_1] 26 (0, 0)) (zK BK539.out) hb); replace HB := Aside0.mk (below_step (zG GE539.out) hb); (try clear hb)))
   go_loopg [6] k (fun kq v6 w' => ∃ (x6_1 : Int), v6 = .int .i64 x6_1 ∧ Aside0 (spec_HullOf.l0 kq y540 (wrap64 ((ji6) - 1)) t544 x6_1 a0_0 a0_1 = some r) ∧ Aside0 (kq ≤ k) ∧ Aside0 (Kd.R (Kd.int .i64) 3 w' w.heap.size (fun _ => True) v541 y540) ∧ Aside0 (w'.heap[gb539]? = some (.cells #[.int .i64 a0_0, .string a0_1] 26 (0, 0))) ∧ Aside0 (Below w.heap.size w w'))
   case atStart => exact ⟨(0), zF, H', ⟨Nat.le_refl _⟩, ⟨zR HO542.out⟩, ⟨zK BK539.out⟩, ⟨zG GE539.out⟩⟩
   case round =>
    clear H'
    try clear p2
    try clear c3
    try clear c4
    try clear c5
    try clear c5b0
    try clear c5b1
    try clear p6
    try clear hcz11_0
    try clear hcz11_1
    try clear hcz13_0
    try clear hcz13_1
    try clear hfz11_0
    try clear hfz11_1
    try clear hfz13_0
    try clear hfz13_1
    obtain ⟨x6_1, rfl, HA, HK1, HO_3, BK539, HB⟩ := hrel
    cases gk with
    | zero => exact absurd HA.out (by simp [spec_HullOf.l0])
    | succ k1 =>
     have H := HA.out
     clear HA
     simp only [spec_HullOf.l0] at H
     replace H := Option.bind_eq_some_iff.mp H
     obtain ⟨t545, A150, H⟩ := H
     replace H : (if t545 = true then (spec_HullOf.l1 k1 y540 (wrap64 ((ji6) - 1)) t544 x6_1 0 a0_0 a0_1) else (spec_HullOf.l0 k1 y540 (wrap64 ((ji6) - 1)) t544 (wrap64 (x6_1 + 1)) a0_0 a0_1)) = some r := H
     have A15 := Aside0.mk A150
     clear A150
     by_cases c16 : t545 = true
     ·subst c16
      have H1 : (spec_HullOf.l1 k1 y540 (wrap64 ((ji6) - 1)) t544 x6_1 0 a0_0 a0_1) = some r := by rw [if_pos rfl] at H; exact H
      clear H
      have H := H1
      clear H1
      have H' := Aside0.mk H
      clear H
      go_wp2_with (first | ((with_reducible refine gate_callee (f := 51) rfl ?_); refine goesL_ (some 25) rfl rfl Try.func51 (by kernel_rfl) rfl #[.int .i64 t544, .int .i64 x6_1] rfl zM ?_; (with_reducible refine (spec_l6Has.calls t544 x6_1 true _ A15.out).mono ?_); rintro e w' ⟨rfl, ⟨nd, rfl⟩⟩; refine ⟨_, rfl, ?_⟩))
      go_loopg [3, 6, 7] k1 (fun kq v3 v6 v7 w' => ∃ (x3_2 : List Int) (x6_2 : Int) (x7_2 : Int), v6 = .int .i64 x6_2 ∧ v7 = .int .i64 x7_2 ∧ Aside0 (spec_HullOf.l1 kq x3_2 (wrap64 ((ji6) - 1)) t544 x6_2 x7_2 a0_0 a0_1 = some r) ∧ Aside0 (kq ≤ k1) ∧ Aside0 (Kd.R (Kd.int .i64) 3 w' w.heap.size (fun _ => True) v3 x3_2) ∧ Aside0 (w'.heap[gb539]? = some (.cells #[.int .i64 a0_0, .string a0_1] 26 (0, 0))) ∧ Aside0 (Below w.heap.size w w'))
      case atStart => exact ⟨(y540), (x6_1), (0), zF, zF, H', ⟨Nat.le_refl _⟩, ⟨zR HO_3.out⟩, ⟨zK BK539.out⟩, ⟨zG GE539.out⟩⟩
      case round =>
       clear H'
       try clear c1
       try clear p2
       try clear c3
       try clear c4
       try clear c5
       try clear c5b0
       try clear c5b1
       try clear p6
       try clear c16
       try clear hcz11_0
       try clear hcz11_1
       try clear hcz13_0
       try clear hcz13_1
       try clear hfz11_0
       try clear hfz11_1
       try clear hfz13_0
       try clear hfz13_1
       try clear p2
       try clear p6
       obtain ⟨x3_2, x6_2, x7_2, rfl, rfl, HA, HK2, HO_3, BK539, HB⟩ := hrel
       cases gk with
       | zero => exact absurd HA.out (by simp [spec_HullOf.l1])
       | succ k2 =>
        have H := HA.out
        clear HA
        simp only [spec_HullOf.l1] at H
        by_cases c17 : x7_2 < a0_0
        ·rw [if_pos c17] at H
         have c17b0 : decide (x7_2 < a0_0) = true := decide_eq_true c17
         clear c17
         by_cases c18 : x3_2.length < 17592186044416
         ·rw [if_pos c18] at H
          have LMc18 := Aside0.mk c18
          clear c18
          obtain ⟨y546, hy546⟩ : ∃ y_ : List Int, y_ = (x3_2 ++ [x6_2]) := ⟨_, rfl⟩
          replace H : (spec_HullOf.l2 k2 y546 (wrap64 ((ji6) - 1)) t544 x6_2 x7_2 (-1) 0 a0_0 a0_1) = some r := by first | (rw [hy546]; with_reducible exact H) | (have H2_ := (Option.bind_some _ _).symm.trans H; rw [hy546]; with_reducible exact H2_) | (have H2_ := (Option.bind_some _ _).symm.trans H; with_reducible exact H2_) | with_reducible exact H | (rw [hy546]; exact H) | exact H
          have Ny546 := Aside0.mk hy546
          clear hy546
          have H' := Aside0.mk H
          clear H
          have hcz19_0 : wr.cell? ⟨gb539, 0, none⟩ = some (.int .i64 a0_0) := (blk_cell BK539.out 0).trans rfl
          have hcz19_1 : wr.cell? ⟨gb539, 1, none⟩ = some (.string a0_1) := (blk_cell BK539.out 1).trans rfl
          have hfz19_0 := blk_frozen BK539.out 0
          have hfz19_1 := blk_frozen BK539.out 1
          go_wp2_with (first | ((with_reducible refine gate_builtin (b := .append) (xs := #[.tmp 35, .tmp 37]) rfl ?_); at_builtin; refine Kd.R_append (Kd.int .i64) (w0 := w) w.heap.size rfl (.tmp 35) (.tmp 37) 34 3 (.int .i64 0) 8 rfl Try.underlying34 info3 rfl (by decide) (by omega) u3 x3_2 x6_2 [.int .i64 x6_2] (fun _ => True) (fun _ => False) rfl rfl ?aP (fun _ hk => hk.elim) ?aF ?aO ?aB ?aS ?aL ?_; (case aP => exact rfl); (case aB => exact (zG GE539.out)); (case aF => exact (fun _ _ => trivial)); (case aO => exact (zR HO_3.out)); (case aS => exact (below_size (zG GE539.out))); (case aL => have := LMc18.out; omega); intro v547 w20 ho hb hg hat; rw [← Ny546.out] at ho; have n0_ := Aside0.mk (blk_grown (g := gb539) (o := .cells #[.int .i64 a0_0, .string a0_1] 26 (0, 0)) (zK BK539.out) hg (Kd.R_ne HO_3.out BK539.out (by decide))); have n1_ := Aside0.mk (hb); have n2_ := Aside0.mk (ho); clear BK539; clear HB; clear HO_3; have BK539 := n0_; have HB := n1_; have HO548 := n2_; clear n0_ n1_ n2_; clear ho hb hg hat))
          go_loopg [8, 9] k2 (fun kq v8 v9 w' => ∃ (x8_3 : Int) (x9_3 : Int), v8 = .int .i64 x8_3 ∧ v9 = .int .i64 x9_3 ∧ Aside0 (spec_HullOf.l2 kq y546 (wrap64 ((ji6) - 1)) t544 x6_2 x7_2 x8_3 x9_3 a0_0 a0_1 = some r) ∧ Aside0 (kq ≤ k2) ∧ Aside0 (Kd.R (Kd.int .i64) 3 w' w.heap.size (fun _ => True) v547 y546) ∧ Aside0 (w'.heap[gb539]? = some (.cells #[.int .i64 a0_0, .string a0_1] 26 (0, 0))) ∧ Aside0 (Below w.heap.size w w'))
          case atStart => exact ⟨((-1)), (0), zF, zF, H', ⟨Nat.le_refl _⟩, ⟨zR HO548.out⟩, ⟨zK BK539.out⟩, ⟨zG GE539.out⟩⟩
          case round =>
           clear H'
           try clear c1
           try clear p2
           try clear c3
           try clear c4
           try clear c5
           try clear c5b0
           try clear c5b1
           try clear p6
           try clear c16
           try clear c17
           try clear c17b0
           try clear c18
           try clear hcz11_0
           try clear hcz11_1
           try clear hcz13_0
           try clear hcz13_1
           try clear hcz19_0
           try clear hcz19_1
           try clear hfz11_0
           try clear hfz11_1
           try clear hfz13_0
           try clear hfz13_1
           try clear hfz19_0
           try clear hfz19_1
           try clear p2
           try clear p6
           obtain ⟨x8_3, x9_3, rfl, rfl, HA, HK3, HO_3, BK539, HB⟩ := hrel
           cases gk with
           | zero => exact absurd HA.out (by simp [spec_HullOf.l2])
           | succ k3 =>
            have H := HA.out
            clear HA
            simp only [spec_HullOf.l2] at H
            by_cases c21 : x9_3 < a0_0
            ·rw [if_pos c21] at H
             have c21b0 : decide (x9_3 < a0_0) = true := decide_eq_true c21
             clear c21
             by_cases c22 : x9_3 = x6_2
             ·rw [if_pos c22] at H
              have c22b0 : (x9_3 == x6_2) = true := beq_iff_eq.mpr c22
              have c22b1 : (x9_3 != x6_2) = false := bne_eq_false_iff_eq.mpr c22
              clear c22
              have H' := Aside0.mk H
              clear H
              have hcz23_0 : wr.cell? ⟨gb539, 0, none⟩ = some (.int .i64 a0_0) := (blk_cell BK539.out 0).trans rfl
              have hcz23_1 : wr.cell? ⟨gb539, 1, none⟩ = some (.string a0_1) := (blk_cell BK539.out 1).trans rfl
              have hfz23_0 := blk_frozen BK539.out 0
              have hfz23_1 := blk_frozen BK539.out 1
              go_wp2
              go_roundg k3
              case measure => have := HK1.out; have := HK2.out; have := HK3.out; omega
              case rel => exact ⟨(x8_3), (wrap64 (x9_3 + 1)), zF, zF, H', ⟨by have := HK1.out; have := HK2.out; have := HK3.out; omega⟩, ⟨zR HO_3.out⟩, ⟨zK BK539.out⟩, ⟨zG GE539.out⟩⟩
             ·rw [if_neg c22] at H
              have c22b0 : (x9_3 == x6_2) = false := beq_eq_false_iff_ne.mpr c22
              have c22b1 : (x9_3 != x6_2) = true := bne_iff_ne.mpr c22
              replace H := Option.bind_eq_some_iff.mp H
              obtain ⟨t550, A240, H⟩ := H
              replace H : (if t550 = true then ((spec_l6Left.f k3 a0_0 a0_1 (wrap64 ((ji6) - 1)) x6_2 x9_3).bind fun t551 => (if t551 = true then (spec_HullOf.l2 k3 y546 (wrap64 ((ji6) - 1)) t544 x6_2 x7_2 x9_3 (wrap64 (x9_3 + 1)) a0_0 a0_1) else (spec_HullOf.l2 k3 y546 (wrap64 ((ji6) - 1)) t544 x6_2 x7_2 x8_3 (wrap64 (x9_3 + 1)) a0_0 a0_1))) else (spec_HullOf.l2 k3 y546 (wrap64 ((ji6) - 1)) t544 x6_2 x7_2 x8_3 (wrap64 (x9_3 + 1)) a0_0 a0_1)) = some r := H
              have A24 := Aside0.mk A240
              clear A240
              by_cases c25 : t550 = true
              ·subst c25
               have H1 : ((spec_l6Left.f k3 a0_0 a0_1 (wrap64 ((ji6) - 1)) x6_2 x9_3).bind fun t551 => (if t551 = true then (spec_HullOf.l2 k3 y546 (wrap64 ((ji6) - 1)) t544 x6_2 x7_2 x9_3 (wrap64 (x9_3 + 1)) a0_0 a0_1) else (spec_HullOf.l2 k3 y546 (wrap64 ((ji6) - 1)) t544 x6_2 x7_2 x8_3 (wrap64 (x9_3 + 1)) a0_0 a0_1))) = some r := by rw [if_pos rfl] at H; exact H
               clear H
               have H := H1
               clear H1
               replace H := Option.bind_eq_some_iff.mp H
               obtain ⟨t551, A260, H⟩ := H
               replace H : (if t551 = true then (spec_HullOf.l2 k3 y546 (wrap64 ((ji6) - 1)) t544 x6_2 x7_2 x9_3 (wrap64 (x9_3 + 1)) a0_0 a0_1) else (spec_HullOf.l2 k3 y546 (wrap64 ((ji6) - 1)) t544 x6_2 x7_2 x8_3 (wrap64 (x9_3 + 1)) a0_0 a0_1)) = some r := H
               have A26 := Aside0.mk A260
               clear A260
               by_cases c27 : t551 = true
               ·subst c27
                have H1 : (spec_HullOf.l2 k3 y546 (wrap64 ((ji6) - 1)) t544 x6_2 x7_2 x9_3 (wrap64 (x9_3 + 1)) a0_0 a0_1) = some r := by rw [if_pos rfl] at H; exact H
                clear H
                have H := H1
                clear H1
                have H' := Aside0.mk H
                clear H
                have hcz28_0 : wr.cell? ⟨gb539, 0, none⟩ = some (.int .i64 a0_0) := (blk_cell BK539.out 0).trans rfl
                have hcz28_1 : wr.cell? ⟨gb539, 1, none⟩ = some (.string a0_1) := (blk_cell BK539.out 1).trans rfl
                have hfz28_0 := blk_frozen BK539.out 0
                have hfz28_1 := blk_frozen BK539.out 1
                go_wp2_with (first | (go_at_call 51; (with_reducible refine (spec_l6Has.calls t544 x9_3 true _ A24.out).mono ?_); rintro e w' ⟨rfl, ⟨nd, rfl⟩⟩) | (go_at_call 52; (with_reducible refine (spec_l6Left.calls k3 a0_0 a0_1 (wrap64 ((ji6) - 1)) x6_2 x9_3 true _ A26.out).mono ?_); rintro e w29 ⟨rfl, hb⟩; replace HO_3 := Aside0.mk (Kd.R_below (zR HO_3.out) hb); replace BK539 := Aside0.mk (blk_below (g := gb539) (o := .cells #[.int .i64 a0_0, .string a0_1] 26 (0, 0)) (zK BK539.out) hb); replace HB := Aside0.mk (below_step (zG GE539.out) hb); (try clear hb); (try clear hb2); (try clear hk); (try clear hi)))
                go_roundg k3
                case measure => have := HK1.out; have := HK2.out; have := HK3.out; omega
                case rel => exact ⟨(x9_3), (wrap64 (x9_3 + 1)), zF, zF, H', ⟨by have := HK1.out; have := HK2.out; have := HK3.out; omega⟩, ⟨zR HO_3.out⟩, ⟨zK BK539.out⟩, ⟨zG GE539.out⟩⟩
               ·replace c27 := Bool.eq_false_iff.mpr c27
                subst c27
                have H1 : (spec_HullOf.l2 k3 y546 (wrap64 ((ji6) - 1)) t544 x6_2 x7_2 x8_3 (wrap64 (x9_3 + 1)) a0_0 a0_1) = some r := by rw [if_neg (show ¬ (false = true) by decide)] at H; exact H
                clear H
                have H := H1
                clear H1
                have H' := Aside0.mk H
                clear H
                have hcz30_0 : wr.cell? ⟨gb539, 0, none⟩ = some (.int .i64 a0_0) := (blk_cell BK539.out 0).trans rfl
                have hcz30_1 : wr.cell? ⟨gb539, 1, none⟩ = some (.string a0_1) := (blk_cell BK539.out 1).trans rfl
                have hfz30_0 := blk_frozen BK539.out 0
                have hfz30_1 := blk_frozen BK539.out 1
                go_wp2_with (first | (go_at_call 51; (with_reducible refine (spec_l6Has.calls t544 x9_3 true _ A24.out).mono ?_); rintro e w' ⟨rfl, ⟨nd, rfl⟩⟩) | (go_at_call 52; (with_reducible refine (spec_l6Left.calls k3 a0_0 a0_1 (wrap64 ((ji6) - 1)) x6_2 x9_3 false _ A26.out).mono ?_); rintro e w31 ⟨rfl, hb⟩; replace HO_3 := Aside0.mk (Kd.R_below (zR HO_3.out) hb); replace BK539 := Aside0.mk (blk_below (g := gb539) (o := .cells #[.int .i64 a0_0, .string a0_1] 26 (0, 0)) (zK BK539.out) hb); replace HB := Aside0.mk (below_step (zG GE539.out) hb); (try clear hb); (try clear hb2); (try clear hk); (try clear hi)))
                go_roundg k3
                case measure => have := HK1.out; have := HK2.out; have := HK3.out; omega
                case rel => exact ⟨(x8_3), (wrap64 (x9_3 + 1)), zF, zF, H', ⟨by have := HK1.out; have := HK2.out; have := HK3.out; omega⟩, ⟨zR HO_3.out⟩, ⟨zK BK539.out⟩, ⟨zG GE539.out⟩⟩
              ·replace c25 := Bool.eq_false_iff.mpr c25
               subst c25
               have H1 : (spec_HullOf.l2 k3 y546 (wrap64 ((ji6) - 1)) t544 x6_2 x7_2 x8_3 (wrap64 (x9_3 + 1)) a0_0 a0_1) = some r := by rw [if_neg (show ¬ (false = true) by decide)] at H; exact H
               clear H
               have H := H1
               clear H1
               have H' := Aside0.mk H
               clear H
               have hcz32_0 : wr.cell? ⟨gb539, 0, none⟩ = some (.int .i64 a0_0) := (blk_cell BK539.out 0).trans rfl
               have hcz32_1 : wr.cell? ⟨gb539, 1, none⟩ = some (.string a0_1) := (blk_cell BK539.out 1).trans rfl
               have hfz32_0 := blk_frozen BK539.out 0
               have hfz32_1 := blk_frozen BK539.out 1
               go_wp2_with (first | (go_at_call 51; (with_reducible refine (spec_l6Has.calls t544 x9_3 false _ A24.out).mono ?_); rintro e w' ⟨rfl, ⟨nd, rfl⟩⟩))
               go_roundg k3
               case measure => have := HK1.out; have := HK2.out; have := HK3.out; omega
               case rel => exact ⟨(x8_3), (wrap64 (x9_3 + 1)), zF, zF, H', ⟨by have := HK1.out; have := HK2.out; have := HK3.out; omega⟩, ⟨zR HO_3.out⟩, ⟨zK BK539.out⟩, ⟨zG GE539.out⟩⟩
            ·rw [if_neg c21] at H
             have c21b0 : decide (x9_3 < a0_0) = false := decide_eq_false c21
             clear c21
             by_cases c33 : 0 < (y546.length : Int)
             ·rw [if_pos c33] at H
              have c33b0 : decide (0 < (y546.length : Int)) = true := decide_eq_true c33
              have c33b1 : decide (0 < y546.length) = true := decide_eq_true (by omega)
              clear c33
              by_cases c34 : x8_3 = (rd y546 0)
              ·rw [if_pos c34] at H
               have c34b0 : (x8_3 == (rd y546 0)) = true := beq_iff_eq.mpr c34
               have c34b1 : (x8_3 != (rd y546 0)) = false := bne_eq_false_iff_eq.mpr c34
               clear c34
               obtain rfl := Option.some.inj H
               have hcz35_0 : wr.cell? ⟨gb539, 0, none⟩ = some (.int .i64 a0_0) := (blk_cell BK539.out 0).trans rfl
               have hcz35_1 : wr.cell? ⟨gb539, 1, none⟩ = some (.string a0_1) := (blk_cell BK539.out 1).trans rfl
               have hfz35_0 := blk_frozen BK539.out 0
               have hfz35_1 := blk_frozen BK539.out 1
               obtain ⟨Ao36, co36, eo36⟩ := Kd.R_slice HO_3.out
               subst eo36
               have p549 : 0 ≤ (0 : Int) := (by omega)
               have q549 : 0 < (y546.length : Int) := zA
               obtain ⟨ad549, e549, hx549_0⟩ := Kd.at_int (Kd.R_reads' HO_3.out).2.2 0 p549 q549
               cases e549
               have qi549 : (0 < y546.length) = True := eq_true (by omega)
               (try rw [show ((0 : Int)).toNat = 0 from rfl] at hx549_0)
               (try rw [Addr.add_zero'] at hx549_0)
               replace p549 := eq_true p549
               replace q549 := eq_true q549
               go_wp2
               go_ret
               exact ⟨_, by first | rfl | (simp [errW_none, errW_some] <;> rfl) | (simp only [← hji4, ← hji6]; first | rfl | (simp [errW_none, errW_some] <;> rfl)) | (simp [*, errW_none, errW_some] <;> rfl), zR HO_3.out, zG GE539.out⟩
              ·rw [if_neg c34] at H
               have c34b0 : (x8_3 == (rd y546 0)) = false := beq_eq_false_iff_ne.mpr c34
               have c34b1 : (x8_3 != (rd y546 0)) = true := bne_iff_ne.mpr c34
               by_cases c37 : x8_3 < 0
               ·rw [if_pos c37] at H
                have c37b0 : decide (x8_3 < 0) = true := decide_eq_true c37
                clear c37
                obtain rfl := Option.some.inj H
                have hcz38_0 : wr.cell? ⟨gb539, 0, none⟩ = some (.int .i64 a0_0) := (blk_cell BK539.out 0).trans rfl
                have hcz38_1 : wr.cell? ⟨gb539, 1, none⟩ = some (.string a0_1) := (blk_cell BK539.out 1).trans rfl
                have hfz38_0 := blk_frozen BK539.out 0
                have hfz38_1 := blk_frozen BK539.out 1
                obtain ⟨Ao39, co39, eo39⟩ := Kd.R_slice HO_3.out
                subst eo39
                have p549 : 0 ≤ (0 : Int) := (by omega)
                have q549 : 0 < (y546.length : Int) := zA
                obtain ⟨ad549, e549, hx549_0⟩ := Kd.at_int (Kd.R_reads' HO_3.out).2.2 0 p549 q549
                cases e549
                have qi549 : (0 < y546.length) = True := eq_true (by omega)
                (try rw [show ((0 : Int)).toNat = 0 from rfl] at hx549_0)
                (try rw [Addr.add_zero'] at hx549_0)
                replace p549 := eq_true p549
                replace q549 := eq_true q549
                go_wp2
                go_ret
                exact ⟨_, by first | rfl | (simp [errW_none, errW_some] <;> rfl) | (simp only [← hji4, ← hji6]; first | rfl | (simp [errW_none, errW_some] <;> rfl)) | (simp [*, errW_none, errW_some] <;> rfl), zR HO_3.out, zG GE539.out⟩
               ·rw [if_neg c37] at H
                have c37b0 : decide (x8_3 < 0) = false := decide_eq_false c37
                clear c37
                have H' := Aside0.mk H
                clear H
                have hcz40_0 : wr.cell? ⟨gb539, 0, none⟩ = some (.int .i64 a0_0) := (blk_cell BK539.out 0).trans rfl
                have hcz40_1 : wr.cell? ⟨gb539, 1, none⟩ = some (.string a0_1) := (blk_cell BK539.out 1).trans rfl
                have hfz40_0 := blk_frozen BK539.out 0
                have hfz40_1 := blk_frozen BK539.out 1
                obtain ⟨Ao41, co41, eo41⟩ := Kd.R_slice HO_3.out
                subst eo41
                have p549 : 0 ≤ (0 : Int) := (by omega)
                have q549 : 0 < (y546.length : Int) := zA
                obtain ⟨ad549, e549, hx549_0⟩ := Kd.at_int (Kd.R_reads' HO_3.out).2.2 0 p549 q549
                cases e549
                have qi549 : (0 < y546.length) = True := eq_true (by omega)
                (try rw [show ((0 : Int)).toNat = 0 from rfl] at hx549_0)
                (try rw [Addr.add_zero'] at hx549_0)
                replace p549 := eq_true p549
                replace q549 := eq_true q549
                go_wp2
                go_roundg k3
                case measure => have := HK1.out; have := HK2.out; have := HK3.out; omega
                case rel => exact ⟨(y546), (x8_3), (wrap64 (x7_2 + 1)), zF, zF, H', ⟨by have := HK1.out; have := HK2.out; have := HK3.out; omega⟩, ⟨zR HO_3.out⟩, ⟨zK BK539.out⟩, ⟨zG GE539.out⟩⟩
             ·rw [if_neg c33] at H
              exact absurd H (by simp)
         ·rw [if_neg c18] at H
          exact absurd H (by simp)
        ·rw [if_neg c17] at H
         have c17b0 : decide (x7_2 < a0_0) = false := decide_eq_false c17
         clear c17
         obtain rfl := Option.some.inj H
         have hcz42_0 : wr.cell? ⟨gb539, 0, none⟩ = some (.int .i64 a0_0) := (blk_cell BK539.out 0).trans rfl
         have hcz42_1 : wr.cell? ⟨gb539, 1, none⟩ = some (.string a0_1) := (blk_cell BK539.out 1).trans rfl
         have hfz42_0 := blk_frozen BK539.out 0
         have hfz42_1 := blk_frozen BK539.out 1
         go_wp2
         go_ret
         exact ⟨_, by first | rfl | (simp [errW_none, errW_some] <;> rfl) | (simp only [← hji4, ← hji6]; first | rfl | (simp [errW_none, errW_some] <;> rfl)) | (simp [*, errW_none, errW_some] <;> rfl), zR HO_3.out, zG GE539.out⟩
     ·replace c16 := Bool.eq_false_iff.mpr c16
      subst c16
      have H1 : (spec_HullOf.l0 k1 y540 (wrap64 ((ji6) - 1)) t544 (wrap64 (x6_1 + 1)) a0_0 a0_1) = some r := by rw [if_neg (show ¬ (false = true) by decide)] at H; exact H
      clear H
      have H := H1
      clear H1
      have H' := Aside0.mk H
      clear H
      go_wp2_with (first | ((with_reducible refine gate_callee (f := 51) rfl ?_); refine goesL_ (some 25) rfl rfl Try.func51 (by kernel_rfl) rfl #[.int .i64 t544, .int .i64 x6_1] rfl zM ?_; (with_reducible refine (spec_l6Has.calls t544 x6_1 false _ A15.out).mono ?_); rintro e w' ⟨rfl, ⟨nd, rfl⟩⟩; refine ⟨_, rfl, ?_⟩))
      go_roundg k1
      case measure => have := HK1.out; omega
      case rel => exact ⟨(wrap64 (x6_1 + 1)), zF, H', ⟨by have := HK1.out; omega⟩, ⟨zR HO_3.out⟩, ⟨zK BK539.out⟩, ⟨zG GE539.out⟩⟩
  ·rw [if_neg c5] at H
   exact absurd H (by simp)
 ·replace c3 := Bool.eq_false_iff.mpr c3
  subst c3
  have H1 : (some y540) = some r := by rw [if_neg (show ¬ (false = true) by decide)] at H; exact H
  clear H
  have H := H1
  clear H1
  obtain rfl := Option.some.inj H
  go_enter Try.func32, Try.ntmps32
  go_wp2_with (first | ((with_reducible refine gate_dst (N := 1) rfl ?_); refine box_event ?hg (N := 1) ?hd (cs := #[.int .i64 a0_0, .string a0_1]) (t := 26) ?hr ?_; (case hd => rfl); (case hg => rfl); (case hr => first | (go_simp; done) | (go_simp; rfl)); intro gb539 hg w43 hbox hb; have BK539 := Aside0.mk (hbox); have GW539 := Aside0.mk ((by rw [hg]; exact (below_size zB) : w.heap.size ≤ gb539)); have GE539 := Aside0.mk ((by rw [hg]; exact (below_size zB) : w.heap.size ≤ gb539)); replace HB := Aside0.mk (below_step zB hb); clear hb hbox hg) | ((with_reducible refine gate_dst (N := 10) rfl ?_); refine Kd.R_lit (Kd.int .i64) _ 3 ?hg (N := 10) ?hd (xs := ([] : List Int)) (inner := []) (ok := fun _ => True) (okp := fun _ => True) ?hr ?hp (fun _ hk => hk) trivial (Below.refl _ _) (Nat.le_refl _) (by simp) ?_; (case hd => rfl); (case hg => rfl); (case hr => first | (go_simp; done) | (go_simp; rfl)); (case hp => exact (Reps.none _ _)); intro v541 w44 ho45 hb hg_ hnew_; clear hg_ hnew_; (first | rw [← Ny540.out] at ho45 | (simp only [Int.reduceToNat] at ho45; rw [← Ny540.out] at ho45)); have HO542 := Aside0.mk (Kd.R_lower ho45 (below_size (zG GE539.out))); replace BK539 := Aside0.mk (blk_below (g := gb539) (o := .cells #[.int .i64 a0_0, .string a0_1] 26 (0, 0)) (zK BK539.out) hb); replace HB := Aside0.mk (below_step (zG GE539.out) hb); clear hb ho45; have hcz46_0 : w44.cell? ⟨gb539, 0, none⟩ = some (.int .i64 a0_0) := (blk_cell BK539.out 0).trans rfl; have hcz46_1 : w44.cell? ⟨gb539, 1, none⟩ = some (.string a0_1) := (blk_cell BK539.out 1).trans rfl; have hfz46_0 := blk_frozen BK539.out 0; have hfz46_1 := blk_frozen BK539.out 1) | ((with_reducible refine gate_callee (f := 38) rfl ?_); refine goesL_ (some 12) rfl rfl Try.func38 (by kernel_rfl) rfl #[.agg #[.int .i64 a0_0, .string a0_1]] rfl zM ?_; (with_reducible refine (spec_IsAcyclic.calls k a0_0 a0_1 false _ A2.out).mono ?_); rintro e w47 ⟨rfl, hb⟩; refine ⟨_, rfl, ?_⟩; replace HO542 := Aside0.mk (Kd.R_below (zR HO542.out) hb); replace BK539 := Aside0.mk (blk_below (g := gb539) (o := .cells #[.int .i64 a0_0, .string a0_1] 26 (0, 0)) (zK BK539.out) hb); replace HB := Aside0.mk (below_step (zG GE539.out) hb); (try clear hb)))
  go_ret
  exact ⟨_, zE, zR HO542.out, zG GE539.out⟩
/-! ### impl_chi_left: function 43 -/
def impl_chi_left.l0 : Nat → List Int → Int → Int → Int → Int → Option (Int)
 | 0, _, _, _, _, _ => none
 | k + 1, x0, x1, x2, x7, x8 => if x8 < (rd x0 0) then (if 0 ≤ x1 then (if x1 < 7 then (if 0 ≤ x2 then (if x2 < 7 then (if 0 ≤ x8 then (if x8 < 7 then (if (rd3 x0 x1 x2 x8) = 1 then (impl_chi_left.l0 k x0 x1 x2 (wrap64 (x7 + 1)) (wrap64 (x8 + 1))) else (impl_chi_left.l0 k x0 x1 x2 x7 (wrap64 (x8 + 1)))) else (none)) else (none)) else (none)) else (none)) else (none)) else (none)) else (some x7)
def impl_chi_left.f (k : Nat) (l0 : List Int) (a1 : Int) (a2 : Int) : Option (Int) := impl_chi_left.l0 k l0 a1 a2 0 0
theorem impl_chi_left.mono_l : ∀ k, (∀ y0 y1 y2 y3 y4, LeO (impl_chi_left.l0 k y0 y1 y2 y3 y4) (impl_chi_left.l0 (k + 1) y0 y1 y2 y3 y4))
 | 0 => fun _ _ _ _ _ r h => by simp [impl_chi_left.l0] at h
 | k + 1 => by
  have ih0 := impl_chi_left.mono_l k
  ·intro y0 y1 y2 y3 y4
   unfold impl_chi_left.l0
   repeat' first
   | (with_reducible exact ih0 _ _ _ _ _)
   | (with_reducible exact LeO.refl _)
   | (with_reducible exact LeO.none _)
   | (with_reducible refine LeO.ite ?_ ?_)
   | (with_reducible refine LeO.bind ?_ (fun _ => ?_))
   | exact ih0 _ _ _ _ _
   | exact LeO.none _
   | refine LeO.ite ?_ ?_
   | refine LeO.bind ?_ (fun _ => ?_)
theorem impl_chi_left.mono : ∀ a0 a1 a2 k, LeO (impl_chi_left.f k a0 a1 a2) (impl_chi_left.f (k + 1) a0 a1 a2) := by
 intro a0 a1 a2 k
 have ih0 := impl_chi_left.mono_l k
 unfold impl_chi_left.f
 repeat' first
   | (with_reducible exact ih0 _ _ _ _ _)
   | (with_reducible exact LeO.refl _)
   | (with_reducible exact LeO.none _)
   | (with_reducible refine LeO.ite ?_ ?_)
   | (with_reducible refine LeO.bind ?_ (fun _ => ?_))
   | exact ih0 _ _ _ _ _
   | exact LeO.none _
   | refine LeO.ite ?_ ?_
   | refine LeO.bind ?_ (fun _ => ?_)
set_option maxHeartbeats 8000000 in
set_option maxRecDepth 100000 in
theorem impl_chi_left.calls (k : Nat) (g0 : Nat) (l0 : List Int) (a1 : Int) (a2 : Int) (r : Int) (w : World) (hr0 : Kd.C (Kd.int .i64) w (some ⟨g0, 0, none⟩) l0.length l0) (hc0 : l0.length = 344) (h : impl_chi_left.f k l0 a1 a2 = some r) :
  Calls Try.prog 43 #[.pointer (some ⟨g0, 0, none⟩), .int .i64 a1, .int .i64 a2] w fun e w' => e = .returned (.int .i64 r) ∧ Drawn0 w w' := by
 have hu68 := Try.underlying68
 have hu66 := Try.underlying66
 have hu65 := Try.underlying65
 have hu64 := Try.underlying64
 have HR0 := Aside0.mk hr0
 have HC0 := Aside0.mk hc0
 clear hr0 hc0
 have H : (impl_chi_left.l0 k l0 a1 a2 0 0) = some r := h
 clear h
 have H' := Aside0.mk H
 clear H
 go_enter Try.func43, Try.ntmps43
 go_wp2
 go_loopg [7, 8] k (fun kq v7 v8 w' => ∃ (x7_1 : Int) (x8_1 : Int), v7 = .int .i64 x7_1 ∧ v8 = .int .i64 x8_1 ∧ Aside0 (impl_chi_left.l0 kq l0 a1 a2 x7_1 x8_1 = some r) ∧ Aside0 (kq ≤ k) ∧ Drawn0 w w')
 case atStart => exact ⟨(0), (0), zF, zF, H', ⟨Nat.le_refl _⟩, by repeat (first | exact Drawn0.refl _ | apply Drawn0.step)⟩
 case round =>
  clear H'
  try clear p2
  obtain ⟨x7_1, x8_1, rfl, rfl, HA, HK1, ⟨m1, rfl⟩⟩ := hrel
  cases gk with
  | zero => exact absurd HA.out (by simp [impl_chi_left.l0])
  | succ k1 =>
   have H := HA.out
   clear HA
   simp only [impl_chi_left.l0] at H
   by_cases c4 : x8_1 < (rd l0 0)
   ·rw [if_pos c4] at H
    have c4b0 : decide (x8_1 < (rd l0 0)) = true := decide_eq_true c4
    clear c4
    by_cases c5 : 0 ≤ a1
    ·rw [if_pos c5] at H
     have c5b0 : decide (0 ≤ a1) = true := decide_eq_true c5
     clear c5
     by_cases c6 : a1 < 7
     ·rw [if_pos c6] at H
      have c6b0 : decide (a1 < 7) = true := decide_eq_true c6
      clear c6
      by_cases c7 : 0 ≤ a2
      ·rw [if_pos c7] at H
       have c7b0 : decide (0 ≤ a2) = true := decide_eq_true c7
       clear c7
       by_cases c8 : a2 < 7
       ·rw [if_pos c8] at H
        have c8b0 : decide (a2 < 7) = true := decide_eq_true c8
        clear c8
        by_cases c9 : 0 ≤ x8_1
        ·rw [if_pos c9] at H
         have c9b0 : decide (0 ≤ x8_1) = true := decide_eq_true c9
         clear c9
         by_cases c10 : x8_1 < 7
         ·rw [if_pos c10] at H
          have c10b0 : decide (x8_1 < 7) = true := decide_eq_true c10
          clear c10
          by_cases c11 : (rd3 l0 a1 a2 x8_1) = 1
          ·rw [if_pos c11] at H
           have c11b0 : ((rd3 l0 a1 a2 x8_1) == 1) = true := beq_iff_eq.mpr c11
           have c11b1 : ((rd3 l0 a1 a2 x8_1) != 1) = false := bne_eq_false_iff_eq.mpr c11
           clear c11
           have H' := Aside0.mk H
           clear H
           have hL265 := HC0.out
           have dq265 : decide (0 < (l0.length : Int)) = true := decide_eq_true (by omega)
           clear hL265
           have p265 : 0 ≤ (0 : Int) := (by omega)
           have q265 : 0 < (l0.length : Int) := zA
           obtain ⟨ad265, e265, hx265_0⟩ := Kd.at_int HR0.out 0 p265 q265
           obtain rfl : (⟨g0, 0, none⟩ : Addr) = ad265 := (by injection e265)
           (first | simp only [add_plain] at hx265_0 | simp only [add_at] at hx265_0 | simp only [Addr.add, Nat.zero_add] at hx265_0 | skip)
           have qi265 : (0 < l0.length) = True := eq_true (by omega)
           (try rw [show ((0 : Int)).toNat = 0 from rfl] at hx265_0)
           (try rw [Addr.add_zero'] at hx265_0)
           replace p265 := eq_true p265
           replace q265 := eq_true q265
           clear dq265
           have pz266_0 : 0 ≤ (a1 : Int) := zA
           have pz266_1 : 0 ≤ (a2 : Int) := zA
           have pz266_2 : 0 ≤ (x8_1 : Int) := zA
           have qz266_0 : (a1 : Int) < 7 := zA
           have qz266_1 : (a2 : Int) < 7 := zA
           have qz266_2 : (x8_1 : Int) < 7 := zA
           have hL266 := HC0.out
           have dp266 : decide (0 ≤ ((1 + a1 * 49 + a2 * 7 + x8_1) : Int)) = true := decide_eq_true (by omega)
           have dq266 : decide ((1 + a1 * 49 + a2 * 7 + x8_1) < (l0.length : Int)) = true := decide_eq_true (by omega)
           clear hL266
           have p266 : 0 ≤ ((1 + a1 * 49 + a2 * 7 + x8_1) : Int) := zA
           have q266 : (1 + a1 * 49 + a2 * 7 + x8_1) < (l0.length : Int) := zA
           obtain ⟨ad266, e266, hx266_0⟩ := Kd.at_int HR0.out (1 + a1 * 49 + a2 * 7 + x8_1) p266 q266
           obtain rfl : (⟨g0, 0, none⟩ : Addr) = ad266 := (by injection e266)
           (first | simp only [add_plain] at hx266_0 | simp only [add_at] at hx266_0 | simp only [Addr.add, Nat.zero_add] at hx266_0 | skip)
           replace p266 := eq_true p266
           replace q266 := eq_true q266
           clear dp266 dq266
           clear p266 q266
           rw [show ((1 + a1 * 49 + a2 * 7 + x8_1) : Int).toNat = 1 + (a1).toNat * 49 + (a2).toNat * 7 + (x8_1).toNat from by omega] at hx266_0
           change _ = some (Value.int .i64 (rd3 l0 a1 a2 x8_1)) at hx266_0
           replace pz266_0 := eq_true pz266_0
           replace pz266_1 := eq_true pz266_1
           replace pz266_2 := eq_true pz266_2
           replace qz266_0 := eq_true qz266_0
           replace qz266_1 := eq_true qz266_1
           replace qz266_2 := eq_true qz266_2
           go_wp2
           go_roundg k1
           case measure => have := HK1.out; omega
           case rel => exact ⟨(wrap64 (x7_1 + 1)), (wrap64 (x8_1 + 1)), zF, zF, H', ⟨by have := HK1.out; omega⟩, by repeat (first | exact Drawn0.refl _ | apply Drawn0.step)⟩
          ·rw [if_neg c11] at H
           have c11b0 : ((rd3 l0 a1 a2 x8_1) == 1) = false := beq_eq_false_iff_ne.mpr c11
           have c11b1 : ((rd3 l0 a1 a2 x8_1) != 1) = true := bne_iff_ne.mpr c11
           have H' := Aside0.mk H
           clear H
           have hL265 := HC0.out
           have dq265 : decide (0 < (l0.length : Int)) = true := decide_eq_true (by omega)
           clear hL265
           have p265 : 0 ≤ (0 : Int) := (by omega)
           have q265 : 0 < (l0.length : Int) := zA
           obtain ⟨ad265, e265, hx265_0⟩ := Kd.at_int HR0.out 0 p265 q265
           obtain rfl : (⟨g0, 0, none⟩ : Addr) = ad265 := (by injection e265)
           (first | simp only [add_plain] at hx265_0 | simp only [add_at] at hx265_0 | simp only [Addr.add, Nat.zero_add] at hx265_0 | skip)
           have qi265 : (0 < l0.length) = True := eq_true (by omega)
           (try rw [show ((0 : Int)).toNat = 0 from rfl] at hx265_0)
           (try rw [Addr.add_zero'] at hx265_0)
           replace p265 := eq_true p265
           replace q265 := eq_true q265
           clear dq265
           have pz266_0 : 0 ≤ (a1 : Int) := zA
           have pz266_1 : 0 ≤ (a2 : Int) := zA
           have pz266_2 : 0 ≤ (x8_1 : Int) := zA
           have qz266_0 : (a1 : Int) < 7 := zA
           have qz266_1 : (a2 : Int) < 7 := zA
           have qz266_2 : (x8_1 : Int) < 7 := zA
           have hL266 := HC0.out
           have dp266 : decide (0 ≤ ((1 + a1 * 49 + a2 * 7 + x8_1) : Int)) = true := decide_eq_true (by omega)
           have dq266 : decide ((1 + a1 * 49 + a2 * 7 + x8_1) < (l0.length : Int)) = true := decide_eq_true (by omega)
           clear hL266
           have p266 : 0 ≤ ((1 + a1 * 49 + a2 * 7 + x8_1) : Int) := zA
           have q266 : (1 + a1 * 49 + a2 * 7 + x8_1) < (l0.length : Int) := zA
           obtain ⟨ad266, e266, hx266_0⟩ := Kd.at_int HR0.out (1 + a1 * 49 + a2 * 7 + x8_1) p266 q266
           obtain rfl : (⟨g0, 0, none⟩ : Addr) = ad266 := (by injection e266)
           (first | simp only [add_plain] at hx266_0 | simp only [add_at] at hx266_0 | simp only [Addr.add, Nat.zero_add] at hx266_0 | skip)
           replace p266 := eq_true p266
           replace q266 := eq_true q266
           clear dp266 dq266
           clear p266 q266
           rw [show ((1 + a1 * 49 + a2 * 7 + x8_1) : Int).toNat = 1 + (a1).toNat * 49 + (a2).toNat * 7 + (x8_1).toNat from by omega] at hx266_0
           change _ = some (Value.int .i64 (rd3 l0 a1 a2 x8_1)) at hx266_0
           replace pz266_0 := eq_true pz266_0
           replace pz266_1 := eq_true pz266_1
           replace pz266_2 := eq_true pz266_2
           replace qz266_0 := eq_true qz266_0
           replace qz266_1 := eq_true qz266_1
           replace qz266_2 := eq_true qz266_2
           go_wp2
           go_roundg k1
           case measure => have := HK1.out; omega
           case rel => exact ⟨(x7_1), (wrap64 (x8_1 + 1)), zF, zF, H', ⟨by have := HK1.out; omega⟩, by repeat (first | exact Drawn0.refl _ | apply Drawn0.step)⟩
         ·rw [if_neg c10] at H
          exact absurd H (by simp)
        ·rw [if_neg c9] at H
         exact absurd H (by simp)
       ·rw [if_neg c8] at H
        exact absurd H (by simp)
      ·rw [if_neg c7] at H
       exact absurd H (by simp)
     ·rw [if_neg c6] at H
      exact absurd H (by simp)
    ·rw [if_neg c5] at H
     exact absurd H (by simp)
   ·rw [if_neg c4] at H
    have c4b0 : decide (x8_1 < (rd l0 0)) = false := decide_eq_false c4
    clear c4
    obtain rfl := Option.some.inj H
    have hL265 := HC0.out
    have dq265 : decide (0 < (l0.length : Int)) = true := decide_eq_true (by omega)
    clear hL265
    have p265 : 0 ≤ (0 : Int) := (by omega)
    have q265 : 0 < (l0.length : Int) := zA
    obtain ⟨ad265, e265, hx265_0⟩ := Kd.at_int HR0.out 0 p265 q265
    obtain rfl : (⟨g0, 0, none⟩ : Addr) = ad265 := (by injection e265)
    (first | simp only [add_plain] at hx265_0 | simp only [add_at] at hx265_0 | simp only [Addr.add, Nat.zero_add] at hx265_0 | skip)
    have qi265 : (0 < l0.length) = True := eq_true (by omega)
    (try rw [show ((0 : Int)).toNat = 0 from rfl] at hx265_0)
    (try rw [Addr.add_zero'] at hx265_0)
    replace p265 := eq_true p265
    replace q265 := eq_true q265
    clear dq265
    go_wp2
    go_ret
    exact ⟨by first | rfl | (simp; done) | (simp [*]; done), by repeat (first | exact Drawn0.refl _ | apply Drawn0.step)⟩
/-! ### impl_chi_hull: function 53 -/
mutual
def impl_chi_hull.l0 : Nat → List Int → List Int → List Int → Option (List Int)
 | 0, _, _, _ => none
 | k + 1, x0, x3, x4 => if (x4.length : Int) < (x3.length : Int) then (if 0 ≤ (wrap64 ((x4.length : Int) - 1)) then (if (wrap64 ((x4.length : Int) - 1)) < (x4.length : Int) then (impl_chi_hull.l1 k x0 x3 x4 (rd x4 (wrap64 ((x4.length : Int) - 1))) x3 (x3.length : Int) 0) else (none)) else (none)) else (some x4)
def impl_chi_hull.l1 : Nat → List Int → List Int → List Int → Int → List Int → Int → Int → Option (List Int)
 | 0, _, _, _, _, _, _, _ => none
 | k + 1, x0, x3, x4, x5, x31, x32, x33 => if x33 < x32 then (if 0 ≤ x33 then (if x33 < (x31.length : Int) then (if (rd x31 x33) = x5 then (impl_chi_hull.l1 k x0 x3 x4 x5 x31 x32 (wrap64 (x33 + 1))) else ((impl_chi_left.f k x0 (rd x31 x33) x5).bind fun t564 => (if t564 = 0 then (if x4.length < 17592186044416 then (impl_chi_hull.l0 k x0 x3 (x4 ++ [rd x31 x33])) else (none)) else (impl_chi_hull.l1 k x0 x3 x4 x5 x31 x32 (wrap64 (x33 + 1)))))) else (none)) else (none)) else (impl_chi_hull.l0 k x0 x3 x4)
end
def impl_chi_hull.f (k : Nat) (l0 : List Int) : Option (List Int) := (impl_fullSet.f (rd l0 0)).bind fun t553 => ((impl_chi_extremeIn.f k l0 t553).bind fun t554 => ((impl_elementsOf.f k t554).bind fun t555 => (if 0 < (t555.length : Int) then (impl_chi_hull.l0 k l0 t555 (([rd t555 0] : List Int))) else (none))))
theorem impl_chi_hull.mono_l : ∀ k, (∀ y0 y1 y2, LeO (impl_chi_hull.l0 k y0 y1 y2) (impl_chi_hull.l0 (k + 1) y0 y1 y2)) ∧ (∀ y0 y1 y2 y3 y4 y5 y6, LeO (impl_chi_hull.l1 k y0 y1 y2 y3 y4 y5 y6) (impl_chi_hull.l1 (k + 1) y0 y1 y2 y3 y4 y5 y6))
 | 0 => ⟨fun _ _ _ r h => by simp [impl_chi_hull.l0] at h, fun _ _ _ _ _ _ _ r h => by simp [impl_chi_hull.l1] at h⟩
 | k + 1 => by
  obtain ⟨ih0, ih1⟩ := impl_chi_hull.mono_l k
  refine ⟨?_, ?_⟩ <;> intros <;> (first | unfold impl_chi_hull.l0 | unfold impl_chi_hull.l1) <;> repeat' first
  | (with_reducible exact ih0 _ _ _)
  | (with_reducible exact ih1 _ _ _ _ _ _ _)
  | (with_reducible exact impl_chi_extremeIn.mono _ _ _)
  | (with_reducible exact impl_chi_left.mono _ _ _ _)
  | (with_reducible exact impl_elementsOf.mono _ _)
  | (with_reducible exact LeO.refl _)
  | (with_reducible exact LeO.none _)
  | (with_reducible refine LeO.ite ?_ ?_)
  | (with_reducible refine LeO.bind ?_ (fun _ => ?_))
  | exact ih0 _ _ _
  | exact ih1 _ _ _ _ _ _ _
  | exact impl_chi_extremeIn.mono _ _ _
  | exact impl_chi_left.mono _ _ _ _
  | exact impl_elementsOf.mono _ _
  | exact LeO.none _
  | refine LeO.ite ?_ ?_
  | refine LeO.bind ?_ (fun _ => ?_)
theorem impl_chi_hull.mono : ∀ a0 k, LeO (impl_chi_hull.f k a0) (impl_chi_hull.f (k + 1) a0) := by
 intro a0 k
 obtain ⟨ih0, ih1⟩ := impl_chi_hull.mono_l k
 unfold impl_chi_hull.f
 repeat' first
   | (with_reducible exact ih0 _ _ _)
   | (with_reducible exact ih1 _ _ _ _ _ _ _)
   | (with_reducible exact impl_chi_extremeIn.mono _ _ _)
   | (with_reducible exact impl_chi_left.mono _ _ _ _)
   | (with_reducible exact impl_elementsOf.mono _ _)
   | (with_reducible exact LeO.refl _)
   | (with_reducible exact LeO.none _)
   | (with_reducible refine LeO.ite ?_ ?_)
   | (with_reducible refine LeO.bind ?_ (fun _ => ?_))
   | exact ih0 _ _ _
   | exact ih1 _ _ _ _ _ _ _
   | exact impl_chi_extremeIn.mono _ _ _
   | exact impl_chi_left.mono _ _ _ _
   | exact impl_elementsOf.mono _ _
   | exact LeO.none _
   | refine LeO.ite ?_ ?_
   | refine LeO.bind ?_ (fun _ => ?_)
set_option maxHeartbeats 8000000 in
set_option maxRecDepth 100000 in
theorem impl_chi_hull.calls (k : Nat) (g0 : Nat) (l0 : List Int) (r : List Int) (w : World) (hr0 : Kd.C (Kd.int .i64) w (some ⟨g0, 0, none⟩) l0.length l0) (hc0 : l0.length = 344) (h : impl_chi_hull.f k l0 = some r) :
  Calls Try.prog 53 #[.pointer (some ⟨g0, 0, none⟩)] w fun e w' => ∃ v0_ : Value, e = .returned (v0_) ∧ Kd.R (Kd.int .i64) 3 w' w.heap.size (fun _ => True) v0_ r ∧ Below w.heap.size w w' := by
 have hu68 := Try.underlying68
 have HR0 := Aside0.mk hr0
 have HC0 := Aside0.mk hc0
 clear hr0 hc0
 have HB := Aside0.mk (Below.refl w.heap.size w)
 have H : ((impl_fullSet.f (rd l0 0)).bind fun t553 => ((impl_chi_extremeIn.f k l0 t553).bind fun t554 => ((impl_elementsOf.f k t554).bind fun t555 => (if 0 < (t555.length : Int) then (impl_chi_hull.l0 k l0 t555 (([rd t555 0] : List Int))) else (none))))) = some r := h
 clear h
 replace H := Option.bind_eq_some_iff.mp H
 obtain ⟨t553, A20, H⟩ := H
 replace H : ((impl_chi_extremeIn.f k l0 t553).bind fun t554 => ((impl_elementsOf.f k t554).bind fun t555 => (if 0 < (t555.length : Int) then (impl_chi_hull.l0 k l0 t555 (([rd t555 0] : List Int))) else (none)))) = some r := H
 have A2 := Aside0.mk A20
 clear A20
 replace H := Option.bind_eq_some_iff.mp H
 obtain ⟨t554, A30, H⟩ := H
 replace H : ((impl_elementsOf.f k t554).bind fun t555 => (if 0 < (t555.length : Int) then (impl_chi_hull.l0 k l0 t555 (([rd t555 0] : List Int))) else (none))) = some r := H
 have A3 := Aside0.mk A30
 clear A30
 replace H := Option.bind_eq_some_iff.mp H
 obtain ⟨t555, A40, H⟩ := H
 replace H : (if 0 < (t555.length : Int) then (impl_chi_hull.l0 k l0 t555 (([rd t555 0] : List Int))) else (none)) = some r := H
 have A4 := Aside0.mk A40
 clear A40
 by_cases c5 : 0 < (t555.length : Int)
 ·rw [if_pos c5] at H
  have c5b0 : decide (0 < (t555.length : Int)) = true := decide_eq_true c5
  have c5b1 : decide (0 < t555.length) = true := decide_eq_true (by omega)
  clear c5
  obtain ⟨y559, hy559⟩ : ∃ y_ : List Int, y_ = (([rd t555 0] : List Int)) := ⟨_, rfl⟩
  replace H : (impl_chi_hull.l0 k l0 t555 y559) = some r := by first | (rw [hy559]; with_reducible exact H) | (have H2_ := (Option.bind_some _ _).symm.trans H; rw [hy559]; with_reducible exact H2_) | (have H2_ := (Option.bind_some _ _).symm.trans H; with_reducible exact H2_) | with_reducible exact H | (rw [hy559]; exact H) | exact H
  have Ny559 := Aside0.mk hy559
  clear hy559
  have H' := Aside0.mk H
  clear H
  have hL552 := HC0.out
  have dq552 : decide (0 < (l0.length : Int)) = true := decide_eq_true (by omega)
  clear hL552
  have p552 : 0 ≤ (0 : Int) := (by omega)
  have q552 : 0 < (l0.length : Int) := zA
  obtain ⟨ad552, e552, hx552_0⟩ := Kd.at_int HR0.out 0 p552 q552
  obtain rfl : (⟨g0, 0, none⟩ : Addr) = ad552 := (by injection e552)
  (first | simp only [add_plain] at hx552_0 | simp only [add_at] at hx552_0 | simp only [Addr.add, Nat.zero_add] at hx552_0 | skip)
  have qi552 : (0 < l0.length) = True := eq_true (by omega)
  (try rw [show ((0 : Int)).toNat = 0 from rfl] at hx552_0)
  (try rw [Addr.add_zero'] at hx552_0)
  replace p552 := eq_true p552
  replace q552 := eq_true q552
  clear dq552
  go_enter Try.func53, Try.ntmps53
  go_wp2_with (first | ((with_reducible refine gate_callee (f := 48) rfl ?_); refine goesL_ (some 13) rfl rfl Try.func48 (by kernel_rfl) rfl #[.int .i64 (rd l0 0)] rfl zM ?_; (with_reducible refine (impl_fullSet.calls (rd l0 0) t553 _ A2.out).mono ?_); rintro e w' ⟨rfl, ⟨nd, rfl⟩⟩; refine ⟨_, rfl, ?_⟩) | ((with_reducible refine gate_callee (f := 49) rfl ?_); refine goesL_ (some 14) rfl rfl Try.func49 (by kernel_rfl) rfl #[.pointer (some ⟨g0, 0, none⟩), .int .i64 t553] rfl zM ?_; (with_reducible refine (impl_chi_extremeIn.calls k _ l0 t553 t554 _ ?side1 ?side2 A3.out).mono ?_); (case side1 => repeat (first | exact HR0.out | (with_reducible refine Kd.C_alloc ?_ _) | (with_reducible refine Kd.C_drewN ?_ _) | (with_reducible refine Kd.C_drew ?_))); (case side2 => exact HC0.out); rintro e w6 ⟨rfl, hb⟩; refine ⟨_, rfl, ?_⟩; replace HB := Aside0.mk (below_step zB hb); (try clear hb)) | ((with_reducible refine gate_callee (f := 50) rfl ?_); refine goesL_ (some 15) rfl rfl Try.func50 (by kernel_rfl) rfl #[.int .i64 t554] rfl zM ?_; (with_reducible refine (impl_elementsOf.calls k t554 t555 _ A4.out).mono ?_); rintro e w7 ⟨v556, rfl, ho0, hb⟩; refine ⟨_, rfl, ?_⟩; have HO557 := Aside0.mk (Kd.R_lower ho0 (below_size zB)); replace HB := Aside0.mk (below_step zB hb); (try clear hb); (try clear ho0); obtain ⟨Ao8, co8, eo8⟩ := Kd.R_slice HO557.out; subst eo8; have p558 : 0 ≤ (0 : Int) := (by omega); have q558 : 0 < (t555.length : Int) := zA; obtain ⟨ad558, e558, hx558_0⟩ := Kd.at_int (Kd.R_reads' HO557.out).2.2 0 p558 q558; cases e558; have qi558 : (0 < t555.length) = True := eq_true (by omega); (try rw [show ((0 : Int)).toNat = 0 from rfl] at hx558_0); (try rw [Addr.add_zero'] at hx558_0); replace p558 := eq_true p558; replace q558 := eq_true q558) | ((with_reducible refine gate_dst (N := 19) rfl ?_); refine Kd.R_lit (Kd.int .i64) _ 3 ?hg (N := 19) ?hd (xs := ([rd t555 0] : List Int)) (inner := [.int .i64 (rd t555 0)]) (ok := fun _ => True) (okp := fun _ => True) ?hr ?hp (fun _ hk => hk) trivial (Below.refl _ _) (Nat.le_refl _) (by simp) ?_; (case hd => rfl); (case hg => rfl); (case hr => first | (go_simp; done) | (go_simp; rfl)); (case hp => exact (Reps.one (show Kd.M (Kd.int .i64) _ _ _ (rd t555 0) [.int .i64 (rd t555 0)] from rfl) (Reps.none _ _))); intro v560 w9 ho10 hb hg_ hnew_; clear hg_ hnew_; (first | rw [← Ny559.out] at ho10 | (simp only [Int.reduceToNat] at ho10; rw [← Ny559.out] at ho10)); have n0_ := Aside0.mk (Kd.R_elder' (zR HO557.out) (Kd.R_base ho10) hb); have n1_ := Aside0.mk (Kd.R_lower (Kd.R_new' ho10 (Kd.R_lt (zR HO557.out))) (below_size zB)); have n2_ := Aside0.mk (below_step zB hb); clear HO557; clear HB; have HO557 := n0_; have HO561 := n1_; have HB := n2_; clear n0_ n1_ n2_; clear hb ho10))
  go_loopg [4] k (fun kq v4 w' => ∃ (x4_1 : List Int), Aside0 (impl_chi_hull.l0 kq l0 t555 x4_1 = some r) ∧ Aside0 (kq ≤ k) ∧ Aside0 (Kd.R (Kd.int .i64) 3 w' w.heap.size (fun k_ => some k_ ≠ (v4 : Value).ownBlock) (.slice (some ad558) t555.length co8) t555) ∧ Aside0 (Kd.R (Kd.int .i64) 3 w' w.heap.size (fun k_ => some k_ ≠ ((.slice (some ad558) t555.length co8) : Value).ownBlock) v4 x4_1) ∧ Aside0 (Below w.heap.size w w'))
  case atStart => exact ⟨(y559), H', ⟨Nat.le_refl _⟩, ⟨by (with_reducible repeat (first | apply Kd.R_alloc | apply Kd.R_drewN | apply Kd.R_drew)); exact Kd.R_mono HO557.out (fun _ hk => hk.2)⟩, ⟨by (with_reducible repeat (first | apply Kd.R_alloc | apply Kd.R_drewN | apply Kd.R_drew)); exact Kd.R_mono HO561.out (fun _ hk => hk.2)⟩, ⟨zB⟩⟩
  case round =>
   clear H'
   try clear p2
   try clear c4
   try clear c5
   try clear c5b0
   try clear c5b1
   try clear p5
   try clear q5
   try clear hx5
   try clear qi5
   try clear hx552_0
   try clear hx558_0
   try clear p552
   try clear p558
   try clear q552
   try clear q558
   obtain ⟨x4_1, HA, HK1, HO_3, HO_4, HB⟩ := hrel
   cases gk with
   | zero => exact absurd HA.out (by simp [impl_chi_hull.l0])
   | succ k1 =>
    have H := HA.out
    clear HA
    simp only [impl_chi_hull.l0] at H
    by_cases c11 : (x4_1.length : Int) < (t555.length : Int)
    ·rw [if_pos c11] at H
     have c11b0 : decide ((x4_1.length : Int) < (t555.length : Int)) = true := decide_eq_true c11
     have c11b1 : decide (x4_1.length < t555.length) = true := decide_eq_true (Int.ofNat_lt.mp c11)
     clear c11
     obtain ⟨ji12, hji12⟩ : ∃ j_ : Int, (wrap64 ((x4_1.length : Int) - 1)) = j_ := ⟨_, rfl⟩
     replace H : (if 0 ≤ (ji12) then (if (ji12) < (x4_1.length : Int) then (impl_chi_hull.l1 k1 l0 t555 x4_1 (rd x4_1 (ji12)) t555 (t555.length : Int) 0) else (none)) else (none)) = some r := by first | (rw [hji12] at H; exact H) | (simp only [hji12] at H ⊢; exact H)
     have hji12w : (IntKind.i64.wrap ((x4_1.length : Int) - 1)) = ji12 := (i64_w _).trans hji12
     by_cases c13 : 0 ≤ (ji12)
     ·rw [if_pos c13] at H
      have c13b0 : decide (0 ≤ (ji12)) = true := decide_eq_true c13
      clear c13
      by_cases c14 : (ji12) < (x4_1.length : Int)
      ·rw [if_pos c14] at H
       have c14b0 : decide ((ji12) < (x4_1.length : Int)) = true := decide_eq_true c14
       clear c14
       have H' := Aside0.mk H
       clear H
       obtain ⟨Ao15, co15, eo15⟩ := Kd.R_slice HO_4.out
       subst eo15
       have p562 : 0 ≤ ((ji12) : Int) := zA
       have q562 : (ji12) < (x4_1.length : Int) := zA
       obtain ⟨ad562, e562, hx562_0⟩ := Kd.at_int (Kd.R_reads' HO_4.out).2.2 (ji12) p562 q562
       cases e562
       replace p562 := eq_true p562
       replace q562 := eq_true q562
       go_wp2
       go_loopg [4, 33] k1 (fun kq v4 v33 w' => ∃ (x4_2 : List Int) (x33_2 : Int), v33 = .int .i64 x33_2 ∧ Aside0 (impl_chi_hull.l1 kq l0 t555 x4_2 (rd x4_1 (ji12)) t555 (t555.length : Int) x33_2 = some r) ∧ Aside0 (kq ≤ k1) ∧ Aside0 (Kd.R (Kd.int .i64) 3 w' w.heap.size (fun k_ => some k_ ≠ (v4 : Value).ownBlock) (.slice (some ad558) t555.length co8) t555) ∧ Aside0 (Kd.R (Kd.int .i64) 3 w' w.heap.size (fun k_ => some k_ ≠ ((.slice (some ad558) t555.length co8) : Value).ownBlock ∧ some k_ ≠ ((.slice (some ad558) t555.length co8) : Value).ownBlock) v4 x4_2) ∧ Aside0 (Kd.R (Kd.int .i64) 3 w' w.heap.size (fun k_ => some k_ ≠ (v4 : Value).ownBlock) (.slice (some ad558) t555.length co8) t555) ∧ Aside0 (Below w.heap.size w w'))
       case atStart => exact ⟨(x4_1), (0), zF, H', ⟨Nat.le_refl _⟩, ⟨zR HO_3.out⟩, ⟨by (with_reducible repeat (first | apply Kd.R_alloc | apply Kd.R_drewN | apply Kd.R_drew)); exact Kd.R_mono HO_4.out (fun _ hk => ⟨hk, hk⟩)⟩, ⟨zR HO_3.out⟩, ⟨zB⟩⟩
       case round =>
        clear H'
        try clear c1
        try clear p2
        try clear c4
        try clear c5
        try clear c5b0
        try clear c5b1
        try clear p5
        try clear q5
        try clear hx5
        try clear qi5
        try clear p6
        try clear c11
        try clear c11b0
        try clear c11b1
        try clear c13
        try clear c13b0
        try clear c14
        try clear c14b0
        try clear hx552_0
        try clear hx558_0
        try clear hx562_0
        try clear p2
        try clear p5
        try clear p552
        try clear p558
        try clear p562
        try clear q5
        try clear q552
        try clear q558
        try clear q562
        obtain ⟨x4_2, x33_2, rfl, HA, HK2, HO_3, HO_4, HO_31, HB⟩ := hrel
        cases gk with
        | zero => exact absurd HA.out (by simp [impl_chi_hull.l1])
        | succ k2 =>
         have H := HA.out
         clear HA
         simp only [impl_chi_hull.l1] at H
         by_cases c16 : x33_2 < (t555.length : Int)
         ·rw [if_pos c16] at H
          have c16b0 : decide (x33_2 < (t555.length : Int)) = true := decide_eq_true c16
          clear c16
          by_cases c17 : 0 ≤ x33_2
          ·rw [if_pos c17] at H
           have c17b0 : decide (0 ≤ x33_2) = true := decide_eq_true c17
           clear c17
           by_cases c18 : x33_2 < (t555.length : Int)
           ·rw [if_pos c18] at H
            have c18b0 : decide (x33_2 < (t555.length : Int)) = true := decide_eq_true c18
            clear c18
            by_cases c19 : (rd t555 x33_2) = (rd x4_1 (ji12))
            ·rw [if_pos c19] at H
             have c19b0 : ((rd t555 x33_2) == (rd x4_1 (ji12))) = true := beq_iff_eq.mpr c19
             have c19b1 : ((rd t555 x33_2) != (rd x4_1 (ji12))) = false := bne_eq_false_iff_eq.mpr c19
             clear c19
             have H' := Aside0.mk H
             clear H
             have p563 : 0 ≤ (x33_2 : Int) := zA
             have q563 : x33_2 < (t555.length : Int) := zA
             obtain ⟨ad563, e563, hx563_0⟩ := Kd.at_int (Kd.R_reads' HO_31.out).2.2 x33_2 p563 q563
             obtain rfl : ad558 = ad563 := (by injection e563)
             replace p563 := eq_true p563
             replace q563 := eq_true q563
             go_wp2
             go_roundg k2
             case measure => have := HK1.out; have := HK2.out; omega
             case rel => exact ⟨(x4_2), (wrap64 (x33_2 + 1)), zF, H', ⟨by have := HK1.out; have := HK2.out; omega⟩, ⟨zR HO_3.out⟩, ⟨zR HO_4.out⟩, ⟨zR HO_31.out⟩, ⟨zB⟩⟩
            ·rw [if_neg c19] at H
             have c19b0 : ((rd t555 x33_2) == (rd x4_1 (ji12))) = false := beq_eq_false_iff_ne.mpr c19
             have c19b1 : ((rd t555 x33_2) != (rd x4_1 (ji12))) = true := bne_iff_ne.mpr c19
             replace H := Option.bind_eq_some_iff.mp H
             obtain ⟨t564, A200, H⟩ := H
             replace H : (if t564 = 0 then (if x4_2.length < 17592186044416 then (impl_chi_hull.l0 k2 l0 t555 (x4_2 ++ [rd t555 x33_2])) else (none)) else (impl_chi_hull.l1 k2 l0 t555 x4_2 (rd x4_1 (ji12)) t555 (t555.length : Int) (wrap64 (x33_2 + 1)))) = some r := H
             have A20 := Aside0.mk A200
             clear A200
             by_cases c21 : t564 = 0
             ·rw [if_pos c21] at H
              have c21b0 : (t564 == 0) = true := beq_iff_eq.mpr c21
              have c21b1 : (t564 != 0) = false := bne_eq_false_iff_eq.mpr c21
              clear c21
              by_cases c22 : x4_2.length < 17592186044416
              ·rw [if_pos c22] at H
               have LMc22 := Aside0.mk c22
               clear c22
               obtain ⟨y565, hy565⟩ : ∃ y_ : List Int, y_ = (x4_2 ++ [rd t555 x33_2]) := ⟨_, rfl⟩
               replace H : (impl_chi_hull.l0 k2 l0 t555 y565) = some r := by first | (rw [hy565]; with_reducible exact H) | (have H2_ := (Option.bind_some _ _).symm.trans H; rw [hy565]; with_reducible exact H2_) | (have H2_ := (Option.bind_some _ _).symm.trans H; with_reducible exact H2_) | with_reducible exact H | (rw [hy565]; exact H) | exact H
               have Ny565 := Aside0.mk hy565
               clear hy565
               have H' := Aside0.mk H
               clear H
               have p563 : 0 ≤ (x33_2 : Int) := zA
               have q563 : x33_2 < (t555.length : Int) := zA
               obtain ⟨ad563, e563, hx563_0⟩ := Kd.at_int (Kd.R_reads' HO_31.out).2.2 x33_2 p563 q563
               obtain rfl : ad558 = ad563 := (by injection e563)
               replace p563 := eq_true p563
               replace q563 := eq_true q563
               go_wp2_with (first | (go_at_call 43; (with_reducible refine (impl_chi_left.calls k2 _ l0 (rd t555 x33_2) (rd x4_1 (ji12)) t564 _ ?side1 ?side2 A20.out).mono ?_); (case side1 => repeat (first | exact (Kd.C_below HR0.out HB.out) | (with_reducible refine Kd.C_alloc ?_ _) | (with_reducible refine Kd.C_drewN ?_ _) | (with_reducible refine Kd.C_drew ?_))); (case side2 => exact HC0.out); rintro e w' ⟨rfl, ⟨nd, rfl⟩⟩) | ((with_reducible refine gate_builtin (b := .append) (xs := #[.tmp 47, .tmp 49]) rfl ?_); at_builtin; refine Kd.R_append (Kd.int .i64) (w0 := w) w.heap.size rfl (.tmp 47) (.tmp 49) 34 3 (.int .i64 0) 8 rfl Try.underlying34 info3 rfl (by decide) (by omega) u4 x4_2 (rd t555 x33_2) [.int .i64 (rd t555 x33_2)] (fun k_ => some k_ ≠ (.slice (some ad558) t555.length co8 : Value).ownBlock ∧ some k_ ≠ (.slice (some ad558) t555.length co8 : Value).ownBlock) (fun _ => False) rfl rfl ?aP (fun _ hk => hk.elim) ?aF ?aO ?aB ?aS ?aL ?_; (case aP => exact rfl); (case aB => exact zB); (case aF => exact (fun k_ hk => ⟨Kd.fresh' (Kd.R_lt (zR HO_3.out)) k_ hk, Kd.fresh' (Kd.R_lt (zR HO_31.out)) k_ hk⟩)); (case aO => exact (zR HO_4.out)); (case aS => exact (below_size zB)); (case aL => have := LMc22.out; omega); intro v566 w23 ho hb hg hat; rw [← Ny565.out] at ho; have n0_ := Aside0.mk (Kd.R_after (ok := (fun _ => True)) (by (with_reducible repeat (first | apply Kd.R_alloc | apply Kd.R_drewN | apply Kd.R_drew)); exact Kd.R_mono HO_3.out (fun _ hk => ⟨trivial, hk⟩)) hg hat); have n1_ := Aside0.mk (Kd.R_after (ok := (fun _ => True)) (by (with_reducible repeat (first | apply Kd.R_alloc | apply Kd.R_drewN | apply Kd.R_drew)); exact Kd.R_mono HO_31.out (fun _ hk => ⟨trivial, hk⟩)) hg hat); have n2_ := Aside0.mk (hb); have n3_ := Aside0.mk (ho); clear HO_3; clear HO_31; clear HB; clear HO_4; have HO_3 := n0_; have HO_31 := n1_; have HB := n2_; have HO567 := n3_; clear n0_ n1_ n2_ n3_; clear ho hb hg hat))
               go_roundg k2
               case measure => have := HK1.out; have := HK2.out; omega
               case rel => exact ⟨(y565), H', ⟨by have := HK1.out; have := HK2.out; omega⟩, ⟨by (with_reducible repeat (first | apply Kd.R_alloc | apply Kd.R_drewN | apply Kd.R_drew)); exact Kd.R_mono HO_3.out (fun _ hk => hk.2)⟩, ⟨by (with_reducible repeat (first | apply Kd.R_alloc | apply Kd.R_drewN | apply Kd.R_drew)); exact Kd.R_mono HO567.out (fun _ hk => hk.1)⟩, ⟨zB⟩⟩
              ·rw [if_neg c22] at H
               exact absurd H (by simp)
             ·rw [if_neg c21] at H
              have c21b0 : (t564 == 0) = false := beq_eq_false_iff_ne.mpr c21
              have c21b1 : (t564 != 0) = true := bne_iff_ne.mpr c21
              have H' := Aside0.mk H
              clear H
              have p563 : 0 ≤ (x33_2 : Int) := zA
              have q563 : x33_2 < (t555.length : Int) := zA
              obtain ⟨ad563, e563, hx563_0⟩ := Kd.at_int (Kd.R_reads' HO_31.out).2.2 x33_2 p563 q563
              obtain rfl : ad558 = ad563 := (by injection e563)
              replace p563 := eq_true p563
              replace q563 := eq_true q563
              go_wp2_with (first | (go_at_call 43; (with_reducible refine (impl_chi_left.calls k2 _ l0 (rd t555 x33_2) (rd x4_1 (ji12)) t564 _ ?side1 ?side2 A20.out).mono ?_); (case side1 => repeat (first | exact (Kd.C_below HR0.out HB.out) | (with_reducible refine Kd.C_alloc ?_ _) | (with_reducible refine Kd.C_drewN ?_ _) | (with_reducible refine Kd.C_drew ?_))); (case side2 => exact HC0.out); rintro e w' ⟨rfl, ⟨nd, rfl⟩⟩))
              go_roundg k2
              case measure => have := HK1.out; have := HK2.out; omega
              case rel => exact ⟨(x4_2), (wrap64 (x33_2 + 1)), zF, H', ⟨by have := HK1.out; have := HK2.out; omega⟩, ⟨zR HO_3.out⟩, ⟨zR HO_4.out⟩, ⟨zR HO_31.out⟩, ⟨zB⟩⟩
           ·rw [if_neg c18] at H
            exact absurd H (by simp)
          ·rw [if_neg c17] at H
           exact absurd H (by simp)
         ·rw [if_neg c16] at H
          have c16b0 : decide (x33_2 < (t555.length : Int)) = false := decide_eq_false c16
          clear c16
          have H' := Aside0.mk H
          clear H
          go_wp2
          go_roundg k2
          case measure => have := HK1.out; have := HK2.out; omega
          case rel => exact ⟨(x4_2), H', ⟨by have := HK1.out; have := HK2.out; omega⟩, ⟨zR HO_3.out⟩, ⟨by (with_reducible repeat (first | apply Kd.R_alloc | apply Kd.R_drewN | apply Kd.R_drew)); exact Kd.R_mono HO_4.out (fun _ hk => hk.1)⟩, ⟨zB⟩⟩
      ·rw [if_neg c14] at H
       exact absurd H (by simp)
     ·rw [if_neg c13] at H
      exact absurd H (by simp)
    ·rw [if_neg c11] at H
     have c11b0 : decide ((x4_1.length : Int) < (t555.length : Int)) = false := decide_eq_false c11
     have c11b1 : decide (x4_1.length < t555.length) = false := decide_eq_false (fun h => c11 (Int.ofNat_lt.mpr h))
     clear c11
     obtain rfl := Option.some.inj H
     obtain ⟨Ao24, co24, eo24⟩ := Kd.R_slice HO_4.out
     subst eo24
     go_wp2
     go_ret
     exact ⟨_, zE, by (with_reducible repeat (first | apply Kd.R_alloc | apply Kd.R_drewN | apply Kd.R_drew)); exact Kd.R_mono HO_4.out (fun _ hk => trivial), zB⟩
 ·rw [if_neg c5] at H
  exact absurd H (by simp)
/-! ### impl_HullOf: function 33 -/
def impl_HullOf.f (k : Nat) (a0_0 : Int) (a0_1 : ByteArray) : Option (List Int) := (impl_orderOf.f k a0_0 a0_1).bind fun bt569 => (if bt569.2 = true then (if bt569.1.length = 344 then ((impl_chi_hull.f k bt569.1).bind fun t573 => (some t573)) else (none)) else (some ([] : List Int)))
theorem impl_HullOf.mono : ∀ a0 a1 k, LeO (impl_HullOf.f k a0 a1) (impl_HullOf.f (k + 1) a0 a1) := by
 intro a0 a1 k
 unfold impl_HullOf.f
 repeat' first
   | (with_reducible exact impl_chi_hull.mono _ _)
   | (with_reducible exact impl_orderOf.mono _ _ _)
   | (with_reducible exact LeO.refl _)
   | (with_reducible exact LeO.none _)
   | (with_reducible refine LeO.ite ?_ ?_)
   | (with_reducible refine LeO.bind ?_ (fun _ => ?_))
   | exact impl_chi_hull.mono _ _
   | exact impl_orderOf.mono _ _ _
   | exact LeO.none _
   | refine LeO.ite ?_ ?_
   | refine LeO.bind ?_ (fun _ => ?_)
set_option maxHeartbeats 8000000 in
set_option maxRecDepth 100000 in
theorem impl_HullOf.calls (k : Nat) (a0_0 : Int) (a0_1 : ByteArray) (r : List Int) (w : World) (h : impl_HullOf.f k a0_0 a0_1 = some r) :
  Calls Try.prog 33 #[.agg #[.int .i64 a0_0, .string a0_1]] w fun e w' => ∃ v0_ : Value, e = .returned (v0_) ∧ Kd.R (Kd.int .i64) 3 w' w.heap.size (fun _ => True) v0_ r ∧ Below w.heap.size w w' := by
 have hu26 := Try.underlying26
 have HB := Aside0.mk (Below.refl w.heap.size w)
 have H : ((impl_orderOf.f k a0_0 a0_1).bind fun bt569 => (if bt569.2 = true then (if bt569.1.length = 344 then ((impl_chi_hull.f k bt569.1).bind fun t573 => (some t573)) else (none)) else (some ([] : List Int)))) = some r := h
 clear h
 replace H := Option.bind_eq_some_iff.mp H
 obtain ⟨⟨t569, t572⟩, A20, H⟩ := H
 replace H : (if t572 = true then (if t569.length = 344 then ((impl_chi_hull.f k t569).bind fun t573 => (some t573)) else (none)) else (some ([] : List Int))) = some r := H
 have A2 := Aside0.mk A20
 clear A20
 by_cases c3 : t572 = true
 ·subst c3
  have H1 : (if t569.length = 344 then ((impl_chi_hull.f k t569).bind fun t573 => (some t573)) else (none)) = some r := by rw [if_pos rfl] at H; exact H
  clear H
  have H := H1
  clear H1
  by_cases c4 : t569.length = 344
  ·rw [if_pos c4] at H
   have c4b0 := eq_true c4
   have c4b1 : decide (t569.length = 344) = true := decide_eq_true c4
   clear c4
   replace H := Option.bind_eq_some_iff.mp H
   obtain ⟨t573, A50, H⟩ := H
   replace H : (some t573) = some r := H
   have A5 := Aside0.mk A50
   clear A50
   obtain rfl := Option.some.inj H
   go_enter Try.func33, Try.ntmps33
   go_wp2_with (first | ((with_reducible refine gate_dst (N := 1) rfl ?_); refine box_event ?hg (N := 1) ?hd (cs := #[.int .i64 a0_0, .string a0_1]) (t := 26) ?hr ?_; (case hd => rfl); (case hg => rfl); (case hr => first | (go_simp; done) | (go_simp; rfl)); intro gb568 hg w6 hbox hb; have BK568 := Aside0.mk (hbox); have GW568 := Aside0.mk ((by rw [hg]; exact (below_size zB) : w.heap.size ≤ gb568)); have GE568 := Aside0.mk ((by rw [hg]; exact (below_size zB) : w.heap.size ≤ gb568)); replace HB := Aside0.mk (below_step zB hb); clear hb hbox hg; have hcz7_0 : w6.cell? ⟨gb568, 0, none⟩ = some (.int .i64 a0_0) := (blk_cell BK568.out 0).trans rfl; have hcz7_1 : w6.cell? ⟨gb568, 1, none⟩ = some (.string a0_1) := (blk_cell BK568.out 1).trans rfl; have hfz7_0 := blk_frozen BK568.out 0; have hfz7_1 := blk_frozen BK568.out 1) | ((with_reducible refine gate_callee (f := 41) rfl ?_); refine goesL_ (some 7) rfl rfl Try.func41 (by kernel_rfl) rfl #[.agg #[.int .i64 a0_0, .string a0_1]] rfl zM ?_; (with_reducible refine (impl_orderOf.calls k a0_0 a0_1 t569 true _ A2.out).mono ?_); rintro e w8 ⟨v570, rfl, ho0, hb⟩; refine ⟨_, rfl, ?_⟩; have HO571 := Aside0.mk (Kd.R_lower ho0 (below_size (zG GE568.out))); replace BK568 := Aside0.mk (blk_below (g := gb568) (o := .cells #[.int .i64 a0_0, .string a0_1] 26 (0, 0)) (zK BK568.out) hb); replace HB := Aside0.mk (below_step (zG GE568.out) hb); (try clear hb); (try clear ho0); obtain ⟨go9, co9, eo9, gb9, gl9, cl9, HG9⟩ := Kd.R_form HO571.out (by have hl_ := Nat.le_of_eq (Eq.symm (zA : t569.length = 344)); omega); (first | cases eo9 | (injection eo9 with ea_ en_ ec_; (first | subst ea_ | (injection ea_ with ea_; subst ea_)); subst ec_; clear en_)); have GB9 := Aside0.mk gb9; have GG9 := Aside0.mk HG9; clear gb9 gl9 HG9) | ((with_reducible refine gate_callee (f := 53) rfl ?_); refine goesL_ (some 13) rfl rfl Try.func53 (by kernel_rfl) rfl #[.pointer (some ⟨go9, 0, none⟩)] rfl zM ?_; (with_reducible refine (impl_chi_hull.calls k _ t569 t573 _ ?side1 ?side2 A5.out).mono ?_); (case side1 => repeat (first | exact (Kd.R_reads' HO571.out).2.2 | (with_reducible refine Kd.C_alloc ?_ _) | (with_reducible refine Kd.C_drewN ?_ _) | (with_reducible refine Kd.C_drew ?_))); (case side2 => exact (zA : t569.length = 344)); rintro e w10 ⟨v574, rfl, ho0, hb⟩; refine ⟨_, rfl, ?_⟩; replace HO571 := Aside0.mk (Kd.R_below (zR HO571.out) hb); have HO575 := Aside0.mk (Kd.R_lower ho0 (below_size (zG GE568.out))); replace BK568 := Aside0.mk (blk_below (g := gb568) (o := .cells #[.int .i64 a0_0, .string a0_1] 26 (0, 0)) (zK BK568.out) hb); replace HB := Aside0.mk (below_step (zG GE568.out) hb); (try clear hb); (try clear ho0)))
   go_ret
   exact ⟨_, zE, zR HO575.out, zG GE568.out⟩
  ·rw [if_neg c4] at H
   exact absurd H (by simp)
 ·replace c3 := Bool.eq_false_iff.mpr c3
  subst c3
  have H1 : (some ([] : List Int)) = some r := by rw [if_neg (show ¬ (false = true) by decide)] at H; exact H
  clear H
  have H := H1
  clear H1
  obtain rfl := Option.some.inj H
  go_enter Try.func33, Try.ntmps33
  go_wp2_with (first | ((with_reducible refine gate_dst (N := 1) rfl ?_); refine box_event ?hg (N := 1) ?hd (cs := #[.int .i64 a0_0, .string a0_1]) (t := 26) ?hr ?_; (case hd => rfl); (case hg => rfl); (case hr => first | (go_simp; done) | (go_simp; rfl)); intro gb568 hg w11 hbox hb; have BK568 := Aside0.mk (hbox); have GW568 := Aside0.mk ((by rw [hg]; exact (below_size zB) : w.heap.size ≤ gb568)); have GE568 := Aside0.mk ((by rw [hg]; exact (below_size zB) : w.heap.size ≤ gb568)); replace HB := Aside0.mk (below_step zB hb); clear hb hbox hg; have hcz12_0 : w11.cell? ⟨gb568, 0, none⟩ = some (.int .i64 a0_0) := (blk_cell BK568.out 0).trans rfl; have hcz12_1 : w11.cell? ⟨gb568, 1, none⟩ = some (.string a0_1) := (blk_cell BK568.out 1).trans rfl; have hfz12_0 := blk_frozen BK568.out 0; have hfz12_1 := blk_frozen BK568.out 1) | ((with_reducible refine gate_callee (f := 41) rfl ?_); refine goesL_ (some 7) rfl rfl Try.func41 (by kernel_rfl) rfl #[.agg #[.int .i64 a0_0, .string a0_1]] rfl zM ?_; (with_reducible refine (impl_orderOf.calls k a0_0 a0_1 t569 false _ A2.out).mono ?_); rintro e w13 ⟨v570, rfl, ho0, hb⟩; refine ⟨_, rfl, ?_⟩; have HO571 := Aside0.mk (Kd.R_lower ho0 (below_size (zG GE568.out))); replace BK568 := Aside0.mk (blk_below (g := gb568) (o := .cells #[.int .i64 a0_0, .string a0_1] 26 (0, 0)) (zK BK568.out) hb); replace HB := Aside0.mk (below_step (zG GE568.out) hb); (try clear hb); (try clear ho0)))
  go_ret
  exact ⟨_, zE, by first | exact Kd.R_nil _ _ _ _ _ | exact Kd.N_nil _ _ _ _ _ | exact Kd.V_nil _ _ _ _ _ | exact Kd.Q_nil _ _ _ _ _ | exact Kd.S_nil _ _ _ _ _, zG GE568.out⟩
/-! ### laws_FnExactHullOf: function 9 -/
def laws_FnExactHullOf.f (k : Nat) (a0_0 : Int) (a0_1 : ByteArray) : Option (Bool) := (laws_szSigns.f a0_0 a0_1 1048576).bind fun t577 => (if t577 < 0 then (some true) else ((laws_toSigns.f a0_0 a0_1).bind fun bt578 => ((spec_HullOf.f k bt578.1 bt578.2).bind fun t580 => ((laws_toSigns.f a0_0 a0_1).bind fun bt583 => ((impl_HullOf.f k bt583.1 bt583.2).bind fun t585 => ((laws_eqIntS.f k t585 t580).bind fun t588 => (if t588 = true then ((laws_markIntS.f k t585 1).bind fun bt589 => ((laws_heldIntS.f k bt589.2 1).bind fun t591 => (if t591 < 0 then (some false) else (if t591 = bt589.1 then ((laws_toSigns.f a0_0 a0_1).bind fun bt592 => ((impl_HullOf.f k bt592.1 bt592.2).bind fun t594 => ((laws_eqIntS.f k t594 t580).bind fun t597 => (if t597 = true then ((laws_heldIntS.f k bt589.2 1).bind fun t598 => (if t598 < 0 then (some false) else (if t598 = bt589.1 then (some true) else (some false)))) else (some false))))) else (some false))))) else (some false))))))))
theorem laws_FnExactHullOf.mono : ∀ a0 a1 k, LeO (laws_FnExactHullOf.f k a0 a1) (laws_FnExactHullOf.f (k + 1) a0 a1) := by
 intro a0 a1 k
 unfold laws_FnExactHullOf.f
 repeat' first
   | (with_reducible exact impl_HullOf.mono _ _ _)
   | (with_reducible exact laws_eqIntS.mono _ _ _)
   | (with_reducible exact laws_heldIntS.mono _ _ _)
   | (with_reducible exact laws_markIntS.mono _ _ _)
   | (with_reducible exact spec_HullOf.mono _ _ _)
   | (with_reducible exact LeO.refl _)
   | (with_reducible exact LeO.none _)
   | (with_reducible refine LeO.ite ?_ ?_)
   | (with_reducible refine LeO.bind ?_ (fun _ => ?_))
   | exact impl_HullOf.mono _ _ _
   | exact laws_eqIntS.mono _ _ _
   | exact laws_heldIntS.mono _ _ _
   | exact laws_markIntS.mono _ _ _
   | exact spec_HullOf.mono _ _ _
   | exact LeO.none _
   | refine LeO.ite ?_ ?_
   | refine LeO.bind ?_ (fun _ => ?_)
set_option maxHeartbeats 8000000 in
set_option maxRecDepth 100000 in
theorem laws_FnExactHullOf.calls (k : Nat) (a0_0 : Int) (a0_1 : ByteArray) (r : Bool) (w : World) (h : laws_FnExactHullOf.f k a0_0 a0_1 = some r) (hr_ : r = true) :
  Calls Try.prog 9 #[.agg #[.int .i64 a0_0, .string a0_1]] w fun e w' => e = .returned (.bool r) ∧ Below w.heap.size w w' := by
 have hu23 := Try.underlying23
 have HB := Aside0.mk (Below.refl w.heap.size w)
 have H : ((laws_szSigns.f a0_0 a0_1 1048576).bind fun t577 => (if t577 < 0 then (some true) else ((laws_toSigns.f a0_0 a0_1).bind fun bt578 => ((spec_HullOf.f k bt578.1 bt578.2).bind fun t580 => ((laws_toSigns.f a0_0 a0_1).bind fun bt583 => ((impl_HullOf.f k bt583.1 bt583.2).bind fun t585 => ((laws_eqIntS.f k t585 t580).bind fun t588 => (if t588 = true then ((laws_markIntS.f k t585 1).bind fun bt589 => ((laws_heldIntS.f k bt589.2 1).bind fun t591 => (if t591 < 0 then (some false) else (if t591 = bt589.1 then ((laws_toSigns.f a0_0 a0_1).bind fun bt592 => ((impl_HullOf.f k bt592.1 bt592.2).bind fun t594 => ((laws_eqIntS.f k t594 t580).bind fun t597 => (if t597 = true then ((laws_heldIntS.f k bt589.2 1).bind fun t598 => (if t598 < 0 then (some false) else (if t598 = bt589.1 then (some true) else (some false)))) else (some false))))) else (some false))))) else (some false))))))))) = some r := h
 clear h
 replace H := Option.bind_eq_some_iff.mp H
 obtain ⟨t577, A20, H⟩ := H
 replace H : (if t577 < 0 then (some true) else ((laws_toSigns.f a0_0 a0_1).bind fun bt578 => ((spec_HullOf.f k bt578.1 bt578.2).bind fun t580 => ((laws_toSigns.f a0_0 a0_1).bind fun bt583 => ((impl_HullOf.f k bt583.1 bt583.2).bind fun t585 => ((laws_eqIntS.f k t585 t580).bind fun t588 => (if t588 = true then ((laws_markIntS.f k t585 1).bind fun bt589 => ((laws_heldIntS.f k bt589.2 1).bind fun t591 => (if t591 < 0 then (some false) else (if t591 = bt589.1 then ((laws_toSigns.f a0_0 a0_1).bind fun bt592 => ((impl_HullOf.f k bt592.1 bt592.2).bind fun t594 => ((laws_eqIntS.f k t594 t580).bind fun t597 => (if t597 = true then ((laws_heldIntS.f k bt589.2 1).bind fun t598 => (if t598 < 0 then (some false) else (if t598 = bt589.1 then (some true) else (some false)))) else (some false))))) else (some false))))) else (some false)))))))) = some r := H
 have A2 := Aside0.mk A20
 clear A20
 by_cases c3 : t577 < 0
 ·rw [if_pos c3] at H
  have c3b0 : decide (t577 < 0) = true := decide_eq_true c3
  clear c3
  obtain rfl := Option.some.inj H
  go_enter Try.func9, Try.ntmps9
  go_wp2_with (first | ((with_reducible refine gate_dst (N := 1) rfl ?_); refine box_event ?hg (N := 1) ?hd (cs := #[.int .i64 a0_0, .string a0_1]) (t := 23) ?hr ?_; (case hd => rfl); (case hg => rfl); (case hr => first | (go_simp; done) | (go_simp; rfl)); intro gb576 hg w4 hbox hb; have BK576 := Aside0.mk (hbox); have GW576 := Aside0.mk ((by rw [hg]; exact (below_size zB) : w.heap.size ≤ gb576)); have GE576 := Aside0.mk ((by rw [hg]; exact (below_size zB) : w.heap.size ≤ gb576)); replace HB := Aside0.mk (below_step zB hb); clear hb hbox hg; have hcz5_0 : w4.cell? ⟨gb576, 0, none⟩ = some (.int .i64 a0_0) := (blk_cell BK576.out 0).trans rfl; have hcz5_1 : w4.cell? ⟨gb576, 1, none⟩ = some (.string a0_1) := (blk_cell BK576.out 1).trans rfl; have hfz5_0 := blk_frozen BK576.out 0; have hfz5_1 := blk_frozen BK576.out 1) | ((with_reducible refine gate_callee (f := 12) rfl ?_); refine goesL_ (some 11) rfl rfl Try.func12 (by kernel_rfl) rfl #[.agg #[.int .i64 a0_0, .string a0_1], .int .i64 1048576] rfl zM ?_; (with_reducible refine (laws_szSigns.calls a0_0 a0_1 1048576 t577 _ A2.out).mono ?_); rintro e w6 ⟨rfl, hb⟩; refine ⟨_, rfl, ?_⟩; replace BK576 := Aside0.mk (blk_below (g := gb576) (o := .cells #[.int .i64 a0_0, .string a0_1] 23 (0, 0)) (zK BK576.out) hb); replace HB := Aside0.mk (below_step (zG GE576.out) hb); (try clear hb)))
  go_ret
  exact ⟨zE, zG GE576.out⟩
 ·rw [if_neg c3] at H
  have c3b0 : decide (t577 < 0) = false := decide_eq_false c3
  clear c3
  replace H := Option.bind_eq_some_iff.mp H
  obtain ⟨⟨t578, t579⟩, A70, H⟩ := H
  replace H : ((spec_HullOf.f k t578 t579).bind fun t580 => ((laws_toSigns.f a0_0 a0_1).bind fun bt583 => ((impl_HullOf.f k bt583.1 bt583.2).bind fun t585 => ((laws_eqIntS.f k t585 t580).bind fun t588 => (if t588 = true then ((laws_markIntS.f k t585 1).bind fun bt589 => ((laws_heldIntS.f k bt589.2 1).bind fun t591 => (if t591 < 0 then (some false) else (if t591 = bt589.1 then ((laws_toSigns.f a0_0 a0_1).bind fun bt592 => ((impl_HullOf.f k bt592.1 bt592.2).bind fun t594 => ((laws_eqIntS.f k t594 t580).bind fun t597 => (if t597 = true then ((laws_heldIntS.f k bt589.2 1).bind fun t598 => (if t598 < 0 then (some false) else (if t598 = bt589.1 then (some true) else (some false)))) else (some false))))) else (some false))))) else (some false)))))) = some r := H
  have A7 := Aside0.mk A70
  clear A70
  replace H := Option.bind_eq_some_iff.mp H
  obtain ⟨t580, A80, H⟩ := H
  replace H : ((laws_toSigns.f a0_0 a0_1).bind fun bt583 => ((impl_HullOf.f k bt583.1 bt583.2).bind fun t585 => ((laws_eqIntS.f k t585 t580).bind fun t588 => (if t588 = true then ((laws_markIntS.f k t585 1).bind fun bt589 => ((laws_heldIntS.f k bt589.2 1).bind fun t591 => (if t591 < 0 then (some false) else (if t591 = bt589.1 then ((laws_toSigns.f a0_0 a0_1).bind fun bt592 => ((impl_HullOf.f k bt592.1 bt592.2).bind fun t594 => ((laws_eqIntS.f k t594 t580).bind fun t597 => (if t597 = true then ((laws_heldIntS.f k bt589.2 1).bind fun t598 => (if t598 < 0 then (some false) else (if t598 = bt589.1 then (some true) else (some false)))) else (some false))))) else (some false))))) else (some false))))) = some r := H
  have A8 := Aside0.mk A80
  clear A80
  replace H := Option.bind_eq_some_iff.mp H
  obtain ⟨⟨t583, t584⟩, A90, H⟩ := H
  replace H : ((impl_HullOf.f k t583 t584).bind fun t585 => ((laws_eqIntS.f k t585 t580).bind fun t588 => (if t588 = true then ((laws_markIntS.f k t585 1).bind fun bt589 => ((laws_heldIntS.f k bt589.2 1).bind fun t591 => (if t591 < 0 then (some false) else (if t591 = bt589.1 then ((laws_toSigns.f a0_0 a0_1).bind fun bt592 => ((impl_HullOf.f k bt592.1 bt592.2).bind fun t594 => ((laws_eqIntS.f k t594 t580).bind fun t597 => (if t597 = true then ((laws_heldIntS.f k bt589.2 1).bind fun t598 => (if t598 < 0 then (some false) else (if t598 = bt589.1 then (some true) else (some false)))) else (some false))))) else (some false))))) else (some false)))) = some r := H
  have A9 := Aside0.mk A90
  clear A90
  replace H := Option.bind_eq_some_iff.mp H
  obtain ⟨t585, A100, H⟩ := H
  replace H : ((laws_eqIntS.f k t585 t580).bind fun t588 => (if t588 = true then ((laws_markIntS.f k t585 1).bind fun bt589 => ((laws_heldIntS.f k bt589.2 1).bind fun t591 => (if t591 < 0 then (some false) else (if t591 = bt589.1 then ((laws_toSigns.f a0_0 a0_1).bind fun bt592 => ((impl_HullOf.f k bt592.1 bt592.2).bind fun t594 => ((laws_eqIntS.f k t594 t580).bind fun t597 => (if t597 = true then ((laws_heldIntS.f k bt589.2 1).bind fun t598 => (if t598 < 0 then (some false) else (if t598 = bt589.1 then (some true) else (some false)))) else (some false))))) else (some false))))) else (some false))) = some r := H
  have A10 := Aside0.mk A100
  clear A100
  replace H := Option.bind_eq_some_iff.mp H
  obtain ⟨t588, A110, H⟩ := H
  replace H : (if t588 = true then ((laws_markIntS.f k t585 1).bind fun bt589 => ((laws_heldIntS.f k bt589.2 1).bind fun t591 => (if t591 < 0 then (some false) else (if t591 = bt589.1 then ((laws_toSigns.f a0_0 a0_1).bind fun bt592 => ((impl_HullOf.f k bt592.1 bt592.2).bind fun t594 => ((laws_eqIntS.f k t594 t580).bind fun t597 => (if t597 = true then ((laws_heldIntS.f k bt589.2 1).bind fun t598 => (if t598 < 0 then (some false) else (if t598 = bt589.1 then (some true) else (some false)))) else (some false))))) else (some false))))) else (some false)) = some r := H
  have A11 := Aside0.mk A110
  clear A110
  by_cases c12 : t588 = true
  ·subst c12
   have H1 : ((laws_markIntS.f k t585 1).bind fun bt589 => ((laws_heldIntS.f k bt589.2 1).bind fun t591 => (if t591 < 0 then (some false) else (if t591 = bt589.1 then ((laws_toSigns.f a0_0 a0_1).bind fun bt592 => ((impl_HullOf.f k bt592.1 bt592.2).bind fun t594 => ((laws_eqIntS.f k t594 t580).bind fun t597 => (if t597 = true then ((laws_heldIntS.f k bt589.2 1).bind fun t598 => (if t598 < 0 then (some false) else (if t598 = bt589.1 then (some true) else (some false)))) else (some false))))) else (some false))))) = some r := by rw [if_pos rfl] at H; exact H
   clear H
   have H := H1
   clear H1
   replace H := Option.bind_eq_some_iff.mp H
   obtain ⟨⟨t589, t590⟩, A130, H⟩ := H
   replace H : ((laws_heldIntS.f k t590 1).bind fun t591 => (if t591 < 0 then (some false) else (if t591 = t589 then ((laws_toSigns.f a0_0 a0_1).bind fun bt592 => ((impl_HullOf.f k bt592.1 bt592.2).bind fun t594 => ((laws_eqIntS.f k t594 t580).bind fun t597 => (if t597 = true then ((laws_heldIntS.f k t590 1).bind fun t598 => (if t598 < 0 then (some false) else (if t598 = t589 then (some true) else (some false)))) else (some false))))) else (some false)))) = some r := H
   have A13 := Aside0.mk A130
   clear A130
   replace H := Option.bind_eq_some_iff.mp H
   obtain ⟨t591, A140, H⟩ := H
   replace H : (if t591 < 0 then (some false) else (if t591 = t589 then ((laws_toSigns.f a0_0 a0_1).bind fun bt592 => ((impl_HullOf.f k bt592.1 bt592.2).bind fun t594 => ((laws_eqIntS.f k t594 t580).bind fun t597 => (if t597 = true then ((laws_heldIntS.f k t590 1).bind fun t598 => (if t598 < 0 then (some false) else (if t598 = t589 then (some true) else (some false)))) else (some false))))) else (some false))) = some r := H
   have A14 := Aside0.mk A140
   clear A140
   by_cases c15 : t591 < 0
   ·rw [if_pos c15] at H
    have c15b0 : decide (t591 < 0) = true := decide_eq_true c15
    clear c15
    obtain rfl := Option.some.inj H
    cases hr_
   ·rw [if_neg c15] at H
    have c15b0 : decide (t591 < 0) = false := decide_eq_false c15
    clear c15
    by_cases c28 : t591 = t589
    ·rw [if_pos c28] at H
     have c28b0 : (t591 == t589) = true := beq_iff_eq.mpr c28
     have c28b1 : (t591 != t589) = false := bne_eq_false_iff_eq.mpr c28
     clear c28
     replace H := Option.bind_eq_some_iff.mp H
     obtain ⟨⟨t592, t593⟩, A290, H⟩ := H
     replace H : ((impl_HullOf.f k t592 t593).bind fun t594 => ((laws_eqIntS.f k t594 t580).bind fun t597 => (if t597 = true then ((laws_heldIntS.f k t590 1).bind fun t598 => (if t598 < 0 then (some false) else (if t598 = t589 then (some true) else (some false)))) else (some false)))) = some r := H
     have A29 := Aside0.mk A290
     clear A290
     replace H := Option.bind_eq_some_iff.mp H
     obtain ⟨t594, A300, H⟩ := H
     replace H : ((laws_eqIntS.f k t594 t580).bind fun t597 => (if t597 = true then ((laws_heldIntS.f k t590 1).bind fun t598 => (if t598 < 0 then (some false) else (if t598 = t589 then (some true) else (some false)))) else (some false))) = some r := H
     have A30 := Aside0.mk A300
     clear A300
     replace H := Option.bind_eq_some_iff.mp H
     obtain ⟨t597, A310, H⟩ := H
     replace H : (if t597 = true then ((laws_heldIntS.f k t590 1).bind fun t598 => (if t598 < 0 then (some false) else (if t598 = t589 then (some true) else (some false)))) else (some false)) = some r := H
     have A31 := Aside0.mk A310
     clear A310
     by_cases c32 : t597 = true
     ·subst c32
      have H1 : ((laws_heldIntS.f k t590 1).bind fun t598 => (if t598 < 0 then (some false) else (if t598 = t589 then (some true) else (some false)))) = some r := by rw [if_pos rfl] at H; exact H
      clear H
      have H := H1
      clear H1
      replace H := Option.bind_eq_some_iff.mp H
      obtain ⟨t598, A330, H⟩ := H
      replace H : (if t598 < 0 then (some false) else (if t598 = t589 then (some true) else (some false))) = some r := H
      have A33 := Aside0.mk A330
      clear A330
      by_cases c34 : t598 < 0
      ·rw [if_pos c34] at H
       have c34b0 : decide (t598 < 0) = true := decide_eq_true c34
       clear c34
       obtain rfl := Option.some.inj H
       cases hr_
      ·rw [if_neg c34] at H
       have c34b0 : decide (t598 < 0) = false := decide_eq_false c34
       clear c34
       by_cases c51 : t598 = t589
       ·rw [if_pos c51] at H
        have c51b0 : (t598 == t589) = true := beq_iff_eq.mpr c51
        have c51b1 : (t598 != t589) = false := bne_eq_false_iff_eq.mpr c51
        clear c51
        obtain rfl := Option.some.inj H
        go_enter Try.func9, Try.ntmps9
        go_wp2_with (first | ((with_reducible refine gate_dst (N := 1) rfl ?_); refine box_event ?hg (N := 1) ?hd (cs := #[.int .i64 a0_0, .string a0_1]) (t := 23) ?hr ?_; (case hd => rfl); (case hg => rfl); (case hr => first | (go_simp; done) | (go_simp; rfl)); intro gb576 hg w52 hbox hb; have BK576 := Aside0.mk (hbox); have GW576 := Aside0.mk ((by rw [hg]; exact (below_size zB) : w.heap.size ≤ gb576)); have GE576 := Aside0.mk ((by rw [hg]; exact (below_size zB) : w.heap.size ≤ gb576)); replace HB := Aside0.mk (below_step zB hb); clear hb hbox hg; have hcz53_0 : w52.cell? ⟨gb576, 0, none⟩ = some (.int .i64 a0_0) := (blk_cell BK576.out 0).trans rfl; have hcz53_1 : w52.cell? ⟨gb576, 1, none⟩ = some (.string a0_1) := (blk_cell BK576.out 1).trans rfl; have hfz53_0 := blk_frozen BK576.out 0; have hfz53_1 := blk_frozen BK576.out 1) | ((with_reducible refine gate_callee (f := 12) rfl ?_); refine goesL_ (some 11) rfl rfl Try.func12 (by kernel_rfl) rfl #[.agg #[.int .i64 a0_0, .string a0_1], .int .i64 1048576] rfl zM ?_; (with_reducible refine (laws_szSigns.calls a0_0 a0_1 1048576 t577 _ A2.out).mono ?_); rintro e w54 ⟨rfl, hb⟩; refine ⟨_, rfl, ?_⟩; replace BK576 := Aside0.mk (blk_below (g := gb576) (o := .cells #[.int .i64 a0_0, .string a0_1] 23 (0, 0)) (zK BK576.out) hb); replace HB := Aside0.mk (below_step (zG GE576.out) hb); (try clear hb); have hcz55_0 : w54.cell? ⟨gb576, 0, none⟩ = some (.int .i64 a0_0) := (blk_cell BK576.out 0).trans rfl; have hcz55_1 : w54.cell? ⟨gb576, 1, none⟩ = some (.string a0_1) := (blk_cell BK576.out 1).trans rfl; have hfz55_0 := blk_frozen BK576.out 0; have hfz55_1 := blk_frozen BK576.out 1) | ((with_reducible refine gate_callee (f := 14) rfl ?_); refine goesL_ (some 15) rfl rfl Try.func14 (by kernel_rfl) rfl #[.agg #[.int .i64 a0_0, .string a0_1]] rfl zM ?_; (with_reducible refine (laws_toSigns.calls a0_0 a0_1 t578 t579 _ A7.out).mono ?_); rintro e w56 ⟨rfl, hb⟩; refine ⟨_, rfl, ?_⟩; replace BK576 := Aside0.mk (blk_below (g := gb576) (o := .cells #[.int .i64 a0_0, .string a0_1] 23 (0, 0)) (zK BK576.out) hb); replace HB := Aside0.mk (below_step (zG GE576.out) hb); (try clear hb)) | ((with_reducible refine gate_callee (f := 32) rfl ?_); refine goesL_ (some 16) rfl rfl Try.func32 (by kernel_rfl) rfl #[.agg #[.int .i64 t578, .string t579]] rfl zM ?_; (with_reducible refine (spec_HullOf.calls k t578 t579 t580 _ A8.out).mono ?_); rintro e w57 ⟨v581, rfl, ho0, hb⟩; refine ⟨_, rfl, ?_⟩; have HO582 := Aside0.mk (Kd.R_lower ho0 (below_size (zG GE576.out))); replace BK576 := Aside0.mk (blk_below (g := gb576) (o := .cells #[.int .i64 a0_0, .string a0_1] 23 (0, 0)) (zK BK576.out) hb); replace HB := Aside0.mk (below_step (zG GE576.out) hb); (try clear hb); (try clear ho0); have hcz58_0 : w57.cell? ⟨gb576, 0, none⟩ = some (.int .i64 a0_0) := (blk_cell BK576.out 0).trans rfl; have hcz58_1 : w57.cell? ⟨gb576, 1, none⟩ = some (.string a0_1) := (blk_cell BK576.out 1).trans rfl; have hfz58_0 := blk_frozen BK576.out 0; have hfz58_1 := blk_frozen BK576.out 1) | ((with_reducible refine gate_callee (f := 14) rfl ?_); refine goesL_ (some 18) rfl rfl Try.func14 (by kernel_rfl) rfl #[.agg #[.int .i64 a0_0, .string a0_1]] rfl zM ?_; (with_reducible refine (laws_toSigns.calls a0_0 a0_1 t583 t584 _ A9.out).mono ?_); rintro e w59 ⟨rfl, hb⟩; refine ⟨_, rfl, ?_⟩; replace HO582 := Aside0.mk (Kd.R_below (zR HO582.out) hb); replace BK576 := Aside0.mk (blk_below (g := gb576) (o := .cells #[.int .i64 a0_0, .string a0_1] 23 (0, 0)) (zK BK576.out) hb); replace HB := Aside0.mk (below_step (zG GE576.out) hb); (try clear hb)) | ((with_reducible refine gate_callee (f := 33) rfl ?_); refine goesL_ (some 19) rfl rfl Try.func33 (by kernel_rfl) rfl #[.agg #[.int .i64 t583, .string t584]] rfl zM ?_; (with_reducible refine (impl_HullOf.calls k t583 t584 t585 _ A10.out).mono ?_); rintro e w60 ⟨v586, rfl, ho0, hb⟩; refine ⟨_, rfl, ?_⟩; have n0_ := Aside0.mk (Kd.R_elder' (zR HO582.out) (Kd.R_base ho0) hb); have n1_ := Aside0.mk (Kd.R_lower (Kd.R_new' ho0 (Kd.R_lt (zR HO582.out))) (below_size (zG GE576.out))); have n2_ := Aside0.mk (blk_below (g := gb576) (o := .cells #[.int .i64 a0_0, .string a0_1] 23 (0, 0)) (zK BK576.out) hb); have n3_ := Aside0.mk (below_step (zG GE576.out) hb); clear HO582; clear BK576; clear HB; have HO582 := n0_; have HO587 := n1_; have BK576 := n2_; have HB := n3_; clear n0_ n1_ n2_ n3_; (try clear hb); (try clear ho0); obtain ⟨Ao61, co61, eo61⟩ := Kd.R_slice HO587.out; subst eo61; obtain ⟨Ao62, co62, eo62⟩ := Kd.R_slice HO582.out; subst eo62) | ((with_reducible refine gate_callee (f := 23) rfl ?_); refine goesL_ (some 22) rfl rfl Try.func23 (by kernel_rfl) rfl #[.slice Ao61 t585.length co61, .slice Ao62 t580.length co62] rfl zM ?_; (with_reducible refine (laws_eqIntS.calls k _ _ t585 _ _ t580 true _ ?side1 ?side2 ?side3 ?side4 A11.out).mono ?_); (case side1 => repeat (first | exact (Kd.R_reads' HO587.out).2.2 | (with_reducible refine Kd.C_alloc ?_ _) | (with_reducible refine Kd.C_drewN ?_ _) | (with_reducible refine Kd.C_drew ?_))); (case side2 => exact (Kd.R_reads' HO587.out).2.1); (case side3 => repeat (first | exact (Kd.R_reads' HO582.out).2.2 | (with_reducible refine Kd.C_alloc ?_ _) | (with_reducible refine Kd.C_drewN ?_ _) | (with_reducible refine Kd.C_drew ?_))); (case side4 => exact (Kd.R_reads' HO582.out).2.1); rintro e w' ⟨rfl, ⟨nd, rfl⟩⟩; refine ⟨_, rfl, ?_⟩) | ((with_reducible refine gate_callee (f := 24) rfl ?_); refine goesL_ (some 26) rfl rfl Try.func24 (by kernel_rfl) rfl #[.slice Ao61 t585.length co61, .int .i64 1] rfl zM ?_; (with_reducible refine (laws_markIntS.calls k (fun k_ => some k_ = (.slice Ao61 t585.length co61 : Value).ownBlock) (.slice Ao61 t585.length co61) t585 1 t589 t590 w _ ?side1 ?side2 A13.out).mono ?_); (case side1 => repeat (first | (with_reducible first | exact HB.out | apply below_alloc | apply pw_below_drewN | apply below_drew1 | refine below_set ?_ GE576.out) | exact HB.out)); (case side2 => exact Kd.R_tight rfl HO587.out); rintro e w63 ⟨rfl, hy0, hb, hkp⟩; refine ⟨_, rfl, ?_⟩; replace BK576 := Aside0.mk (blk_kept (zK BK576.out) hkp (fun hs_ => (fun e_ => (Kd.R_ne HO587.out BK576.out (by decide)) e_) hs_)); replace HO582 := Aside0.mk (Kd.R_mono (ok' := fun k_ => some k_ ≠ (.slice Ao61 t585.length co61 : Value).ownBlock) (Kd.R_keptB (HO582.out) hkp (fun k_ hk_ hs_ => (hk_.2) hs_)) (fun k_ hk_ => hk_.1.2)); replace HO587 := Aside0.mk (Kd.R_reok rfl hy0 (fun k_ e_ => HO587.out.1 k_ e_)); replace HB := Aside0.mk (hb); (try clear hb); (try clear hkp); (try clear hy0)) | ((with_reducible refine gate_callee (f := 25) rfl ?_); refine goesL_ (some 29) rfl rfl Try.func25 (by kernel_rfl) rfl #[.slice Ao61 t590.length co61, .int .i64 1] rfl (by (try simp only [List.map_toArray, List.map_cons, List.map_nil]); first | done | (rw [show t590.length = t585.length from (Kd.R_reads' HO587.out).1.symm] <;> rfl) | rfl | (simp only [List.length_drop, List.length_take]; rfl)) ?_; (with_reducible refine (laws_heldIntS.calls k _ _ t590 1 t591 _ ?side1 ?side2 A14.out).mono ?_); (case side1 => repeat (first | exact (Kd.R_reads' HO587.out).2.2 | (with_reducible refine Kd.C_alloc ?_ _) | (with_reducible refine Kd.C_drewN ?_ _) | (with_reducible refine Kd.C_drew ?_))); (case side2 => rw [show t590.length = t585.length from (Kd.R_reads' HO587.out).1.symm]; exact (Kd.R_reads' HO587.out).2.1); rintro e w' ⟨rfl, ⟨nd, rfl⟩⟩; refine ⟨_, rfl, ?_⟩; have hcz64_0 : w63.cell? ⟨gb576, 0, none⟩ = some (.int .i64 a0_0) := (blk_cell BK576.out 0).trans rfl; have hcz64_1 : w63.cell? ⟨gb576, 1, none⟩ = some (.string a0_1) := (blk_cell BK576.out 1).trans rfl; have hfz64_0 := blk_frozen BK576.out 0; have hfz64_1 := blk_frozen BK576.out 1) | ((with_reducible refine gate_callee (f := 14) rfl ?_); refine goesL_ (some 36) rfl rfl Try.func14 (by kernel_rfl) rfl #[.agg #[.int .i64 a0_0, .string a0_1]] rfl zM ?_; (with_reducible refine (laws_toSigns.calls a0_0 a0_1 t592 t593 _ A29.out).mono ?_); rintro e w65 ⟨rfl, hb⟩; refine ⟨_, rfl, ?_⟩; replace HO582 := Aside0.mk (Kd.R_below (zR HO582.out) hb); replace HO587 := Aside0.mk (Kd.R_below (zR HO587.out) hb); replace BK576 := Aside0.mk (blk_below (g := gb576) (o := .cells #[.int .i64 a0_0, .string a0_1] 23 (0, 0)) (zK BK576.out) hb); replace HB := Aside0.mk (below_step (zG GE576.out) hb); (try clear hb)) | ((with_reducible refine gate_callee (f := 33) rfl ?_); refine goesL_ (some 37) rfl rfl Try.func33 (by kernel_rfl) rfl #[.agg #[.int .i64 t592, .string t593]] rfl zM ?_; (with_reducible refine (impl_HullOf.calls k t592 t593 t594 _ A30.out).mono ?_); rintro e w66 ⟨v595, rfl, ho0, hb⟩; refine ⟨_, rfl, ?_⟩; have n0_ := Aside0.mk (Kd.R_elder' (zR HO582.out) (Kd.R_base ho0) hb); have n1_ := Aside0.mk (Kd.R_elder' (zR HO587.out) (Kd.R_base ho0) hb); have n2_ := Aside0.mk (Kd.R_lower (Kd.R_new' (Kd.R_new' ho0 (Kd.R_lt (zR HO582.out))) (Kd.R_lt (zR HO587.out))) (below_size (zG GE576.out))); have n3_ := Aside0.mk (blk_below (g := gb576) (o := .cells #[.int .i64 a0_0, .string a0_1] 23 (0, 0)) (zK BK576.out) hb); have n4_ := Aside0.mk (below_step (zG GE576.out) hb); clear HO582; clear HO587; clear BK576; clear HB; have HO582 := n0_; have HO587 := n1_; have HO596 := n2_; have BK576 := n3_; have HB := n4_; clear n0_ n1_ n2_ n3_ n4_; (try clear hb); (try clear ho0); obtain ⟨Ao67, co67, eo67⟩ := Kd.R_slice HO596.out; subst eo67) | ((with_reducible refine gate_callee (f := 23) rfl ?_); refine goesL_ (some 40) rfl rfl Try.func23 (by kernel_rfl) rfl #[.slice Ao67 t594.length co67, .slice Ao62 t580.length co62] rfl zM ?_; (with_reducible refine (laws_eqIntS.calls k _ _ t594 _ _ t580 true _ ?side1 ?side2 ?side3 ?side4 A31.out).mono ?_); (case side1 => repeat (first | exact (Kd.R_reads' HO596.out).2.2 | (with_reducible refine Kd.C_alloc ?_ _) | (with_reducible refine Kd.C_drewN ?_ _) | (with_reducible refine Kd.C_drew ?_))); (case side2 => exact (Kd.R_reads' HO596.out).2.1); (case side3 => repeat (first | exact (Kd.R_reads' HO582.out).2.2 | (with_reducible refine Kd.C_alloc ?_ _) | (with_reducible refine Kd.C_drewN ?_ _) | (with_reducible refine Kd.C_drew ?_))); (case side4 => exact (Kd.R_reads' HO582.out).2.1); rintro e w' ⟨rfl, ⟨nd, rfl⟩⟩; refine ⟨_, rfl, ?_⟩) | ((with_reducible refine gate_callee (f := 25) rfl ?_); refine goesL_ (some 44) rfl rfl Try.func25 (by kernel_rfl) rfl #[.slice Ao61 t590.length co61, .int .i64 1] rfl (by (try simp only [List.map_toArray, List.map_cons, List.map_nil]); first | done | (rw [show t590.length = t585.length from (Kd.R_reads' HO587.out).1.symm] <;> rfl) | rfl | (simp only [List.length_drop, List.length_take]; rfl)) ?_; (with_reducible refine (laws_heldIntS.calls k _ _ t590 1 t598 _ ?side1 ?side2 A33.out).mono ?_); (case side1 => repeat (first | exact (Kd.R_reads' HO587.out).2.2 | (with_reducible refine Kd.C_alloc ?_ _) | (with_reducible refine Kd.C_drewN ?_ _) | (with_reducible refine Kd.C_drew ?_))); (case side2 => rw [show t590.length = t585.length from (Kd.R_reads' HO587.out).1.symm]; exact (Kd.R_reads' HO587.out).2.1); rintro e w' ⟨rfl, ⟨nd, rfl⟩⟩; refine ⟨_, rfl, ?_⟩))
        go_ret
        exact ⟨zE, zG GE576.out⟩
       ·rw [if_neg c51] at H
        have c51b0 : (t598 == t589) = false := beq_eq_false_iff_ne.mpr c51
        have c51b1 : (t598 != t589) = true := bne_iff_ne.mpr c51
        obtain rfl := Option.some.inj H
        cases hr_
     ·replace c32 := Bool.eq_false_iff.mpr c32
      subst c32
      have H1 : (some false) = some r := by rw [if_neg (show ¬ (false = true) by decide)] at H; exact H
      clear H
      have H := H1
      clear H1
      obtain rfl := Option.some.inj H
      cases hr_
    ·rw [if_neg c28] at H
     have c28b0 : (t591 == t589) = false := beq_eq_false_iff_ne.mpr c28
     have c28b1 : (t591 != t589) = true := bne_iff_ne.mpr c28
     obtain rfl := Option.some.inj H
     cases hr_
  ·replace c12 := Bool.eq_false_iff.mpr c12
   subst c12
   have H1 : (some false) = some r := by rw [if_neg (show ¬ (false = true) by decide)] at H; exact H
   clear H
   have H := H1
   clear H1
   obtain rfl := Option.some.inj H
   cases hr_
end Go.Proofs.Ytbjncemaeagjjaa.PX
namespace Go.Proofs.Ytbjncemaeagjjaa.M
open Go.RowKit Go.Proofs.YtbjncemaeagjjaaW.PrintWords Go.Proofs.Ytbjncemaeagjjaa.PX Go.Proofs.Ytbjncemaeagjjaa.G
/-- p sees no three in a ring. -/
def outer (n : Nat) (f : Nat → Nat → Nat → Int) (p : Nat) : Prop := p < n ∧ ∀ a b c, a < n → b < n → c < n → dist4 p a b c = true → ¬ ins f p a b c
/-- All others lie to the left of a and b. -/
def nx (n : Nat) (f : Nat → Nat → Nat → Int) (a b : Nat) : Prop := a < n ∧ b < n ∧ a ≠ b ∧ ∀ x, x < n → x ≠ a → x ≠ b → f a b x = 1
section
variable {n : Nat} {f : Nat → Nat → Nat → Int} (o : Ord n f)
include o
theorem Ord.three {a x y z : Nat} (ha : outer n f a) (hx : x < n) (hy : y < n) (hz : z < n) (hd : dist4 a x y z = true) (h1 : f a x y = 1) (h2 : f a y z = 1) : f a x z = 1 := by
  obtain ⟨e1, e2, e3, e4, e5, e6⟩ := dist4_iff.1 hd
  rcases o.pm a x z ha.1 hx hz e1 e5 e3 with h | h
  · exact h
  · exfalso
    refine ha.2 x y z hx hy hz hd ⟨by rw [h1, h2], ?_⟩
    rw [h2, o.s2 a x z ha.1 hx hz, h]
    rfl
theorem Ord.source {a : Nat} (ha : outer n f a) : ∀ k, k ≤ n → (∃ x, x < k ∧ x ≠ a) → ∃ s, s < k ∧ s ≠ a ∧ ∀ x, x < k → x ≠ a → x ≠ s → f a s x = 1 := by
  intro k
  induction k with
  | zero => rintro _ ⟨x, hx, _⟩; omega
  | succ k ih =>
    rintro hk ⟨x0, hx0, hxa⟩
    by_cases e : ∃ x, x < k ∧ x ≠ a
    · obtain ⟨s, hs, hsa, hall⟩ := ih (by omega) e
      by_cases ek : k = a
      · exact ⟨s, by omega, hsa, fun x hx h1 h2 => hall x (by omega) h1 h2⟩
      · rcases o.tot ha.1 (show s < n by omega) (show k < n by omega) (fun e => hsa e.symm) (fun e => ek e.symm) (by omega) with h | h
        · refine ⟨s, by omega, hsa, fun x hx h1 h2 => ?_⟩
          by_cases exk : x = k
          · subst exk; exact h
          · exact hall x (by omega) h1 h2
        · refine ⟨k, by omega, ek, fun x hx h1 h2 => ?_⟩
          by_cases exs : x = s
          · subst exs; exact h
          · exact o.three ha (show k < n by omega) (show s < n by omega) (show x < n by omega) (dist4_iff.2 ⟨fun e => ek e.symm, fun e => hsa e.symm, fun e => h1 e.symm, by omega, fun e => h2 e.symm, fun e => exs e.symm⟩) h (hall x (by omega) h1 exs)
    · obtain rfl : x0 = k := by
        refine Classical.byContradiction fun g => e ⟨x0, by omega, hxa⟩
      refine ⟨x0, by omega, hxa, fun x hx h1 h2 => ?_⟩
      exact absurd ⟨x, by omega, h1⟩ e
theorem Ord.nx_exists {a : Nat} (h3 : 3 ≤ n) (ha : outer n f a) : ∃ b, nx n f a b := by
  obtain ⟨s, hs, hsa, hall⟩ := o.source ha n (Nat.le_refl _) (by
    by_cases e : a = 0
    · exact ⟨1, by omega, by omega⟩
    · exact ⟨0, by omega, by omega⟩)
  exact ⟨s, ha.1, hs, fun e => hsa e.symm, fun x hx h1 h2 => hall x hx h1 h2⟩
theorem Ord.nx_out {a k : Nat} (ha : outer n f a) (h : nx n f a k) : outer n f k := by
  obtain ⟨han, hkn, hak, hall⟩ := h
  refine ⟨hkn, fun x y z hx hy hz hd hi => ?_⟩
  obtain ⟨e1, e2, e3, e4, e5, e6⟩ := dist4_iff.1 hd
  have atx : ∀ y z, y < n → z < n → dist4 k a y z = true → ¬ ins f k a y z := by
    intro y z hy hz hd hi
    obtain ⟨e1, e2, e3, e4, e5, e6⟩ := dist4_iff.1 hd
    have g1 := hall y hy (fun e => e4 e.symm) (fun e => e2 e.symm)
    have g2 := hall z hz (fun e => e5 e.symm) (fun e => e3 e.symm)
    have k1 := o.s1 a k y han hkn hy
    have k2 := (o.cyc han hkn hz).1
    obtain ⟨i1, i2⟩ := hi
    omega
  by_cases ea : x = a
  · subst ea; exact atx y z hy hz hd hi
  · by_cases eb : y = a
    · subst eb; exact atx z x hz hx (dist4_iff.2 ⟨e2, e3, e1, e6, fun e => e4 e.symm, fun e => e5 e.symm⟩) (ins_rot hi)
    · by_cases ec : z = a
      · subst ec; exact atx x y hx hy (dist4_iff.2 ⟨e3, e1, e2, fun e => e5 e.symm, fun e => e6 e.symm, e4⟩) (ins_rot (ins_rot hi))
      · have g1 := hall x hx ea (fun e => e1 e.symm)
        have g2 := hall y hy eb (fun e => e2 e.symm)
        have g3 := hall z hz ec (fun e => e3 e.symm)
        have fin : ∀ c d e, c < n → d < n → e < n → dist4 k c d e = true → c ≠ a → d ≠ a → e ≠ a → ins f k c d e → f a c d = 1 → f a d e = 1 → f a c e = 1 → f a k c = 1 → False := by
          intro c d e hc hd' he hdd c1 d1 e1 hi q1 q2 q3 gc
          have := (o.between han hc hd' he hkn hdd hak (fun e => c1 e.symm) (fun e => d1 e.symm) (fun x => e1 x.symm) hi q1 q2 q3).1
          have s := o.s2 a k c han hkn hc
          omega
        have nr : ¬ ins f a x y z := ha.2 x y z hx hy hz (dist4_iff.2 ⟨fun e => ea e.symm, fun e => eb e.symm, fun e => ec e.symm, e4, e5, e6⟩)
        have sxy := o.s2 a x y han hx hy
        have syz := o.s2 a y z han hy hz
        have sxz := o.s2 a x z han hx hz
        have hi' := o.ins_flip hkn hx hy hz hi
        rcases o.pm a x y han hx hy (fun e => ea e.symm) e4 (fun e => eb e.symm) with u | u <;> rcases o.pm a y z han hy hz (fun e => eb e.symm) e6 (fun e => ec e.symm) with v | v <;> rcases o.pm a x z han hx hz (fun e => ea e.symm) e5 (fun e => ec e.symm) with w | w
        · exact fin x y z hx hy hz hd ea eb ec hi u v w g1
        · exact nr ⟨by rw [u, v], by rw [v, sxz, w]; rfl⟩
        · exact fin x z y hx hz hy (dist4_iff.2 ⟨e1, e3, e2, e5, e4, fun e => e6 e.symm⟩) ea ec eb hi' w (by rw [syz, v]; rfl) u g1
        · exact fin z x y hz hx hy (dist4_iff.2 ⟨e3, e1, e2, fun e => e5 e.symm, fun e => e6 e.symm, e4⟩) ec ea eb (ins_rot (ins_rot hi)) (by rw [sxz, w]; rfl) u (by rw [syz, v]; rfl) g3
        · exact fin y x z hy hx hz (dist4_iff.2 ⟨e2, e1, e3, fun e => e4 e.symm, e6, e5⟩) eb ea ec (ins_rot (ins_rot hi')) (by rw [sxy, u]; rfl) w v g2
        · exact fin y z x hy hz hx (dist4_iff.2 ⟨e2, e3, e1, e6, fun e => e4 e.symm, fun e => e5 e.symm⟩) eb ec ea (ins_rot hi) v (by rw [sxz, w]; rfl) (by rw [sxy, u]; rfl) g2
        · exact nr ⟨by rw [u, v], by rw [v, sxz, w]⟩
        · exact fin z y x hz hy hx (dist4_iff.2 ⟨e3, e2, e1, fun e => e6 e.symm, fun e => e5 e.symm, fun e => e4 e.symm⟩) ec eb ea (ins_rot hi') (by rw [syz, v]; rfl) (by rw [sxy, u]; rfl) (by rw [sxz, w]; rfl) g3
theorem Ord.nx_uni {a b b' : Nat} (h : nx n f a b) (h' : nx n f a b') : b = b' := by
  refine Classical.byContradiction fun e => ?_
  have g1 := h.2.2.2 b' h'.2.1 (fun x => h'.2.2.1 x.symm) (fun x => e x.symm)
  have g2 := h'.2.2.2 b h.2.1 (fun x => h.2.2.1 x.symm) e
  have := o.s2 a b b' h.1 h.2.1 h'.2.1
  omega
theorem Ord.nx_inj {a a' b : Nat} (h : nx n f a b) (h' : nx n f a' b) : a = a' := by
  refine Classical.byContradiction fun e => ?_
  have g1 := h.2.2.2 a' h'.1 (fun x => e x.symm) (fun x => h'.2.2.1 x)
  have g2 := h'.2.2.2 a h.1 e (fun x => h.2.2.1 x)
  have k1 := o.s1 a b a' h.1 h.2.1 h'.1
  have k2 := (o.cyc h'.1 h.2.1 h.1).1
  omega
/-- A cycle of next elements goes round every outer element. -/
theorem Ord.fan {h : Nat → Nat} (hn : ∀ i, nx n f (h i) (h (i + 1))) {L : Nat} (hL : 1 ≤ L) (hb : h L = h 0) (hm : ∀ j, 1 ≤ j → j < L → h j ≠ h 0) {r : Nat} (hr : outer n f r) (hne : ∀ i, i < L → h i ≠ r) : False := by
  have hne' : ∀ i, i ≤ L → h i ≠ r := fun i hi => by
    by_cases e : i = L
    · subst e; rw [hb]; exact hne 0 (by omega)
    · exact hne i (by omega)
  have step : ∀ i, i < L → f r (h i) (h (i + 1)) = 1 := fun i hi => by
    have g := (hn i).2.2.2 r hr.1 (fun e => hne' i (by omega) e.symm) (fun e => hne' (i + 1) (by omega) e.symm)
    rw [← (o.cyc hr.1 (hn i).1 (hn i).2.1).1]
    exact g
  have all : ∀ j, j + 1 < L → f r (h 0) (h (j + 1)) = 1 := by
    intro j
    induction j with
    | zero => intro h1; exact step 0 (by omega)
    | succ j ih =>
      intro h1
      exact o.three hr (hn 0).1 (hn (j + 1)).1 (hn (j + 1)).2.1 (dist4_iff.2 ⟨fun e => hne' 0 (by omega) e.symm, fun e => hne' (j + 1) (by omega) e.symm, fun e => hne' (j + 2) (by omega) e.symm, fun e => hm (j + 1) (by omega) (by omega) e.symm, fun e => hm (j + 2) (by omega) (by omega) e.symm, (hn (j + 1)).2.2.1⟩) (ih (by omega)) (step (j + 1) (by omega))
  by_cases e1 : L = 1
  · subst e1; exact (hn 0).2.2.1 hb.symm
  · obtain ⟨j, rfl⟩ : ∃ j, L = j + 2 := ⟨L - 2, by omega⟩
    have g1 := all j (by omega)
    have g2 := step (j + 1) (by omega)
    rw [hb] at g2
    have := o.s2 r (h 0) (h (j + 1)) hr.1 (hn 0).1 (hn j).2.1
    omega
omit o in
theorem nodup_sub : ∀ (l l' : List Nat), l.Nodup → (∀ x ∈ l, x ∈ l') → l.length ≤ l'.length
  | [], _, _, _ => Nat.zero_le _
  | x :: xs, l', hd, h => by
    have hx := h x List.mem_cons_self
    have hd' := List.nodup_cons.1 hd
    have k := nodup_sub xs (l'.erase x) hd'.2 (fun y hy => (List.mem_erase_of_ne (fun e => hd'.1 (by rw [← e]; exact hy))).2 (h y (List.mem_cons_of_mem _ hy)))
    rw [List.length_erase_of_mem hx] at k
    have := List.length_pos_of_mem hx
    rw [List.length_cons]
    omega
omit o in
theorem least (P : Nat → Prop) : ∀ k, P k → ∃ L, L ≤ k ∧ P L ∧ ∀ j, j < L → ¬ P j := by
  intro k
  induction k using Nat.strongRecOn with
  | ind k ih =>
    intro hk
    by_cases e : ∃ j, j < k ∧ P j
    · obtain ⟨j, hj, hp⟩ := e
      obtain ⟨L, h1, h2, h3⟩ := ih j hj hp
      exact ⟨L, by omega, h2, h3⟩
    · exact ⟨k, Nat.le_refl _, hk, fun j hj hp => e ⟨j, hj, hp⟩⟩
/-- The next elements from an outer one run through all outer ones, and come back then. -/
theorem Ord.cycle {h : Nat → Nat} (hn : ∀ i, nx n f (h i) (h (i + 1))) (ho : outer n f (h 0)) {R : List Nat} (hd : R.Nodup) (hR : ∀ x, x ∈ R ↔ outer n f x) :
    1 ≤ R.length ∧ h R.length = h 0 ∧ (∀ j, 1 ≤ j → j < R.length → h j ≠ h 0) ∧ ∀ i, h i ∈ R := by
  have hout : ∀ i, outer n f (h i) := by
    intro i
    induction i with
    | zero => exact ho
    | succ i ih => exact o.nx_out ih (hn i)
  have back : ∀ i d, h i = h (i + d) → h 0 = h d := by
    intro i
    induction i with
    | zero => intro d e; rw [Nat.zero_add] at e; exact e
    | succ i ih =>
      intro d e
      refine ih d (o.nx_inj (hn i) ?_)
      rw [e, show i + 1 + d = (i + d) + 1 by omega]
      exact hn (i + d)
  have rep : ∃ i j, i < j ∧ j ≤ R.length ∧ h i = h j := by
    refine Classical.byContradiction fun no => ?_
    have nd : ((List.range (R.length + 1)).map h).Nodup := by
      refine List.pairwise_map.2 (List.Pairwise.imp_of_mem ?_ List.pairwise_lt_range)
      intro a b _ hb hab e
      rw [List.mem_range] at hb
      exact no ⟨a, b, hab, by omega, e⟩
    have k := nodup_sub _ R nd (fun x hx => by
      obtain ⟨i, _, rfl⟩ := List.mem_map.1 hx
      exact (hR _).2 (hout i))
    rw [List.length_map, List.length_range] at k
    omega
  obtain ⟨i, j, hij, hj, e⟩ := rep
  have e0 := back i (j - i) (by rw [show i + (j - i) = j by omega]; exact e)
  obtain ⟨L, hL, ⟨l1, l2⟩, l3⟩ := least (fun d => 1 ≤ d ∧ h d = h 0) (j - i) ⟨by omega, e0.symm⟩
  have hm : ∀ j, 1 ≤ j → j < L → h j ≠ h 0 := fun j h1 h2 e => l3 j h2 ⟨h1, e⟩
  have k := nodup_sub R ((List.range L).map h) hd (fun x hx => by
    refine Classical.byContradiction fun no => ?_
    refine o.fan hn l1 l2 hm ((hR x).1 hx) (fun i hi e => no (List.mem_map.2 ⟨i, List.mem_range.2 hi, e⟩)))
  rw [List.length_map, List.length_range] at k
  have eL : L = R.length := by omega
  subst eL
  exact ⟨l1, l2, hm, fun i => (hR _).2 (hout i)⟩
end
end Go.Proofs.Ytbjncemaeagjjaa.M
namespace Go.Proofs.Ytbjncemaeagjjaa.PX
open Go.RowKit Go.Proofs.Ytbjncemaeagjjaa.G Go.Proofs.YtbjncemaeagjjaaW.PrintWords Go.Proofs.YtbjncemaeagjjaaW.PrintLast Go.Proofs.YtbjncemaeagjjaaW.PrintMore
attribute [local go_sem] max2_int min2_int max_two min_two max_three min_three max_four min_four   -- for this text's walks alone
set_option linter.unusedVariables false
set_option linter.unusedSimpArgs false
/-! ### spec_l1Bit: function 62 -/
def spec_l1Bit.f (a0 : Bool) : Option (Int) := if a0 = true then (some 1) else (some 0)
set_option maxHeartbeats 8000000 in
set_option maxRecDepth 100000 in
theorem spec_l1Bit.calls (a0 : Bool) (r : Int) (w : World) (h : spec_l1Bit.f a0 = some r) :
  Calls Try.prog 62 #[.bool a0] w fun e w' => e = .returned (.int .i64 r) ∧ Drawn0 w w' := by
 have H : (if a0 = true then (some 1) else (some 0)) = some r := h
 clear h
 by_cases c2 : a0 = true
 ·subst c2
  have H1 : (some 1) = some r := by rw [if_pos rfl] at H; exact H
  clear H
  have H := H1
  clear H1
  obtain rfl := Option.some.inj H
  go_enter Try.func62, Try.ntmps62
  go_wp2
  go_ret
  exact ⟨by first | rfl | (simp; done) | (simp [*]; done), by repeat (first | exact Drawn0.refl _ | apply Drawn0.step)⟩
 ·replace c2 := Bool.eq_false_iff.mpr c2
  subst c2
  have H1 : (some 0) = some r := by rw [if_neg (show ¬ (false = true) by decide)] at H; exact H
  clear H
  have H := H1
  clear H1
  obtain rfl := Option.some.inj H
  go_enter Try.func62, Try.ntmps62
  go_wp2
  go_ret
  exact ⟨by first | rfl | (simp; done) | (simp [*]; done), by repeat (first | exact Drawn0.refl _ | apply Drawn0.step)⟩
/-! ### spec_l7Left: function 40 -/
def spec_l7Left.l0 : Nat → Int → Int → Int → Int → Int → ByteArray → Option (Int)
 | 0, _, _, _, _, _, _ => none
 | k + 1, x1, x2, x7, x8, x163000, x163001 => if x8 < x163000 then (if x8 = x1 then ((spec_l1Bit.f false).bind fun t163 => (spec_l7Left.l0 k x1 x2 (wrap64 (x7 + t163)) (wrap64 (x8 + 1)) x163000 x163001)) else (if x8 = x2 then ((spec_l1Bit.f false).bind fun t164 => (spec_l7Left.l0 k x1 x2 (wrap64 (x7 + t164)) (wrap64 (x8 + 1)) x163000 x163001)) else ((spec_l3At.f k x163000 x163001 x1 x2 x8).bind fun t165 => ((spec_l1Bit.f (decide (t165 > 0))).bind fun t166 => (spec_l7Left.l0 k x1 x2 (wrap64 (x7 + t166)) (wrap64 (x8 + 1)) x163000 x163001))))) else (some x7)
def spec_l7Left.f (k : Nat) (a0_0 : Int) (a0_1 : ByteArray) (a1 : Int) (a2 : Int) : Option (Int) := spec_l7Left.l0 k a1 a2 0 0 a0_0 a0_1
theorem spec_l7Left.mono_l : ∀ k, (∀ y0 y1 y2 y3 y4 y5, LeO (spec_l7Left.l0 k y0 y1 y2 y3 y4 y5) (spec_l7Left.l0 (k + 1) y0 y1 y2 y3 y4 y5))
 | 0 => fun _ _ _ _ _ _ r h => by simp [spec_l7Left.l0] at h
 | k + 1 => by
  have ih0 := spec_l7Left.mono_l k
  ·intro y0 y1 y2 y3 y4 y5
   unfold spec_l7Left.l0
   repeat' first
   | (with_reducible exact ih0 _ _ _ _ _ _)
   | (with_reducible exact spec_l3At.mono _ _ _ _ _ _)
   | (with_reducible exact LeO.refl _)
   | (with_reducible exact LeO.none _)
   | (with_reducible refine LeO.ite ?_ ?_)
   | (with_reducible refine LeO.bind ?_ (fun _ => ?_))
   | exact ih0 _ _ _ _ _ _
   | exact spec_l3At.mono _ _ _ _ _ _
   | exact LeO.none _
   | refine LeO.ite ?_ ?_
   | refine LeO.bind ?_ (fun _ => ?_)
theorem spec_l7Left.mono : ∀ a0 a1 a2 a3 k, LeO (spec_l7Left.f k a0 a1 a2 a3) (spec_l7Left.f (k + 1) a0 a1 a2 a3) := by
 intro a0 a1 a2 a3 k
 have ih0 := spec_l7Left.mono_l k
 unfold spec_l7Left.f
 repeat' first
   | (with_reducible exact ih0 _ _ _ _ _ _)
   | (with_reducible exact spec_l3At.mono _ _ _ _ _ _)
   | (with_reducible exact LeO.refl _)
   | (with_reducible exact LeO.none _)
   | (with_reducible refine LeO.ite ?_ ?_)
   | (with_reducible refine LeO.bind ?_ (fun _ => ?_))
   | exact ih0 _ _ _ _ _ _
   | exact spec_l3At.mono _ _ _ _ _ _
   | exact LeO.none _
   | refine LeO.ite ?_ ?_
   | refine LeO.bind ?_ (fun _ => ?_)
set_option maxHeartbeats 8000000 in
set_option maxRecDepth 100000 in
theorem spec_l7Left.calls (k : Nat) (a0_0 : Int) (a0_1 : ByteArray) (a1 : Int) (a2 : Int) (r : Int) (w : World) (h : spec_l7Left.f k a0_0 a0_1 a1 a2 = some r) :
  Calls Try.prog 40 #[.agg #[.int .i64 a0_0, .string a0_1], .int .i64 a1, .int .i64 a2] w fun e w' => e = .returned (.int .i64 r) ∧ Below w.heap.size w w' := by
 have hu26 := Try.underlying26
 have HB := Aside0.mk (Below.refl w.heap.size w)
 have H : (spec_l7Left.l0 k a1 a2 0 0 a0_0 a0_1) = some r := h
 clear h
 have H' := Aside0.mk H
 clear H
 go_enter Try.func40, Try.ntmps40
 go_wp2_with (first | ((with_reducible refine gate_dst (N := 3) rfl ?_); refine box_event ?hg (N := 3) ?hd (cs := #[.int .i64 a0_0, .string a0_1]) (t := 26) ?hr ?_; (case hd => rfl); (case hg => rfl); (case hr => first | (go_simp; done) | (go_simp; rfl)); intro gb162 hg w4 hbox hb; have BK162 := Aside0.mk (hbox); have GW162 := Aside0.mk ((by rw [hg]; exact (below_size zB) : w.heap.size ≤ gb162)); have GE162 := Aside0.mk ((by rw [hg]; exact (below_size zB) : w.heap.size ≤ gb162)); replace HB := Aside0.mk (below_step zB hb); clear hb hbox hg))
 go_loopg [7, 8] k (fun kq v7 v8 w' => ∃ (x7_1 : Int) (x8_1 : Int), v7 = .int .i64 x7_1 ∧ v8 = .int .i64 x8_1 ∧ Aside0 (spec_l7Left.l0 kq a1 a2 x7_1 x8_1 a0_0 a0_1 = some r) ∧ Aside0 (kq ≤ k) ∧ Aside0 (w'.heap[gb162]? = some (.cells #[.int .i64 a0_0, .string a0_1] 26 (0, 0))) ∧ Aside0 (Below w.heap.size w w'))
 case atStart => exact ⟨(0), (0), zF, zF, H', ⟨Nat.le_refl _⟩, ⟨zK BK162.out⟩, ⟨zG GE162.out⟩⟩
 case round =>
  clear H'
  try clear p2
  try clear c4
  obtain ⟨x7_1, x8_1, rfl, rfl, HA, HK1, BK162, HB⟩ := hrel
  cases gk with
  | zero => exact absurd HA.out (by simp [spec_l7Left.l0])
  | succ k1 =>
   have H := HA.out
   clear HA
   simp only [spec_l7Left.l0] at H
   by_cases c5 : x8_1 < a0_0
   ·rw [if_pos c5] at H
    have c5b0 : decide (x8_1 < a0_0) = true := decide_eq_true c5
    clear c5
    by_cases c6 : x8_1 = a1
    ·rw [if_pos c6] at H
     have c6b0 : (x8_1 == a1) = true := beq_iff_eq.mpr c6
     have c6b1 : (x8_1 != a1) = false := bne_eq_false_iff_eq.mpr c6
     clear c6
     replace H := Option.bind_eq_some_iff.mp H
     obtain ⟨t163, A70, H⟩ := H
     replace H : (spec_l7Left.l0 k1 a1 a2 (wrap64 (x7_1 + t163)) (wrap64 (x8_1 + 1)) a0_0 a0_1) = some r := H
     have A7 := Aside0.mk A70
     clear A70
     have H' := Aside0.mk H
     clear H
     have hcz8_0 : wr.cell? ⟨gb162, 0, none⟩ = some (.int .i64 a0_0) := (blk_cell BK162.out 0).trans rfl
     have hcz8_1 : wr.cell? ⟨gb162, 1, none⟩ = some (.string a0_1) := (blk_cell BK162.out 1).trans rfl
     have hfz8_0 := blk_frozen BK162.out 0
     have hfz8_1 := blk_frozen BK162.out 1
     go_wp2_with (first | ((with_reducible refine gate_callee (f := 62) rfl ?_); refine goesL_ (some 32) rfl rfl Try.func62 (by kernel_rfl) rfl #[.bool false] rfl zM ?_; (with_reducible refine (spec_l1Bit.calls false t163 _ A7.out).mono ?_); rintro e w' ⟨rfl, ⟨nd, rfl⟩⟩; refine ⟨_, rfl, ?_⟩))
     go_roundg k1
     case measure => have := HK1.out; omega
     case rel => exact ⟨(wrap64 (x7_1 + t163)), (wrap64 (x8_1 + 1)), zF, zF, H', ⟨by have := HK1.out; omega⟩, ⟨zK BK162.out⟩, ⟨zG GE162.out⟩⟩
    ·rw [if_neg c6] at H
     have c6b0 : (x8_1 == a1) = false := beq_eq_false_iff_ne.mpr c6
     have c6b1 : (x8_1 != a1) = true := bne_iff_ne.mpr c6
     by_cases c9 : x8_1 = a2
     ·rw [if_pos c9] at H
      have c9b0 : (x8_1 == a2) = true := beq_iff_eq.mpr c9
      have c9b1 : (x8_1 != a2) = false := bne_eq_false_iff_eq.mpr c9
      clear c9
      replace H := Option.bind_eq_some_iff.mp H
      obtain ⟨t164, A100, H⟩ := H
      replace H : (spec_l7Left.l0 k1 a1 a2 (wrap64 (x7_1 + t164)) (wrap64 (x8_1 + 1)) a0_0 a0_1) = some r := H
      have A10 := Aside0.mk A100
      clear A100
      have H' := Aside0.mk H
      clear H
      have hcz11_0 : wr.cell? ⟨gb162, 0, none⟩ = some (.int .i64 a0_0) := (blk_cell BK162.out 0).trans rfl
      have hcz11_1 : wr.cell? ⟨gb162, 1, none⟩ = some (.string a0_1) := (blk_cell BK162.out 1).trans rfl
      have hfz11_0 := blk_frozen BK162.out 0
      have hfz11_1 := blk_frozen BK162.out 1
      go_wp2_with (first | ((with_reducible refine gate_callee (f := 62) rfl ?_); refine goesL_ (some 32) rfl rfl Try.func62 (by kernel_rfl) rfl #[.bool false] rfl zM ?_; (with_reducible refine (spec_l1Bit.calls false t164 _ A10.out).mono ?_); rintro e w' ⟨rfl, ⟨nd, rfl⟩⟩; refine ⟨_, rfl, ?_⟩))
      go_roundg k1
      case measure => have := HK1.out; omega
      case rel => exact ⟨(wrap64 (x7_1 + t164)), (wrap64 (x8_1 + 1)), zF, zF, H', ⟨by have := HK1.out; omega⟩, ⟨zK BK162.out⟩, ⟨zG GE162.out⟩⟩
     ·rw [if_neg c9] at H
      have c9b0 : (x8_1 == a2) = false := beq_eq_false_iff_ne.mpr c9
      have c9b1 : (x8_1 != a2) = true := bne_iff_ne.mpr c9
      replace H := Option.bind_eq_some_iff.mp H
      obtain ⟨t165, A120, H⟩ := H
      replace H : ((spec_l1Bit.f (decide (t165 > 0))).bind fun t166 => (spec_l7Left.l0 k1 a1 a2 (wrap64 (x7_1 + t166)) (wrap64 (x8_1 + 1)) a0_0 a0_1)) = some r := H
      have A12 := Aside0.mk A120
      clear A120
      replace H := Option.bind_eq_some_iff.mp H
      obtain ⟨t166, A130, H⟩ := H
      replace H : (spec_l7Left.l0 k1 a1 a2 (wrap64 (x7_1 + t166)) (wrap64 (x8_1 + 1)) a0_0 a0_1) = some r := H
      have A13 := Aside0.mk A130
      clear A130
      have H' := Aside0.mk H
      clear H
      have hcz14_0 : wr.cell? ⟨gb162, 0, none⟩ = some (.int .i64 a0_0) := (blk_cell BK162.out 0).trans rfl
      have hcz14_1 : wr.cell? ⟨gb162, 1, none⟩ = some (.string a0_1) := (blk_cell BK162.out 1).trans rfl
      have hfz14_0 := blk_frozen BK162.out 0
      have hfz14_1 := blk_frozen BK162.out 1
      go_wp2_with (first | (go_at_call 63; (with_reducible refine (spec_l3At.calls k1 a0_0 a0_1 a1 a2 x8_1 t165 _ A12.out).mono ?_); rintro e w15 ⟨rfl, hb⟩; replace BK162 := Aside0.mk (blk_below (g := gb162) (o := .cells #[.int .i64 a0_0, .string a0_1] 26 (0, 0)) (zK BK162.out) hb); replace HB := Aside0.mk (below_step (zG GE162.out) hb); (try clear hb); (try clear hb2); (try clear hk); (try clear hi)) | ((with_reducible refine gate_callee (f := 62) rfl ?_); refine goesL_ (some 32) rfl rfl Try.func62 (by kernel_rfl) rfl #[.bool (decide (t165 > 0))] rfl zM ?_; (with_reducible refine (spec_l1Bit.calls (decide (t165 > 0)) t166 _ A13.out).mono ?_); rintro e w' ⟨rfl, ⟨nd, rfl⟩⟩; refine ⟨_, rfl, ?_⟩))
      go_roundg k1
      case measure => have := HK1.out; omega
      case rel => exact ⟨(wrap64 (x7_1 + t166)), (wrap64 (x8_1 + 1)), zF, zF, H', ⟨by have := HK1.out; omega⟩, ⟨zK BK162.out⟩, ⟨zG GE162.out⟩⟩
   ·rw [if_neg c5] at H
    have c5b0 : decide (x8_1 < a0_0) = false := decide_eq_false c5
    clear c5
    obtain rfl := Option.some.inj H
    have hcz16_0 : wr.cell? ⟨gb162, 0, none⟩ = some (.int .i64 a0_0) := (blk_cell BK162.out 0).trans rfl
    have hcz16_1 : wr.cell? ⟨gb162, 1, none⟩ = some (.string a0_1) := (blk_cell BK162.out 1).trans rfl
    have hfz16_0 := blk_frozen BK162.out 0
    have hfz16_1 := blk_frozen BK162.out 1
    go_wp2
    go_ret
    exact ⟨zE, zG GE162.out⟩
end Go.Proofs.Ytbjncemaeagjjaa.PX
namespace Go.Proofs.Ytbjncemaeagjjaa.M
open Go.RowKit Go.Proofs.YtbjncemaeagjjaaW.PrintWords Go.Proofs.Ytbjncemaeagjjaa.PX Go.Proofs.Ytbjncemaeagjjaa.G Go.Proofs.YtbjncemaeagjjaaW.PrintMore
/-- How many elements lie to the left of i and j. -/
def leftV (n : Nat) (t : ByteArray) (i j : Nat) : Nat := ((List.range' 0 n).filter fun k => decide (chi n t i j k = 1)).length
theorem count_fold (c : Nat → Bool) (l : List Nat) : ∀ s : Nat, l.foldl (fun s k => if c k = true then s + 1 else s) s = s + (l.filter c).length := by
  induction l with
  | nil => intro s; rfl
  | cons x l ih =>
    intro s
    rw [List.foldl_cons, ih, List.filter_cons]
    cases c x
    · rfl
    · simp only [if_true, List.length_cons]; omega
theorem leftV_le (n : Nat) (t : ByteArray) (i j : Nat) : leftV n t i j ≤ n := by
  unfold leftV
  exact Nat.le_trans (List.length_filter_le _ _) (by rw [List.length_range']; omega)
theorem impl_left {n : Nat} {t : ByteArray} (h : areOk n t = true) {i j : Nat} (hi : i < n) (hj : j < n) : Ev (fun k => impl_chi_left.f k (tblL n t) (i : Int) (j : Int)) (leftV n t i j : Int) := by
  obtain ⟨⟨h0, h1⟩, _, _⟩ := (areOk_iff _ _).1 h
  unfold impl_chi_left.f
  have key := loop_up' (σ := Nat) (ρ := Int) (lo := 0) (n := n) (K := fun s _ => some (s : Int)) (L := fun x s k => impl_chi_left.l0 k (tblL n t) (i : Int) (j : Int) (s : Int) x) (fun x s => s ≤ x)
    (fun s x => .ok (if decide (chi n t i j x = 1) = true then s + 1 else s)) (fun s _ => ?_) (fun x _ hx s hs => ?_) (fun x _ hx s hs s' e => ?_) (by omega) 0 (Nat.le_refl _)
  · rw [foldlM_ok, count_fold] at key
    refine ev_cast (key _ (Ev.now _)) ?_
    rw [Nat.zero_add]
    rfl
  · refine Goes.step ?_
    simp only [impl_chi_left.l0, tbl_n]
    exact Goes.neg (by omega) (Goes.ok (K := fun s _ => some (s : Int)) s)
  · refine Goes.step ?_
    simp only [impl_chi_left.l0, tbl_n]
    rw [tbl_rd n t i j x (by omega) (by omega) (by omega), wrap_id (x := (x : Int) + 1) (by omega) (by omega), wrap_id (x := (s : Int) + 1) (by omega) (by omega)]
    refine Goes.pos (by omega) (Goes.pos (by omega) (Goes.pos (by omega) (Goes.pos (by omega) (Goes.pos (by omega) (Goes.pos (by omega) (Goes.pos (by omega) ?_))))))
    by_cases g : chi n t i j x = 1
    · rw [decide_eq_true g, if_pos rfl]
      exact Goes.pos g (Goes.ok (K := fun (s : Nat) k => impl_chi_left.l0 k (tblL n t) (i : Int) (j : Int) (s : Int) ((x + 1 : Nat) : Int)) (s + 1))
    · rw [decide_eq_false g, if_neg (by decide)]
      exact Goes.neg g (Goes.ok (K := fun (s : Nat) k => impl_chi_left.l0 k (tblL n t) (i : Int) (j : Int) (s : Int) ((x + 1 : Nat) : Int)) s)
  · cases e
    split <;> omega
theorem spec_left {n : Nat} {t : ByteArray} (h : areOk n t = true) {i j : Nat} (hi : i < n) (hj : j < n) (hij : i ≠ j) : Ev (fun k => spec_l7Left.f k (n : Int) t (i : Int) (j : Int)) (leftV n t i j : Int) := by
  obtain ⟨⟨h0, h1⟩, _, _⟩ := (areOk_iff _ _).1 h
  unfold spec_l7Left.f
  have hb1 : ∀ x : Bool, spec_l1Bit.f x = some (if x = true then 1 else 0) := fun x => by unfold spec_l1Bit.f; split <;> rfl
  have key := loop_up' (σ := Nat) (ρ := Int) (lo := 0) (n := n) (K := fun s _ => some (s : Int)) (L := fun x s k => spec_l7Left.l0 k (i : Int) (j : Int) (s : Int) x (n : Int) t) (fun x s => s ≤ x)
    (fun s x => .ok (if decide (chi n t i j x = 1) = true then s + 1 else s)) (fun s _ => ?_) (fun x _ hx s hs => ?_) (fun x _ hx s hs s' e => ?_) (by omega) 0 (Nat.le_refl _)
  · rw [foldlM_ok, count_fold] at key
    refine ev_cast (key _ (Ev.now _)) ?_
    rw [Nat.zero_add]
    rfl
  · refine Goes.step ?_
    simp only [spec_l7Left.l0]
    exact Goes.neg (by omega) (Goes.ok (K := fun s _ => some (s : Int)) s)
  · have fin : ∀ (v : Bool), v = decide (chi n t i j x = 1) → Goes (.ok (if decide (chi n t i j x = 1) = true then s + 1 else s)) (fun (s : Nat) k => spec_l7Left.l0 k (i : Int) (j : Int) (s : Int) ((x + 1 : Nat) : Int) (n : Int) t)
        (fun k => (spec_l1Bit.f v).bind fun t163 => spec_l7Left.l0 k (i : Int) (j : Int) (wrap64 ((s : Int) + t163)) ((x + 1 : Nat) : Int) (n : Int) t) := by
      intro v hv
      refine Goes.call (hb1 v) ?_
      rw [← hv]
      cases v
      · rw [if_neg (by decide), if_neg (by decide), wrap_id (by omega) (by omega), show (s : Int) + 0 = (s : Int) by omega]
        exact Goes.ok (K := fun (s : Nat) k => spec_l7Left.l0 k (i : Int) (j : Int) (s : Int) ((x + 1 : Nat) : Int) (n : Int) t) s
      · rw [if_pos rfl, if_pos rfl, wrap_id (by omega) (by omega)]
        exact Goes.ok (K := fun (s : Nat) k => spec_l7Left.l0 k (i : Int) (j : Int) (s : Int) ((x + 1 : Nat) : Int) (n : Int) t) (s + 1)
    refine Goes.step ?_
    simp only [spec_l7Left.l0]
    rw [wrap_id (x := (x : Int) + 1) (by omega) (by omega)]
    refine Goes.pos (by omega) ?_
    by_cases g1 : x = i
    · subst g1
      refine Goes.pos rfl (fin false ?_)
      rw [(chi_zero t (by omega) (by omega) (show x < 7 by omega) (show j < 7 by omega)).2.1]
      rfl
    · refine Goes.neg (by omega) ?_
      by_cases g2 : x = j
      · subst g2
        refine Goes.pos rfl (fin false ?_)
        rw [(chi_zero t (by omega) (by omega) (show x < 7 by omega) (show i < 7 by omega)).2.2]
        rfl
      · refine Goes.neg (by omega) (Goes.ev (l3At_ev h hi hj hx hij (by omega) (by omega)) (fin _ ?_))
        rcases chi_three n t i j x with e | e | e <;> rw [e] <;> rfl
  · cases e
    split <;> omega
/-- The left ones of both directions and the pair itself are all. -/
theorem count_one : ∀ n : Nat, n ≤ 7 → ∀ i : Nat, i < n → ((List.range' 0 n).filter fun k => decide (k = i)).length = 1 := by decide +kernel
theorem count_four (p q r u : Nat → Bool) (l : List Nat) (h : ∀ k ∈ l, (if p k then 1 else 0) + (if q k then 1 else 0) + (if r k then 1 else 0) + (if u k then 1 else 0) = 1) :
    (l.filter p).length + (l.filter q).length + (l.filter r).length + (l.filter u).length = l.length := by
  induction l with
  | nil => rfl
  | cons x l ih =>
    have h1 := ih fun k hk => h k (List.mem_cons_of_mem _ hk)
    have h2 := h x List.mem_cons_self
    rw [List.filter_cons, List.filter_cons, List.filter_cons, List.filter_cons, List.length_cons]
    revert h2
    cases p x <;> cases q x <;> cases r x <;> cases u x <;> simp only [if_true, if_false, List.length_cons, Bool.false_eq_true] <;> intro h2 <;> omega
theorem leftV_sum {n : Nat} (t : ByteArray) (h0 : 3 ≤ n) (h1 : n ≤ 7) {i j : Nat} (hi : i < n) (hj : j < n) (hij : i ≠ j) : leftV n t i j + leftV n t j i + 2 = n := by
  have h := count_four (fun k => decide (chi n t i j k = 1)) (fun k => decide (chi n t j i k = 1)) (fun k => decide (k = i)) (fun k => decide (k = j)) (List.range' 0 n) fun k hk => ?_
  · rw [count_one n h1 i hi, count_one n h1 j hj, List.length_range'] at h
    unfold leftV
    omega
  · rw [List.mem_range'_1] at hk
    have e := chi_swap1 t h0 h1 (show i < 7 by omega) (show j < 7 by omega) (show k < 7 by omega)
    rw [e]
    by_cases g1 : k = i
    · subst g1
      rw [(chi_zero t h0 h1 (show k < 7 by omega) (show j < 7 by omega)).2.1, decide_eq_true (show k = k from rfl), decide_eq_false hij]
      rfl
    · by_cases g2 : k = j
      · subst g2
        rw [(chi_zero t h0 h1 (show k < 7 by omega) (show i < 7 by omega)).2.2, decide_eq_true (show k = k from rfl), decide_eq_false g1]
        rfl
      · rw [decide_eq_false g1, decide_eq_false g2]
        rcases chi_pm t h0 h1 hi hj (show k < n by omega) hij (by omega) (by omega) with e | e <;> rw [e] <;> rfl
end Go.Proofs.Ytbjncemaeagjjaa.M
namespace Go.Proofs.Ytbjncemaeagjjaa.M
open Go.RowKit Go.Proofs.YtbjncemaeagjjaaW.PrintWords Go.Proofs.Ytbjncemaeagjjaa.PX Go.Proofs.Ytbjncemaeagjjaa.G
theorem inT_inB {n : Nat} {t : ByteArray} (o : Ord n (chi n t)) (h1 : n ≤ 7) {s p : Nat} (hp : p < n) (h : inT n (chi n t) (fun x => s.testBit x = true) p) : inB n t s p = true := by
  obtain ⟨a, b, c, ha, hb, hc, hd, sa, sb, sc, hi⟩ := h
  obtain ⟨e1, e2, e3, e4, e5, e6⟩ := dist4_iff.1 hd
  have fin : ∀ x y z, x < y → y < z → z < n → s.testBit x = true → s.testBit y = true → s.testBit z = true → p ≠ x → p ≠ y → p ≠ z → ins (chi n t) p x y z → inB n t s p = true := by
    intro x y z hxy hyz hz sx sy sz p1 p2 p3 hi
    refine List.any_eq_true.2 ⟨(x, y, z), trips_mem hxy hyz hz, ?_⟩
    have k := (inner_iff o h1 hp (show x < n by omega) (show y < n by omega) hz (dist4_iff.2 ⟨p1, p2, p3, by omega, by omega, by omega⟩)).2 hi
    simp only [sx, sy, sz, Bool.and_true]
    rw [insB_dist p1 p2 p3]
    exact beq_iff_eq.2 k
  have hi' := o.ins_flip hp ha hb hc hi
  rcases Nat.lt_or_gt_of_ne e4 with q1 | q1 <;> rcases Nat.lt_or_gt_of_ne e6 with q2 | q2 <;> rcases Nat.lt_or_gt_of_ne e5 with q3 | q3
  · exact fin a b c q1 q2 hc sa sb sc e1 e2 e3 hi
  · omega
  · exact fin a c b q3 q2 hb sa sc sb e1 e3 e2 hi'
  · exact fin c a b q3 q1 hb sc sa sb e3 e1 e2 (ins_rot (ins_rot hi))
  · exact fin b a c q1 q3 hc sb sa sc e2 e1 e3 (ins_rot (ins_rot hi'))
  · exact fin b c a q2 q3 ha sb sc sa e2 e3 e1 (ins_rot hi)
  · omega
  · exact fin c b a q2 q1 ha sc sb sa e3 e2 e1 (ins_rot hi')
/-- The rim: the outer elements. -/
def rimS (n : Nat) (t : ByteArray) : Nat := extN n t (2 ^ n - 1)
theorem rimS_lt (n : Nat) (t : ByteArray) : rimS n t < 2 ^ n := sumN_lt _ _
theorem rim_iff {n : Nat} {t : ByteArray} (o : Ord n (chi n t)) (h1 : n ≤ 7) (p : Nat) : (rimS n t).testBit p = true ↔ outer n (chi n t) p := by
  constructor
  · intro h
    have hp := sub_bits (rimS_lt n t) h
    unfold rimS at h
    rw [extN_bit t _ h1 hp] at h
    unfold extB at h
    rw [full_bit h1 hp, Bool.true_and, Bool.not_eq_true'] at h
    refine ⟨hp, fun a b c ha hb hc hd hi => ?_⟩
    rw [inT_inB o h1 hp ⟨a, b, c, ha, hb, hc, hd, full_bit h1 ha, full_bit h1 hb, full_bit h1 hc, hi⟩] at h
    cases h
  · intro h
    unfold rimS
    rw [extN_bit t _ h1 h.1]
    unfold extB
    rw [full_bit h1 h.1, Bool.true_and, Bool.not_eq_true']
    refine Bool.eq_false_iff.2 fun e => ?_
    obtain ⟨a, b, c, ha, hb, hc, hd, _, _, _, hi⟩ := inB_inT o h1 h.1 e
    exact h.2 a b c ha hb hc hd hi
theorem left_zero {n : Nat} {t : ByteArray} (o : Ord n (chi n t)) (h0 : 3 ≤ n) (h1 : n ≤ 7) {a k : Nat} (ha : a < n) (hk : k < n) (hak : a ≠ k) : leftV n t k a = 0 ↔ nx n (chi n t) a k := by
  unfold leftV
  rw [List.length_eq_zero_iff, List.filter_eq_nil_iff]
  constructor
  · intro h
    refine ⟨ha, hk, hak, fun x hx h1' h2 => ?_⟩
    have g := h x (List.mem_range'_1.2 (by omega))
    rw [decide_eq_true_eq] at g
    have s := o.s1 a k x ha hk hx
    rcases o.pm k a x hk ha hx (fun e => hak e.symm) (fun e => h1' e.symm) (fun e => h2 e.symm) with e | e
    · exact absurd e g
    · omega
  · intro h x hx
    rw [List.mem_range'_1] at hx
    rw [decide_eq_true_eq]
    intro e
    by_cases e1 : x = a
    · subst e1
      rw [(chi_zero t h0 h1 (show x < 7 by omega) (show k < 7 by omega)).2.2] at e
      omega
    · by_cases e2 : x = k
      · subst e2
        rw [(chi_zero t h0 h1 (show x < 7 by omega) (show a < 7 by omega)).2.1] at e
        omega
      · have g := h.2.2.2 x (by omega) e1 e2
        have s := o.s1 a k x ha hk (by omega)
        omega
def nextQ (n : Nat) (t : ByteArray) (a k : Nat) : Bool := (rimS n t).testBit k && decide (k ≠ a) && decide (leftV n t k a = 0)
/-- The next element of the rim. -/
def nextN (n : Nat) (t : ByteArray) (a : Nat) : Nat := ((List.range 7).find? (nextQ n t a)).getD 0
def firstN (n : Nat) (t : ByteArray) : Nat := ((List.range 7).find? fun i => (rimS n t).testBit i).getD 0
def seqN (n : Nat) (t : ByteArray) : Nat → Nat
  | 0 => firstN n t
  | i + 1 => nextN n t (seqN n t i)
def rimL (n : Nat) (t : ByteArray) : List Nat := (List.range 7).filter fun i => (rimS n t).testBit i
section
variable {n : Nat} {t : ByteArray} (ho : acyOk n t = true) (h0 : 3 ≤ n) (h1 : n ≤ 7)
include ho h0 h1
theorem next_nx {a : Nat} (ha : outer n (chi n t) a) : nx n (chi n t) a (nextN n t a) := by
  have o := order_ord ho
  obtain ⟨b, hb⟩ := o.nx_exists h0 ha
  have hbo := (rim_iff o h1 b).2 (o.nx_out ha hb)
  have hq : nextQ n t a b = true := by
    unfold nextQ
    rw [hbo, decide_eq_true (p := b ≠ a) (fun e => hb.2.2.1 e.symm), decide_eq_true ((left_zero o h0 h1 hb.1 hb.2.1 hb.2.2.1).2 hb)]
    rfl
  unfold nextN
  cases hf : (List.range 7).find? (nextQ n t a) with
  | none => exact absurd hq (List.find?_eq_none.1 hf b (List.mem_range.2 (by have := hb.2.1; omega)))
  | some k =>
    have g := List.find?_some hf
    unfold nextQ at g
    simp only [Bool.and_eq_true, decide_eq_true_eq] at g
    exact (left_zero o h0 h1 ha.1 (sub_bits (rimS_lt n t) g.1.1) (fun e => g.1.2 e.symm)).1 g.2
theorem nextQ_iff {a : Nat} (ha : outer n (chi n t) a) (k : Nat) : nextQ n t a k = true ↔ k = nextN n t a := by
  have o := order_ord ho
  have hn := next_nx ho h0 h1 ha
  constructor
  · intro g
    unfold nextQ at g
    simp only [Bool.and_eq_true, decide_eq_true_eq] at g
    exact o.nx_uni ((left_zero o h0 h1 ha.1 (sub_bits (rimS_lt n t) g.1.1) (fun e => g.1.2 e.symm)).1 g.2) hn
  · rintro rfl
    unfold nextQ
    rw [(rim_iff o h1 _).2 (o.nx_out ha hn), decide_eq_true (p := nextN n t a ≠ a) (fun e => hn.2.2.1 e.symm), decide_eq_true ((left_zero o h0 h1 hn.1 hn.2.1 hn.2.2.1).2 hn)]
    rfl
theorem first_some : (List.range 7).find? (fun i => (rimS n t).testBit i) = some (firstN n t) := by
  have hne : rimS n t ≠ 0 := ext_pos ho h1 (fun p hp => sub_bits (n := n) (by have : 0 < 2 ^ n := Nat.pow_pos (by omega); omega) hp) (by
    have : 2 ^ 1 ≤ 2 ^ n := Nat.pow_le_pow_right (by omega) (by omega)
    omega)
  unfold firstN
  cases hf : (List.range 7).find? fun i => (rimS n t).testBit i with
  | none =>
    exfalso
    refine hne (Nat.eq_of_testBit_eq fun i => ?_)
    rw [Nat.zero_testBit]
    refine Bool.eq_false_iff.2 fun e => ?_
    exact absurd e (List.find?_eq_none.1 hf i (List.mem_range.2 (by have := sub_bits (rimS_lt n t) e; omega)))
  | some k => rfl
theorem first_outer : outer n (chi n t) (firstN n t) := (rim_iff (order_ord ho) h1 _).1 (List.find?_some (first_some ho h0 h1))
theorem seq_outer : ∀ i, outer n (chi n t) (seqN n t i)
  | 0 => first_outer ho h0 h1
  | i + 1 => (order_ord ho).nx_out (seq_outer i) (next_nx ho h0 h1 (seq_outer i))
theorem rimL_mem (x : Nat) : x ∈ rimL n t ↔ outer n (chi n t) x := by
  unfold rimL
  rw [List.mem_filter, List.mem_range, rim_iff (order_ord ho) h1]
  exact ⟨fun h => h.2, fun h => ⟨by have := h.1; omega, h⟩⟩
theorem rim_cycle : 1 ≤ (rimL n t).length ∧ seqN n t (rimL n t).length = firstN n t ∧ (∀ j, 1 ≤ j → j < (rimL n t).length → seqN n t j ≠ firstN n t) ∧ ∀ i, seqN n t i ∈ rimL n t :=
  (order_ord ho).cycle (h := seqN n t) (fun i => next_nx ho h0 h1 (seq_outer ho h0 h1 i)) (first_outer ho h0 h1) (List.Pairwise.filter _ List.nodup_range) (rimL_mem ho h0 h1)
theorem rimL_le : (rimL n t).length ≤ n := by
  have k := nodup_sub (rimL n t) (List.range n) (List.Pairwise.filter _ List.nodup_range) (fun x hx => List.mem_range.2 ((rimL_mem ho h0 h1 x).1 hx).1)
  rw [List.length_range] at k
  exact k
end
def preN (n : Nat) (t : ByteArray) (i : Nat) : List Int := (List.range i).map fun j => (seqN n t j : Int)
theorem preN_length (n : Nat) (t : ByteArray) (i : Nat) : (preN n t i).length = i := by unfold preN; rw [List.length_map, List.length_range]
theorem preN_succ (n : Nat) (t : ByteArray) (i : Nat) : preN n t (i + 1) = preN n t i ++ [(seqN n t i : Int)] := by
  unfold preN
  rw [List.range_succ, List.map_append]
  rfl
theorem preN_rd {n : Nat} {t : ByteArray} {i j : Nat} (h : j < i) : rd (preN n t i) (j : Int) = (seqN n t j : Int) := by
  unfold rd preN
  rw [Int.toNat_natCast, List.getD_eq_getElem?_getD, List.getElem?_map, List.getElem?_range h]
  rfl
/-- What HullOf answers. -/
def hullL (n : Int) (t : ByteArray) : List Int := if acyOk n t = true then preN n.toNat t (rimL n.toNat t).length else []
theorem hullL_length (n : Int) (t : ByteArray) : (hullL n t).length ≤ 7 := by
  unfold hullL
  by_cases h : acyOk n t = true
  · rw [if_pos h]
    obtain ⟨N, rfl, _, h3, h7⟩ := acy_are h
    have k := rimL_le h h3 h7
    rw [preN_length]
    show (rimL N t).length ≤ 7
    omega
  · rw [if_neg h]
    exact Nat.zero_le _
theorem listN_rim (n : Nat) (t : ByteArray) : listN (rimS n t) = (rimL n t).map fun (i : Nat) => (i : Int) := rfl
theorem rd_rim {l : List Nat} {j : Nat} (h : j < l.length) : rd (l.map fun (i : Nat) => (i : Int)) (j : Int) = (l[j] : Int) := by
  unfold rd
  rw [Int.toNat_natCast, List.getD_eq_getElem?_getD, List.getElem?_map, List.getElem?_eq_getElem h]
  rfl
section
variable {n : Nat} {t : ByteArray} (ho : acyOk n t = true) (h : areOk n t = true) (h0 : 3 ≤ n) (h1 : n ≤ 7)
include ho h h0 h1
theorem impl_scan (L : List Int) (hL : L = (rimL n t).map fun (i : Nat) => (i : Int)) {a : Nat} (ha : outer n (chi n t) a) (hull : List Int) (hh : hull.length ≤ 7) (V : List Int) (hV : Ev (fun k => impl_chi_hull.l0 k (tblL n t) L (hull ++ [(nextN n t a : Int)])) V) (d : Nat) :
    ∀ j, j + d = (rimL n t).length → nextN n t a ∈ (rimL n t).drop j → Ev (fun k => impl_chi_hull.l1 k (tblL n t) L hull (a : Int) L (L.length : Int) (j : Int)) V := by
  have hl : L.length = (rimL n t).length := by rw [hL, List.length_map]
  have hle := rimL_le ho h0 h1
  have hn := next_nx ho h0 h1 ha
  induction d with
  | zero =>
    intro j hj hm
    rw [List.drop_of_length_le (by omega)] at hm
    cases hm
  | succ d ih =>
    intro j hj hm
    have hlt : j < (rimL n t).length := by omega
    rw [List.drop_eq_getElem_cons hlt] at hm
    have hk := (rimL_mem ho h0 h1 _).1 (List.getElem_mem hlt)
    have hr : rd L (j : Int) = ((rimL n t)[j] : Int) := by rw [hL]; exact rd_rim hlt
    refine ev_step ?_
    simp only [impl_chi_hull.l1]
    rw [hr, wrap_id (x := (j : Int) + 1) (by omega) (by omega)]
    refine ev_pos (by omega) (ev_pos (by omega) (ev_pos (by omega) ?_))
    generalize hx : (rimL n t)[j] = x at *
    by_cases e1 : x = a
    · refine ev_pos (by omega) (ih (j + 1) (by omega) ?_)
      rcases List.mem_cons.1 hm with e | e
      · exact absurd (e.trans e1).symm hn.2.2.1
      · exact e
    · refine ev_neg (by omega) (Ev.bind (impl_left h hk.1 ha.1) ?_)
      by_cases e2 : leftV n t x a = 0
      · have e : x = nextN n t a := (nextQ_iff ho h0 h1 ha x).1 (by
          unfold nextQ
          rw [(rim_iff (order_ord ho) h1 x).2 hk, decide_eq_true e1, decide_eq_true e2]
          rfl)
        refine ev_pos (by omega) (ev_pos (by omega) ?_)
        rw [e]
        exact hV
      · refine ev_neg (by omega) (ih (j + 1) (by omega) ?_)
        rcases List.mem_cons.1 hm with e | e
        · have g := (nextQ_iff ho h0 h1 ha x).2 e.symm
          unfold nextQ at g
          simp only [Bool.and_eq_true, decide_eq_true_eq] at g
          exact absurd g.2 e2
        · exact e
theorem impl_hull_loop (L : List Int) (hL : L = (rimL n t).map fun (i : Nat) => (i : Int)) (d : Nat) : ∀ i, 1 ≤ i → i + d = (rimL n t).length → Ev (fun k => impl_chi_hull.l0 k (tblL n t) L (preN n t i)) (preN n t (rimL n t).length) := by
  have hl : L.length = (rimL n t).length := by rw [hL, List.length_map]
  have hle := rimL_le ho h0 h1
  induction d with
  | zero =>
    intro i _ hi
    refine ev_step ?_
    simp only [impl_chi_hull.l0, preN_length]
    refine ev_neg (by omega) (ev_cast (Ev.now _) ?_)
    rw [show i = (rimL n t).length by omega]
  | succ d ih =>
    intro i h1' hi
    obtain ⟨j, rfl⟩ : ∃ j, i = j + 1 := ⟨i - 1, by omega⟩
    refine ev_step ?_
    simp only [impl_chi_hull.l0, preN_length]
    rw [wrap_id (by omega) (by omega), show ((j + 1 : Nat) : Int) - 1 = (j : Int) by omega, preN_rd (show j < j + 1 by omega)]
    refine ev_pos (by omega) (ev_pos (by omega) (ev_pos (by omega) ?_))
    refine impl_scan ho h h0 h1 L hL (seq_outer ho h0 h1 j) _ (by rw [preN_length]; omega) _ ?_ (rimL n t).length 0 (by omega) ?_
    · have := ih (j + 2) (by omega) (by omega)
      rw [preN_succ] at this
      exact this
    · rw [List.drop_zero]
      exact (rim_cycle ho h0 h1).2.2.2 (j + 1)
end
theorem rim_first {n : Nat} {t : ByteArray} (ho : acyOk n t = true) (h0 : 3 ≤ n) (h1 : n ≤ 7) : rd ((rimL n t).map fun (i : Nat) => (i : Int)) 0 = (firstN n t : Int) := by
  have e : (rimL n t).head? = some (firstN n t) := by unfold rimL; rw [List.head?_filter]; exact first_some ho h0 h1
  cases hl : rimL n t with
  | nil => rw [hl] at e; cases e
  | cons x l =>
    rw [hl] at e
    rw [List.head?_cons] at e
    rw [← Option.some.inj e]
    rfl
theorem impl_hull (n : Int) (t : ByteArray) (hs : t.size ≤ 9223372036854775807) : Ev (fun k => impl_HullOf.f k n t) (hullL n t) := by
  unfold impl_HullOf.f hullL
  refine Ev.bind (order_ev n t hs) ?_
  by_cases ho : acyOk n t = true
  · rw [if_pos ho, if_pos ho]
    obtain ⟨N, rfl, h, h0, h1⟩ := acy_are ho
    simp only [Int.toNat_natCast]
    have cy := rim_cycle ho h0 h1
    refine ev_pos (by first | rfl | trivial) (ev_pos (tblL_length _ _) (Ev.bind (a := preN N t (rimL N t).length) ?_ (Ev.now _)))
    unfold impl_chi_hull.f
    rw [tbl_n]
    refine ev_call (fullSet_f h1) (Ev.bind (impl_ext h (full_lt h1)) (Ev.bind (elements_ev (extN_lt t _ h1)) ?_))
    show Ev (fun k => if (0 : Int) < ((listN (rimS N t)).length : Int) then impl_chi_hull.l0 k (tblL N t) (listN (rimS N t)) [rd (listN (rimS N t)) 0] else none) _
    rw [listN_rim, rim_first ho h0 h1]
    refine ev_pos (by rw [List.length_map]; omega) ?_
    exact impl_hull_loop ho h h0 h1 _ rfl ((rimL N t).length - 1) 1 (by omega) (by omega)
  · rw [if_neg ho, if_neg ho]
    exact ev_neg (by decide) (Ev.now _)
end Go.Proofs.Ytbjncemaeagjjaa.M
namespace Go.Proofs.Ytbjncemaeagjjaa.M
open Go.RowKit Go.Proofs.YtbjncemaeagjjaaW.PrintWords Go.Proofs.Ytbjncemaeagjjaa.PX Go.Proofs.Ytbjncemaeagjjaa.G
section
variable {n : Nat} {t : ByteArray} (ho : acyOk n t = true) (h : areOk n t = true) (h0 : 3 ≤ n) (h1 : n ≤ 7)
include h h0 h1
theorem spec_left6 {a k : Nat} (ha : a < n) (hk : k < n) (hak : a ≠ k) : Ev (fun q => spec_l6Left.f q (n : Int) t ((2 ^ n - 1 : Nat) : Int) (a : Int) (k : Int)) (decide (leftV n t k a = 0)) := by
  unfold spec_l6Left.f
  have key := loop_up (σ := Unit) (ρ := Bool) (lo := 0) (n := n) (K := fun _ _ => some true) (L := fun x _ q => spec_l6Left.l0 q ((2 ^ n - 1 : Nat) : Int) (a : Int) (k : Int) x (n : Int) t)
    (fun _ x => if decide (chi n t k a x = 1) then .error false else .ok ()) (fun u => ?_) (fun x _ hx u => ?_) (by omega) ()
  · rw [foldlM_any (fun x => decide (chi n t k a x = 1))] at key
    have e : decide (leftV n t k a = 0) = !((List.range' 0 (n - 0)).any fun x => decide (chi n t k a x = 1)) := by
      unfold leftV
      rw [Bool.eq_iff_iff, decide_eq_true_eq, List.length_eq_zero_iff, List.filter_eq_nil_iff, Bool.not_eq_true', Bool.eq_false_iff]
      constructor
      · intro g e
        obtain ⟨x, hx, hq⟩ := List.any_eq_true.1 e
        exact g x hx hq
      · intro g x hx hq
        exact g (List.any_eq_true.2 ⟨x, hx, hq⟩)
    rw [e]
    cases hq : (List.range' 0 (n - 0)).any fun x => decide (chi n t k a x = 1) with
    | true => rw [hq] at key; exact key
    | false => rw [hq] at key; exact key _ (Ev.now _)
  · refine Goes.step ?_
    simp only [spec_l6Left.l0]
    exact Goes.neg (by omega) (Goes.ok (K := fun _ _ => some true) u)
  · have nxt : Goes (.ok ()) (fun (_ : Unit) q => spec_l6Left.l0 q ((2 ^ n - 1 : Nat) : Int) (a : Int) (k : Int) ((x + 1 : Nat) : Int) (n : Int) t) (fun q => spec_l6Left.l0 q ((2 ^ n - 1 : Nat) : Int) (a : Int) (k : Int) ((x + 1 : Nat) : Int) (n : Int) t) := Goes.ok (K := fun (_ : Unit) q => spec_l6Left.l0 q ((2 ^ n - 1 : Nat) : Int) (a : Int) (k : Int) ((x + 1 : Nat) : Int) (n : Int) t) ()
    refine Goes.step ?_
    simp only [spec_l6Left.l0]
    rw [wrap_id (x := (x : Int) + 1) (by omega) (by omega)]
    refine Goes.pos (by omega) ?_
    by_cases e1 : x = a
    · subst e1
      rw [(chi_zero t h0 h1 (show x < 7 by omega) (show k < 7 by omega)).2.2]
      exact Goes.pos rfl nxt
    · refine Goes.neg (by omega) ?_
      by_cases e2 : x = k
      · subst e2
        rw [(chi_zero t h0 h1 (show x < 7 by omega) (show a < 7 by omega)).2.1]
        exact Goes.pos rfl nxt
      · refine Goes.neg (by omega) (Goes.call (has_ev (full_lt h1) (by omega)) ?_)
        rw [full_bit h1 hx]
        refine Goes.pos rfl (Goes.ev (l3At_ev h ha hk hx hak (by omega) (by omega)) ?_)
        have s := chi_swap1 t h0 h1 (show a < 7 by omega) (show k < 7 by omega) (show x < 7 by omega)
        rcases chi_pm t h0 h1 ha hk hx hak (by omega) (by omega) with w | w
        · rw [s, w]
          exact Goes.neg (by omega) nxt
        · rw [s, w]
          exact Goes.pos (by omega) (Goes.ret _)
omit h h0 h1 in
theorem fold_last (c : Nat → Bool) (m : Nat) (l : List Nat) : ∀ s : Int, (∀ k ∈ l, c k = true → k = m) → ((m ∈ l ∧ c m = true) ∨ s = (m : Int)) → l.foldl (fun (s : Int) k => if c k = true then (k : Int) else s) s = (m : Int) := by
  induction l with
  | nil =>
    intro s _ hs
    rcases hs with ⟨hm, _⟩ | e
    · cases hm
    · exact e
  | cons x l ih =>
    intro s hu hs
    rw [List.foldl_cons]
    refine ih _ (fun k hk => hu k (List.mem_cons_of_mem _ hk)) ?_
    by_cases g : c x = true
    · rw [if_pos g]
      exact .inr (by rw [hu x List.mem_cons_self g])
    · rw [if_neg g]
      rcases hs with ⟨hm, hc⟩ | e
      · rcases List.mem_cons.1 hm with e | e
        · rw [e] at hc; exact absurd hc g
        · exact .inl ⟨e, hc⟩
      · exact .inr e
include ho
theorem spec_hull_loop (d : Nat) : ∀ i, i + 1 + d = (rimL n t).length → Ev (fun k => spec_HullOf.l1 k (preN n t i) ((2 ^ n - 1 : Nat) : Int) (rimS n t : Int) (seqN n t i : Int) (i : Int) (n : Int) t) (preN n t (rimL n t).length) := by
  have hle := rimL_le ho h0 h1
  have cy := rim_cycle ho h0 h1
  have hr7 : rimS n t < 128 := extN_lt t _ h1
  have inner : ∀ i V, Ev (fun k => if (0 : Int) < ((preN n t (i + 1)).length : Int) then (if (seqN n t (i + 1) : Int) = rd (preN n t (i + 1)) 0 then some (preN n t (i + 1)) else (if (seqN n t (i + 1) : Int) < 0 then some (preN n t (i + 1)) else spec_HullOf.l1 k (preN n t (i + 1)) ((2 ^ n - 1 : Nat) : Int) (rimS n t : Int) (seqN n t (i + 1) : Int) (wrap64 ((i : Int) + 1)) (n : Int) t)) else none) V →
      Ev (fun k => spec_HullOf.l2 k (preN n t (i + 1)) ((2 ^ n - 1 : Nat) : Int) (rimS n t : Int) (seqN n t i : Int) (i : Int) (-1) 0 (n : Int) t) V := by
    intro i V hV
    have ha := seq_outer ho h0 h1 i
    have key := loop_up (σ := Int) (ρ := List Int) (lo := 0) (n := n) (K := fun s k => if (0 : Int) < ((preN n t (i + 1)).length : Int) then (if s = rd (preN n t (i + 1)) 0 then some (preN n t (i + 1)) else (if s < 0 then some (preN n t (i + 1)) else spec_HullOf.l1 k (preN n t (i + 1)) ((2 ^ n - 1 : Nat) : Int) (rimS n t : Int) s (wrap64 ((i : Int) + 1)) (n : Int) t)) else none)
      (L := fun x s k => spec_HullOf.l2 k (preN n t (i + 1)) ((2 ^ n - 1 : Nat) : Int) (rimS n t : Int) (seqN n t i : Int) (i : Int) s x (n : Int) t)
      (fun s x => .ok (if nextQ n t (seqN n t i) x = true then (x : Int) else s)) (fun s => ?_) (fun x _ hx s => ?_) (by omega) (-1)
    · rw [foldlM_ok, fold_last (nextQ n t (seqN n t i)) (nextN n t (seqN n t i)) _ _ (fun k _ hk => (nextQ_iff ho h0 h1 ha k).1 hk) (.inl ⟨?_, (nextQ_iff ho h0 h1 ha _).2 rfl⟩)] at key
      · exact key _ hV
      · have := (next_nx ho h0 h1 ha).2.1
        rw [List.mem_range'_1]
        omega
    · refine Goes.step ?_
      simp only [spec_HullOf.l2]
      exact Goes.neg (by omega) (Goes.ok (K := fun s k => if (0 : Int) < ((preN n t (i + 1)).length : Int) then (if s = rd (preN n t (i + 1)) 0 then some (preN n t (i + 1)) else (if s < 0 then some (preN n t (i + 1)) else spec_HullOf.l1 k (preN n t (i + 1)) ((2 ^ n - 1 : Nat) : Int) (rimS n t : Int) s (wrap64 ((i : Int) + 1)) (n : Int) t)) else none) s)
    · refine Goes.step ?_
      simp only [spec_HullOf.l2]
      rw [wrap_id (x := (x : Int) + 1) (by omega) (by omega)]
      refine Goes.pos (by omega) ?_
      by_cases e1 : x = seqN n t i
      · rw [if_neg (show ¬ nextQ n t (seqN n t i) x = true by unfold nextQ; rw [decide_eq_false (p := x ≠ seqN n t i) (fun g => g e1), Bool.and_false, Bool.false_and]; decide)]
        exact Goes.pos (by omega) (Goes.ok (K := fun s k => spec_HullOf.l2 k (preN n t (i + 1)) ((2 ^ n - 1 : Nat) : Int) (rimS n t : Int) (seqN n t i : Int) (i : Int) s ((x + 1 : Nat) : Int) (n : Int) t) s)
      · refine Goes.neg (by omega) (Goes.call (has_ev hr7 (by omega)) ?_)
        cases e2 : (rimS n t).testBit x with
        | false =>
          rw [if_neg (show ¬ nextQ n t (seqN n t i) x = true by unfold nextQ; rw [e2, Bool.false_and, Bool.false_and]; decide)]
          exact Goes.neg (by decide) (Goes.ok (K := fun s k => spec_HullOf.l2 k (preN n t (i + 1)) ((2 ^ n - 1 : Nat) : Int) (rimS n t : Int) (seqN n t i : Int) (i : Int) s ((x + 1 : Nat) : Int) (n : Int) t) s)
        | true =>
          refine Goes.pos rfl (Goes.ev (spec_left6 h h0 h1 ha.1 hx (fun e => e1 e.symm)) ?_)
          by_cases e3 : leftV n t x (seqN n t i) = 0
          · rw [if_pos (show nextQ n t (seqN n t i) x = true by unfold nextQ; rw [e2, decide_eq_true e1, decide_eq_true e3]; rfl)]
            exact Goes.pos (decide_eq_true e3) (Goes.ok (K := fun s k => spec_HullOf.l2 k (preN n t (i + 1)) ((2 ^ n - 1 : Nat) : Int) (rimS n t : Int) (seqN n t i : Int) (i : Int) s ((x + 1 : Nat) : Int) (n : Int) t) _)
          · rw [if_neg (show ¬ nextQ n t (seqN n t i) x = true by unfold nextQ; rw [decide_eq_false e3, Bool.and_false]; decide)]
            exact Goes.neg (by rw [decide_eq_false e3]; decide) (Goes.ok (K := fun s k => spec_HullOf.l2 k (preN n t (i + 1)) ((2 ^ n - 1 : Nat) : Int) (rimS n t : Int) (seqN n t i : Int) (i : Int) s ((x + 1 : Nat) : Int) (n : Int) t) s)
  have first : ∀ i, rd (preN n t (i + 1)) 0 = (firstN n t : Int) := fun i => preN_rd (i := i + 1) (j := 0) (by omega)
  induction d with
  | zero =>
    intro i hi
    refine ev_step ?_
    simp only [spec_HullOf.l1, preN_length]
    rw [← preN_succ]
    refine ev_pos (by omega) (ev_pos (by omega) (inner i _ ?_))
    rw [preN_length, first]
    refine ev_pos (by omega) (ev_pos ?_ (ev_cast (Ev.now _) ?_))
    · rw [show i + 1 = (rimL n t).length by omega, cy.2.1]
    · rw [show i + 1 = (rimL n t).length by omega]
  | succ d ih =>
    intro i hi
    refine ev_step ?_
    simp only [spec_HullOf.l1, preN_length]
    rw [← preN_succ]
    refine ev_pos (by omega) (ev_pos (by omega) (inner i _ ?_))
    rw [preN_length, first, wrap_id (x := (i : Int) + 1) (by omega) (by omega)]
    have ne := cy.2.2.1 (i + 1) (by omega) (by omega)
    exact ev_pos (by omega) (ev_neg (by omega) (ev_neg (by omega) (ih (i + 1) (by omega))))
omit h in
theorem spec_first (V : List Int) (hV : Ev (fun k => spec_HullOf.l1 k [] ((2 ^ n - 1 : Nat) : Int) (rimS n t : Int) (firstN n t : Int) 0 (n : Int) t) V) (d : Nat) : ∀ i, i + d = firstN n t → Ev (fun k => spec_HullOf.l0 k [] ((2 ^ n - 1 : Nat) : Int) (rimS n t : Int) (i : Int) (n : Int) t) V := by
  have hr7 : rimS n t < 128 := extN_lt t _ h1
  obtain ⟨f1, f2, f3⟩ := List.find?_range_eq_some.1 (first_some ho h0 h1)
  rw [List.mem_range] at f2
  induction d with
  | zero =>
    intro i hi
    obtain rfl : i = firstN n t := by omega
    refine ev_step ?_
    simp only [spec_HullOf.l0]
    refine ev_call (has_ev hr7 (by omega)) ?_
    rw [f1]
    exact ev_pos rfl hV
  | succ d ih =>
    intro i hi
    refine ev_step ?_
    simp only [spec_HullOf.l0]
    refine ev_call (has_ev hr7 (by omega)) ?_
    have g := f3 i (by omega)
    rw [Bool.not_eq_true'] at g
    rw [g, wrap_id (x := (i : Int) + 1) (by omega) (by omega)]
    exact ev_neg (by decide) (ih (i + 1) (by omega))
end
theorem spec_hull (n : Int) (t : ByteArray) (hs : t.size ≤ 9223372036854775807) : Ev (fun k => spec_HullOf.f k n t) (hullL n t) := by
  unfold spec_HullOf.f hullL
  refine ev_call rfl (Ev.bind (spec_isA n t hs) ?_)
  by_cases ho : acyOk n t = true
  · rw [if_pos ho]
    obtain ⟨N, rfl, h, h0, h1⟩ := acy_are ho
    simp only [Int.toNat_natCast]
    have cy := rim_cycle ho h0 h1
    rw [u64_id h1, full_ev h1]
    refine ev_pos ho (ev_pos (by omega) (Ev.bind (spec_ext h (full_lt h1)) ?_))
    exact spec_first ho h0 h1 _ (spec_hull_loop ho h h0 h1 ((rimL N t).length - 1) 0 (by omega)) (firstN N t) 0 (by omega)
  · rw [if_neg ho]
    exact ev_neg ho (Ev.now _)
end Go.Proofs.Ytbjncemaeagjjaa.M
namespace Go.Proofs.Ytbjncemaeagjjaa.Pure
open Go.RowKit Go.Proofs.YtbjncemaeagjjaaW.PrintWords Go.Proofs.Ytbjncemaeagjjaa.PX Go.Proofs.Ytbjncemaeagjjaa.M
theorem FnExactHullOf (n : Int) (t : ByteArray) (_ : (Lit.int .i64 n).wf = true) (hs : t.size ≤ 9223372036854775807) :
    ∃ k, laws_FnExactHullOf.f k n t = some true := by
  refine Ev.rounds (r := true) ?_
  unfold laws_FnExactHullOf.f
  obtain ⟨r, hr⟩ := sz_signs n t
  refine ev_call hr ?_
  by_cases h : r < 0
  · exact ev_pos h (Ev.now _)
  have hl := hullL_length n t
  have hsp := spec_hull n t hs
  have him := impl_hull n t hs
  generalize hullL n t = V at hl hsp him
  refine ev_neg h (ev_call (a := (n, t)) rfl (Ev.bind hsp (ev_call (a := (n, t)) rfl (Ev.bind him (Ev.bind (eqIntS_self _ (by omega)) (ev_pos rfl ?_))))))
  refine Ev.bind (mark_ev _ (by omega)) (Ev.bind (held_ev _ (by omega)) (ev_neg (by omega) (ev_pos rfl ?_)))
  refine ev_call (a := (n, t)) rfl (Ev.bind him (Ev.bind (eqIntS_self _ (by omega)) (ev_pos rfl ?_)))
  exact Ev.bind (held_ev _ (by omega)) (ev_neg (by omega) (ev_pos rfl (Ev.now _)))
end Go.Proofs.Ytbjncemaeagjjaa.Pure
namespace Go.Proofs.Ytbjncemaeagjjaa.fnExactHullOf
open Go.ChangeShapes Go.WideShapes Go.ChangeAt Go.RowKit Go.Joins
open Go.ChangeMaps (open_string shut_string)
set_option linter.unusedVariables false
theorem own : ownKnob Try.prog.godebug = none := by kernel_rfl
theorem str_mk {H : Type} {enc : TypeId × Value → H} {P : Program} {w : World} {base : Nat} {spare : Nat → Bool} {held : Bool} {t : TypeId} {s : ByteArray} (ht : P.underlying t = some .string) (hs : s.size ≤ maxLen) : DataW.trod enc P w base spare held 1 t [.string s] = some (.lit (.string s.data.toList), []) := by
  simp [DataW.trod, ht, hs]
set_option maxRecDepth 100000 in
theorem lifted (os : Os) (started : os.Started) (H : Type) (enc : TypeId × Value → H) :
    ReturnsInHanded {} Try.checked os 9 .any (Rows.fnExactHullOfSpec.pre6 enc Try.prog Try.f9 Rows.fnExactHullOfRow.domain false) (Rows.fnExactHullOfSpec.post enc Try.prog Try.f9 false true false false) := by
  refine returnsInHanded_of_change_sized (C := Try.checked) own started (by kernel_rfl) Try.func9
    (ChangeSpec.witness6 (enc := enc) (C := Try.checked) false ⟨#[], #[.agg #[.int .i64 0, .string ByteArray.empty]], []⟩ 8 (by kernel_rfl) (by kernel_rfl) (by kernel_rfl) (by kernel_rfl)) ?_
  intro W base args ds gs before hval0 hW hcnd hsz0 _
  have hsz : (DataW.weightsEach Try.prog (Try.f9.params.toList ++ Rows.fnExactHullOfSpec.plain.varTypes Try.prog) (ds ++ gs)).all (· ≤ reachBytes) = true := hsz0
  have hval : ∀ (j : Nat) t v, Try.f9.params[j]? = some t → args[j]? = some v → Value.okWide Try.prog W .any base t v := hval0
  have hW' := hW
  obtain ⟨p, q, hA0, hV, rfl, hfz, hnd⟩ := hW
  have hA : DataW.TrodAll enc Try.prog W 0 (fun _ => true) true Try.f9.params.toList args.toList ds p := hA0
  rw [Try.params9] at hA hval hsz
  obtain ⟨v0, vs0, d0, ds0, p0, q0, hargs, rfl, rfl, h0, r0⟩ := trodAll_cons hA
  obtain ⟨rfl, rfl, rfl⟩ := trodAll_nil r0
  obtain rfl : args = #[v0] := by cases args; simp_all
  obtain ⟨rfl, rfl⟩ := trodVars_none hV
  obtain ⟨c0_0, c0_1, y0_0, y0_1, m0, rfl, rfl, rfl, hy0_0, hy0_1⟩ := open_agg2 Try.underlying23 (by kernel_rfl) (by kernel_rfl) (hval 0 23 v0 rfl rfl) h0
  obtain ⟨a0_0, e0_0, rfl, wa0⟩ := DataW.trod_int Try.underlying3 hy0_0
  obtain ⟨a0_1, e0_1, rfl, ws0⟩ := DataW.trod_string Try.underlying9 hy0_1
  simp only [List.cons.injEq, and_true] at e0_0 e0_1
  subst e0_0 e0_1
  clear hA0 hval0 hsz0 hsz
  obtain ⟨k, hP⟩ := Pure.FnExactHullOf a0_0 a0_1 wa0 ws0
  refine (PX.laws_FnExactHullOf.calls k a0_0 a0_1 true W hP rfl).mono fun e W' ⟨he, bel⟩ => ?_
  subst he
  exact ⟨_, rfl, _, _, _, [], _, [], hW', trodAll_mk1 (shut_bool Try.underlying4 _), (trodAll_cons_mk (shut_agg2 Try.underlying23 (by kernel_rfl) (by kernel_rfl) ⟨_, trod_int_mk 0 Try.underlying3 wa0⟩ ⟨_, str_mk Try.underlying9 ws0⟩) trodAll_mk0), rfl, bel.frame _, fun h => by cases h⟩
theorem over : Rows.fnExactHullOfRow.holds Try.pinned (OpenSpec.ofChange Rows.fnExactHullOfSpec) :=
  OpenClaim.holds_of_wide 9 Try.f9 rfl rfl rfl rfl rfl rfl rfl ⟨rfl, rfl, rfl, rfl, rfl⟩ rfl rfl rfl rfl rfl (by kernel_rfl) Try.func9 (by kernel_rfl)
    (of_decide_eq_true (by kernel_rfl)) (by unfold Func.isWrapper; first | (rw [if_pos (by decide +kernel)]; kernel_rfl) | (rw [if_neg (by decide +kernel)]; exact ⟨rfl, rfl⟩))
    (fun os started H enc _ => lifted os started H enc)
theorem proved : Rows.FnExactHullOfSaid := over
#print axioms proved
end Go.Proofs.Ytbjncemaeagjjaa.fnExactHullOf
namespace Go.Proofs.Ytbjncemaeagjjaa
/-- The row, under a short name, for the claim. -/
theorem fnExactHullOf_holds : Rows.FnExactHullOfSaid := fnExactHullOf.proved
end Go.Proofs.Ytbjncemaeagjjaa
