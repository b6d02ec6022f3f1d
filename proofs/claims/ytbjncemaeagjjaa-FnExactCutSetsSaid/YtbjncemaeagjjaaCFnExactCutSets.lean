/- FnExactCutSets returns true for all arguments and leaves them as they were. No condition. -/
import Derived.Test.YtbjncemaeagjjaaProg
import Derived.Test.YtbjncemaeagjjaaRows
import Derived.WalkKit
import Derived.ProofKit
import Derived.OpenShut
import Derived.ShutString
import Derived.ChangeOld
import Derived.Below
import Derived.SizedLaws
import Derived.Lib.SmallJoins
import Derived.ChangeSame
import Derived.Test.YtbjncemaeagjjaaV1
import Derived.Test.YtbjncemaeagjjaaBmknilo1
import Derived.Test.YtbjncemaeagjjaaBmknilo2
import Derived.Test.YtbjncemaeagjjaaBlqmajn1
import Derived.Test.YtbjncemaeagjjaaBnvcpjt1
import Derived.Test.YtbjncemaeagjjaaBmknilo3
set_option linter.unusedVariables false
set_option linter.unusedSimpArgs false
namespace Go.Proofs.Ytbjncemaeagjjaa.PX
open Go.RowKit Go.Proofs.Ytbjncemaeagjjaa.G Go.Proofs.YtbjncemaeagjjaaW.PrintWords Go.Proofs.YtbjncemaeagjjaaW.PrintLast Go.Proofs.YtbjncemaeagjjaaW.PrintMore
attribute [local go_sem] max2_int min2_int max_two min_two max_three min_three max_four min_four   -- for this text's walks alone
set_option linter.unusedVariables false
set_option linter.unusedSimpArgs false
/-! ### spec_l7Apart: function 57 -/
mutual
def spec_l7Apart.l0 : Nat → Int → Int → Int → Int → ByteArray → Option (Bool)
 | 0, _, _, _, _, _ => none
 | k + 1, x1, x5, x6, x652000, x652001 => if x6 < x652000 then ((spec_l6Has.f x1 x6).bind fun t652 => (if t652 = true then ((spec_l6In.f k x652000 x652001 x5 x6).bind fun t653 => (if t653 = true then (some false) else ((spec_l6Has.f x5 x6).bind fun t654 => (if t654 = true then ((spec_l6In.f k x652000 x652001 x1 x6).bind fun t655 => (if t655 = true then (some false) else (spec_l7Apart.l0 k x1 x5 (wrap64 (x6 + 1)) x652000 x652001))) else (spec_l7Apart.l0 k x1 x5 (wrap64 (x6 + 1)) x652000 x652001))))) else ((spec_l6Has.f x5 x6).bind fun t656 => (if t656 = true then ((spec_l6In.f k x652000 x652001 x1 x6).bind fun t657 => (if t657 = true then (some false) else (spec_l7Apart.l0 k x1 x5 (wrap64 (x6 + 1)) x652000 x652001))) else (spec_l7Apart.l0 k x1 x5 (wrap64 (x6 + 1)) x652000 x652001))))) else (spec_l7Apart.l1 k x1 0 x652000 x652001)
def spec_l7Apart.l1 : Nat → Int → Int → Int → ByteArray → Option (Bool)
 | 0, _, _, _, _ => none
 | k + 1, x1, x7, x652000, x652001 => if x7 < x652000 then (spec_l7Apart.l2 k x1 x7 (wrap64 (x7 + 1)) x652000 x652001) else (some true)
def spec_l7Apart.l2 : Nat → Int → Int → Int → Int → ByteArray → Option (Bool)
 | 0, _, _, _, _, _ => none
 | k + 1, x1, x7, x8, x652000, x652001 => if x8 < x652000 then (spec_l7Apart.l3 k x1 x7 x8 0 x652000 x652001) else (spec_l7Apart.l1 k x1 (wrap64 (x7 + 1)) x652000 x652001)
def spec_l7Apart.l3 : Nat → Int → Int → Int → Int → Int → ByteArray → Option (Bool)
 | 0, _, _, _, _, _, _ => none
 | k + 1, x1, x7, x8, x9, x652000, x652001 => if x9 < x652000 then (spec_l7Apart.l4 k x1 x7 x8 x9 (wrap64 (x9 + 1)) x652000 x652001) else (spec_l7Apart.l2 k x1 x7 (wrap64 (x8 + 1)) x652000 x652001)
def spec_l7Apart.l4 : Nat → Int → Int → Int → Int → Int → Int → ByteArray → Option (Bool)
 | 0, _, _, _, _, _, _, _ => none
 | k + 1, x1, x7, x8, x9, x10, x652000, x652001 => if x10 < x652000 then ((spec_l6Has.f x1 x7).bind fun t658 => (if t658 = true then ((spec_l6Has.f x1 x8).bind fun t659 => (if t659 = true then ((spec_l6Has.f x1 x9).bind fun t660 => (if t660 = true then (spec_l7Apart.j5 k x1 x7 x8 x9 x10 true x652000 x652001) else ((spec_l6Has.f x1 x10).bind fun t661 => (spec_l7Apart.j5 k x1 x7 x8 x9 x10 t661 x652000 x652001)))) else (spec_l7Apart.j5 k x1 x7 x8 x9 x10 true x652000 x652001))) else (spec_l7Apart.j5 k x1 x7 x8 x9 x10 true x652000 x652001))) else (spec_l7Apart.l3 k x1 x7 x8 (wrap64 (x9 + 1)) x652000 x652001)
def spec_l7Apart.j5 : Nat → Int → Int → Int → Int → Int → Bool → Int → ByteArray → Option (Bool)
 | 0, _, _, _, _, _, _, _, _ => none
 | k + 1, x1, x7, x8, x9, x10, x93, x652000, x652001 => if x93 = true then (spec_l7Apart.l4 k x1 x7 x8 x9 (wrap64 (x10 + 1)) x652000 x652001) else ((spec_l5Split.f k x652000 x652001 (([x7, x8, x9, x10] : List Int))).bind fun bt665 => (if 0 ≤ (IntKind.u64.wrap (x7)) then (if 0 ≤ (IntKind.u64.wrap (x8)) then (if bt665.1 = (wrap64 ((shl .i64 1 (IntKind.u64.wrap (x7))) + (shl .i64 1 (IntKind.u64.wrap (x8))))) then (some false) else (spec_l7Apart.l4 k x1 x7 x8 x9 (wrap64 (x10 + 1)) x652000 x652001)) else (none)) else (none)))
end
def spec_l7Apart.f (k : Nat) (a0_0 : Int) (a0_1 : ByteArray) (a1 : Int) : Option (Bool) := if 0 ≤ (IntKind.u64.wrap (a0_0)) then (spec_l7Apart.l0 k a1 (wrap64 ((wrap64 ((shl .i64 1 (IntKind.u64.wrap (a0_0))) - 1)) - a1)) 0 a0_0 a0_1) else (none)
theorem spec_l7Apart.mono_l : ∀ k, (∀ y0 y1 y2 y3 y4, LeO (spec_l7Apart.l0 k y0 y1 y2 y3 y4) (spec_l7Apart.l0 (k + 1) y0 y1 y2 y3 y4)) ∧ (∀ y0 y1 y2 y3, LeO (spec_l7Apart.l1 k y0 y1 y2 y3) (spec_l7Apart.l1 (k + 1) y0 y1 y2 y3)) ∧ (∀ y0 y1 y2 y3 y4, LeO (spec_l7Apart.l2 k y0 y1 y2 y3 y4) (spec_l7Apart.l2 (k + 1) y0 y1 y2 y3 y4)) ∧ (∀ y0 y1 y2 y3 y4 y5, LeO (spec_l7Apart.l3 k y0 y1 y2 y3 y4 y5) (spec_l7Apart.l3 (k + 1) y0 y1 y2 y3 y4 y5)) ∧ (∀ y0 y1 y2 y3 y4 y5 y6, LeO (spec_l7Apart.l4 k y0 y1 y2 y3 y4 y5 y6) (spec_l7Apart.l4 (k + 1) y0 y1 y2 y3 y4 y5 y6)) ∧ (∀ y0 y1 y2 y3 y4 y5 y6 y7, LeO (spec_l7Apart.j5 k y0 y1 y2 y3 y4 y5 y6 y7) (spec_l7Apart.j5 (k + 1) y0 y1 y2 y3 y4 y5 y6 y7))
 | 0 => ⟨fun _ _ _ _ _ r h => by simp [spec_l7Apart.l0] at h, fun _ _ _ _ r h => by simp [spec_l7Apart.l1] at h, fun _ _ _ _ _ r h => by simp [spec_l7Apart.l2] at h, fun _ _ _ _ _ _ r h => by simp [spec_l7Apart.l3] at h, fun _ _ _ _ _ _ _ r h => by simp [spec_l7Apart.l4] at h, fun _ _ _ _ _ _ _ _ r h => by simp [spec_l7Apart.j5] at h⟩
 | k + 1 => by
  obtain ⟨ih0, ih1, ih2, ih3, ih4, ih5⟩ := spec_l7Apart.mono_l k
  refine ⟨?_, ?_, ?_, ?_, ?_, ?_⟩ <;> intros <;> (first | unfold spec_l7Apart.l0 | unfold spec_l7Apart.l1 | unfold spec_l7Apart.l2 | unfold spec_l7Apart.l3 | unfold spec_l7Apart.l4 | unfold spec_l7Apart.j5) <;> repeat' first
  | (with_reducible exact ih0 _ _ _ _ _)
  | (with_reducible exact ih1 _ _ _ _)
  | (with_reducible exact ih2 _ _ _ _ _)
  | (with_reducible exact ih3 _ _ _ _ _ _)
  | (with_reducible exact ih4 _ _ _ _ _ _ _)
  | (with_reducible exact ih5 _ _ _ _ _ _ _ _)
  | (with_reducible exact spec_l5Split.mono _ _ _ _)
  | (with_reducible exact spec_l6In.mono _ _ _ _ _)
  | (with_reducible exact LeO.refl _)
  | (with_reducible exact LeO.none _)
  | (with_reducible refine LeO.ite ?_ ?_)
  | (with_reducible refine LeO.bind ?_ (fun _ => ?_))
  | exact ih0 _ _ _ _ _
  | exact ih1 _ _ _ _
  | exact ih2 _ _ _ _ _
  | exact ih3 _ _ _ _ _ _
  | exact ih4 _ _ _ _ _ _ _
  | exact ih5 _ _ _ _ _ _ _ _
  | exact spec_l5Split.mono _ _ _ _
  | exact spec_l6In.mono _ _ _ _ _
  | exact LeO.none _
  | refine LeO.ite ?_ ?_
  | refine LeO.bind ?_ (fun _ => ?_)
theorem spec_l7Apart.mono : ∀ a0 a1 a2 k, LeO (spec_l7Apart.f k a0 a1 a2) (spec_l7Apart.f (k + 1) a0 a1 a2) := by
 intro a0 a1 a2 k
 obtain ⟨ih0, ih1, ih2, ih3, ih4, ih5⟩ := spec_l7Apart.mono_l k
 unfold spec_l7Apart.f
 repeat' first
   | (with_reducible exact ih0 _ _ _ _ _)
   | (with_reducible exact ih1 _ _ _ _)
   | (with_reducible exact ih2 _ _ _ _ _)
   | (with_reducible exact ih3 _ _ _ _ _ _)
   | (with_reducible exact ih4 _ _ _ _ _ _ _)
   | (with_reducible exact ih5 _ _ _ _ _ _ _ _)
   | (with_reducible exact spec_l5Split.mono _ _ _ _)
   | (with_reducible exact spec_l6In.mono _ _ _ _ _)
   | (with_reducible exact LeO.refl _)
   | (with_reducible exact LeO.none _)
   | (with_reducible refine LeO.ite ?_ ?_)
   | (with_reducible refine LeO.bind ?_ (fun _ => ?_))
   | exact ih0 _ _ _ _ _
   | exact ih1 _ _ _ _
   | exact ih2 _ _ _ _ _
   | exact ih3 _ _ _ _ _ _
   | exact ih4 _ _ _ _ _ _ _
   | exact ih5 _ _ _ _ _ _ _ _
   | exact spec_l5Split.mono _ _ _ _
   | exact spec_l6In.mono _ _ _ _ _
   | exact LeO.none _
   | refine LeO.ite ?_ ?_
   | refine LeO.bind ?_ (fun _ => ?_)
set_option maxHeartbeats 8000000 in
set_option maxRecDepth 100000 in
theorem spec_l7Apart.calls (k : Nat) (a0_0 : Int) (a0_1 : ByteArray) (a1 : Int) (r : Bool) (w : World) (h : spec_l7Apart.f k a0_0 a0_1 a1 = some r) :
  Calls Try.prog 57 #[.agg #[.int .i64 a0_0, .string a0_1], .int .i64 a1] w fun e w' => e = .returned (.bool r) ∧ Below w.heap.size w w' := by
 have hu26 := Try.underlying26
 have HB := Aside0.mk (Below.refl w.heap.size w)
 have H : (if 0 ≤ (IntKind.u64.wrap (a0_0)) then (spec_l7Apart.l0 k a1 (wrap64 ((wrap64 ((shl .i64 1 (IntKind.u64.wrap (a0_0))) - 1)) - a1)) 0 a0_0 a0_1) else (none)) = some r := h
 clear h
 obtain ⟨ji3, hji3⟩ : ∃ j_ : Int, (IntKind.u64.wrap (a0_0)) = j_ := ⟨_, rfl⟩
 replace H : (if 0 ≤ (ji3) then (spec_l7Apart.l0 k a1 (wrap64 ((wrap64 ((shl .i64 1 (ji3)) - 1)) - a1)) 0 a0_0 a0_1) else (none)) = some r := by first | (rw [hji3] at H; exact H) | (simp only [hji3] at H ⊢; exact H)
 by_cases c4 : 0 ≤ (ji3)
 ·rw [if_pos c4] at H
  have c4b0 := eq_true c4
  have c4b1 : decide (0 ≤ (ji3)) = true := decide_eq_true c4
  clear c4
  obtain ⟨ji5, hji5⟩ : ∃ j_ : Int, (shl .i64 1 (ji3)) = j_ := ⟨_, rfl⟩
  replace H : (spec_l7Apart.l0 k a1 (wrap64 ((wrap64 ((ji5) - 1)) - a1)) 0 a0_0 a0_1) = some r := by first | (rw [hji5] at H; exact H) | (simp only [hji5] at H ⊢; exact H)
  have hji5_ : (IntKind.i64.wrap (1 * 2 ^ min (ji3).toNat 64)) = ji5 := hji5
  have hji5z : (ji3) ≤ 64 → (IntKind.i64.wrap (1 * 2 ^ (ji3).toNat)) = ji5 := shl_small hji5
  have hji5u : (IntKind.i64.wrap (2 ^ min (ji3).toNat 64)) = ji5 := by have h_ := hji5_; rw [Int.one_mul] at h_; exact h_
  have hji5v : (ji3) ≤ 64 → (IntKind.i64.wrap (2 ^ (ji3).toNat)) = ji5 := fun hle_ => by have h_ := hji5z hle_; rw [Int.one_mul] at h_; exact h_
  have hji5y : (wrap64 (1 * 2 ^ min (ji3).toNat 64)) = ji5 := (i64_w _).symm.trans hji5_
  have hji5x : (ji3) ≤ 64 → (wrap64 (1 * 2 ^ (ji3).toNat)) = ji5 := fun h_ => (i64_w _).symm.trans (hji5z h_)
  have H' := Aside0.mk H
  clear H
  go_enter Try.func57, Try.ntmps57
  go_wp2_with (first | ((with_reducible refine gate_dst (N := 2) rfl ?_); refine box_event ?hg (N := 2) ?hd (cs := #[.int .i64 a0_0, .string a0_1]) (t := 26) ?hr ?_; (case hd => rfl); (case hg => rfl); (case hr => first | (go_simp; done) | (go_simp; rfl)); intro gb651 hg w6 hbox hb; have BK651 := Aside0.mk (hbox); have GW651 := Aside0.mk ((by rw [hg]; exact (below_size zB) : w.heap.size ≤ gb651)); have GE651 := Aside0.mk ((by rw [hg]; exact (below_size zB) : w.heap.size ≤ gb651)); replace HB := Aside0.mk (below_step zB hb); clear hb hbox hg; have hcz7_0 : w6.cell? ⟨gb651, 0, none⟩ = some (.int .i64 a0_0) := (blk_cell BK651.out 0).trans rfl; have hcz7_1 : w6.cell? ⟨gb651, 1, none⟩ = some (.string a0_1) := (blk_cell BK651.out 1).trans rfl; have hfz7_0 := blk_frozen BK651.out 0; have hfz7_1 := blk_frozen BK651.out 1))
  go_loopg [6] k (fun kq v6 w' => ∃ (x6_1 : Int), v6 = .int .i64 x6_1 ∧ Aside0 (spec_l7Apart.l0 kq a1 (wrap64 ((wrap64 ((ji5) - 1)) - a1)) x6_1 a0_0 a0_1 = some r) ∧ Aside0 (kq ≤ k) ∧ Aside0 (w'.heap[gb651]? = some (.cells #[.int .i64 a0_0, .string a0_1] 26 (0, 0))) ∧ Aside0 (Below w.heap.size w w'))
  case atStart => exact ⟨(0), zF, H', ⟨Nat.le_refl _⟩, ⟨zK BK651.out⟩, ⟨zG GE651.out⟩⟩
  case round =>
   clear H'
   try clear p2
   try clear c4
   try clear c4b0
   try clear c4b1
   try clear c5
   try clear p6
   try clear hcz7_0
   try clear hcz7_1
   try clear hfz7_0
   try clear hfz7_1
   obtain ⟨x6_1, rfl, HA, HK1, BK651, HB⟩ := hrel
   cases gk with
   | zero => exact absurd HA.out (by simp [spec_l7Apart.l0])
   | succ k1 =>
    have H := HA.out
    clear HA
    simp only [spec_l7Apart.l0] at H
    by_cases c8 : x6_1 < a0_0
    ·rw [if_pos c8] at H
     have c8b0 : decide (x6_1 < a0_0) = true := decide_eq_true c8
     clear c8
     replace H := Option.bind_eq_some_iff.mp H
     obtain ⟨t652, A90, H⟩ := H
     replace H : (if t652 = true then ((spec_l6In.f k1 a0_0 a0_1 (wrap64 ((wrap64 ((ji5) - 1)) - a1)) x6_1).bind fun t653 => (if t653 = true then (some false) else ((spec_l6Has.f (wrap64 ((wrap64 ((ji5) - 1)) - a1)) x6_1).bind fun t654 => (if t654 = true then ((spec_l6In.f k1 a0_0 a0_1 a1 x6_1).bind fun t655 => (if t655 = true then (some false) else (spec_l7Apart.l0 k1 a1 (wrap64 ((wrap64 ((ji5) - 1)) - a1)) (wrap64 (x6_1 + 1)) a0_0 a0_1))) else (spec_l7Apart.l0 k1 a1 (wrap64 ((wrap64 ((ji5) - 1)) - a1)) (wrap64 (x6_1 + 1)) a0_0 a0_1))))) else ((spec_l6Has.f (wrap64 ((wrap64 ((ji5) - 1)) - a1)) x6_1).bind fun t656 => (if t656 = true then ((spec_l6In.f k1 a0_0 a0_1 a1 x6_1).bind fun t657 => (if t657 = true then (some false) else (spec_l7Apart.l0 k1 a1 (wrap64 ((wrap64 ((ji5) - 1)) - a1)) (wrap64 (x6_1 + 1)) a0_0 a0_1))) else (spec_l7Apart.l0 k1 a1 (wrap64 ((wrap64 ((ji5) - 1)) - a1)) (wrap64 (x6_1 + 1)) a0_0 a0_1)))) = some r := H
     have A9 := Aside0.mk A90
     clear A90
     by_cases c10 : t652 = true
     ·subst c10
      have H1 : ((spec_l6In.f k1 a0_0 a0_1 (wrap64 ((wrap64 ((ji5) - 1)) - a1)) x6_1).bind fun t653 => (if t653 = true then (some false) else ((spec_l6Has.f (wrap64 ((wrap64 ((ji5) - 1)) - a1)) x6_1).bind fun t654 => (if t654 = true then ((spec_l6In.f k1 a0_0 a0_1 a1 x6_1).bind fun t655 => (if t655 = true then (some false) else (spec_l7Apart.l0 k1 a1 (wrap64 ((wrap64 ((ji5) - 1)) - a1)) (wrap64 (x6_1 + 1)) a0_0 a0_1))) else (spec_l7Apart.l0 k1 a1 (wrap64 ((wrap64 ((ji5) - 1)) - a1)) (wrap64 (x6_1 + 1)) a0_0 a0_1))))) = some r := by rw [if_pos rfl] at H; exact H
      clear H
      have H := H1
      clear H1
      replace H := Option.bind_eq_some_iff.mp H
      obtain ⟨t653, A110, H⟩ := H
      replace H : (if t653 = true then (some false) else ((spec_l6Has.f (wrap64 ((wrap64 ((ji5) - 1)) - a1)) x6_1).bind fun t654 => (if t654 = true then ((spec_l6In.f k1 a0_0 a0_1 a1 x6_1).bind fun t655 => (if t655 = true then (some false) else (spec_l7Apart.l0 k1 a1 (wrap64 ((wrap64 ((ji5) - 1)) - a1)) (wrap64 (x6_1 + 1)) a0_0 a0_1))) else (spec_l7Apart.l0 k1 a1 (wrap64 ((wrap64 ((ji5) - 1)) - a1)) (wrap64 (x6_1 + 1)) a0_0 a0_1)))) = some r := H
      have A11 := Aside0.mk A110
      clear A110
      by_cases c12 : t653 = true
      ·subst c12
       have H1 : (some false) = some r := by rw [if_pos rfl] at H; exact H
       clear H
       have H := H1
       clear H1
       obtain rfl := Option.some.inj H
       have hcz13_0 : wr.cell? ⟨gb651, 0, none⟩ = some (.int .i64 a0_0) := (blk_cell BK651.out 0).trans rfl
       have hcz13_1 : wr.cell? ⟨gb651, 1, none⟩ = some (.string a0_1) := (blk_cell BK651.out 1).trans rfl
       have hfz13_0 := blk_frozen BK651.out 0
       have hfz13_1 := blk_frozen BK651.out 1
       go_wp2_with (first | ((with_reducible refine gate_callee (f := 51) rfl ?_); refine goesL_ (some 28) rfl rfl Try.func51 (by kernel_rfl) rfl #[.int .i64 a1, .int .i64 x6_1] rfl zM ?_; (with_reducible refine (spec_l6Has.calls a1 x6_1 true _ A9.out).mono ?_); rintro e w' ⟨rfl, ⟨nd, rfl⟩⟩; refine ⟨_, rfl, ?_⟩) | (go_at_call 69; (with_reducible refine (spec_l6In.calls k1 a0_0 a0_1 (wrap64 ((wrap64 ((ji5) - 1)) - a1)) x6_1 true _ A11.out).mono ?_); rintro e w14 ⟨rfl, hb⟩; replace BK651 := Aside0.mk (blk_below (g := gb651) (o := .cells #[.int .i64 a0_0, .string a0_1] 26 (0, 0)) (zK BK651.out) hb); replace HB := Aside0.mk (below_step (zG GE651.out) hb); (try clear hb); (try clear hb2); (try clear hk); (try clear hi)))
       go_ret
       exact ⟨by first | rfl | (simp [errW_none, errW_some] <;> rfl) | (simp only [← hji3, ← hji5]; first | rfl | (simp [errW_none, errW_some] <;> rfl)) | (simp [*, errW_none, errW_some] <;> rfl), zG GE651.out⟩
      ·replace c12 := Bool.eq_false_iff.mpr c12
       subst c12
       have H1 : ((spec_l6Has.f (wrap64 ((wrap64 ((ji5) - 1)) - a1)) x6_1).bind fun t654 => (if t654 = true then ((spec_l6In.f k1 a0_0 a0_1 a1 x6_1).bind fun t655 => (if t655 = true then (some false) else (spec_l7Apart.l0 k1 a1 (wrap64 ((wrap64 ((ji5) - 1)) - a1)) (wrap64 (x6_1 + 1)) a0_0 a0_1))) else (spec_l7Apart.l0 k1 a1 (wrap64 ((wrap64 ((ji5) - 1)) - a1)) (wrap64 (x6_1 + 1)) a0_0 a0_1))) = some r := by rw [if_neg (show ¬ (false = true) by decide)] at H; exact H
       clear H
       have H := H1
       clear H1
       replace H := Option.bind_eq_some_iff.mp H
       obtain ⟨t654, A150, H⟩ := H
       replace H : (if t654 = true then ((spec_l6In.f k1 a0_0 a0_1 a1 x6_1).bind fun t655 => (if t655 = true then (some false) else (spec_l7Apart.l0 k1 a1 (wrap64 ((wrap64 ((ji5) - 1)) - a1)) (wrap64 (x6_1 + 1)) a0_0 a0_1))) else (spec_l7Apart.l0 k1 a1 (wrap64 ((wrap64 ((ji5) - 1)) - a1)) (wrap64 (x6_1 + 1)) a0_0 a0_1)) = some r := H
       have A15 := Aside0.mk A150
       clear A150
       by_cases c16 : t654 = true
       ·subst c16
        have H1 : ((spec_l6In.f k1 a0_0 a0_1 a1 x6_1).bind fun t655 => (if t655 = true then (some false) else (spec_l7Apart.l0 k1 a1 (wrap64 ((wrap64 ((ji5) - 1)) - a1)) (wrap64 (x6_1 + 1)) a0_0 a0_1))) = some r := by rw [if_pos rfl] at H; exact H
        clear H
        have H := H1
        clear H1
        replace H := Option.bind_eq_some_iff.mp H
        obtain ⟨t655, A170, H⟩ := H
        replace H : (if t655 = true then (some false) else (spec_l7Apart.l0 k1 a1 (wrap64 ((wrap64 ((ji5) - 1)) - a1)) (wrap64 (x6_1 + 1)) a0_0 a0_1)) = some r := H
        have A17 := Aside0.mk A170
        clear A170
        by_cases c18 : t655 = true
        ·subst c18
         have H1 : (some false) = some r := by rw [if_pos rfl] at H; exact H
         clear H
         have H := H1
         clear H1
         obtain rfl := Option.some.inj H
         have hcz19_0 : wr.cell? ⟨gb651, 0, none⟩ = some (.int .i64 a0_0) := (blk_cell BK651.out 0).trans rfl
         have hcz19_1 : wr.cell? ⟨gb651, 1, none⟩ = some (.string a0_1) := (blk_cell BK651.out 1).trans rfl
         have hfz19_0 := blk_frozen BK651.out 0
         have hfz19_1 := blk_frozen BK651.out 1
         go_wp2_with (first | ((with_reducible refine gate_callee (f := 51) rfl ?_); refine goesL_ (some 28) rfl rfl Try.func51 (by kernel_rfl) rfl #[.int .i64 a1, .int .i64 x6_1] rfl zM ?_; (with_reducible refine (spec_l6Has.calls a1 x6_1 true _ A9.out).mono ?_); rintro e w' ⟨rfl, ⟨nd, rfl⟩⟩; refine ⟨_, rfl, ?_⟩) | (go_at_call 69; (with_reducible refine (spec_l6In.calls k1 a0_0 a0_1 (wrap64 ((wrap64 ((ji5) - 1)) - a1)) x6_1 false _ A11.out).mono ?_); rintro e w20 ⟨rfl, hb⟩; replace BK651 := Aside0.mk (blk_below (g := gb651) (o := .cells #[.int .i64 a0_0, .string a0_1] 26 (0, 0)) (zK BK651.out) hb); replace HB := Aside0.mk (below_step (zG GE651.out) hb); (try clear hb); (try clear hb2); (try clear hk); (try clear hi)) | (go_at_call 51; (with_reducible refine (spec_l6Has.calls (wrap64 ((wrap64 ((ji5) - 1)) - a1)) x6_1 true _ A15.out).mono ?_); rintro e w' ⟨rfl, ⟨nd, rfl⟩⟩; have hcz21_0 : w20.cell? ⟨gb651, 0, none⟩ = some (.int .i64 a0_0) := (blk_cell BK651.out 0).trans rfl; have hcz21_1 : w20.cell? ⟨gb651, 1, none⟩ = some (.string a0_1) := (blk_cell BK651.out 1).trans rfl; have hfz21_0 := blk_frozen BK651.out 0; have hfz21_1 := blk_frozen BK651.out 1) | (go_at_call 69; (with_reducible refine (spec_l6In.calls k1 a0_0 a0_1 a1 x6_1 true _ A17.out).mono ?_); rintro e w22 ⟨rfl, hb⟩; replace BK651 := Aside0.mk (blk_below (g := gb651) (o := .cells #[.int .i64 a0_0, .string a0_1] 26 (0, 0)) (zK BK651.out) hb); replace HB := Aside0.mk (below_step (zG GE651.out) hb); (try clear hb); (try clear hb2); (try clear hk); (try clear hi)))
         go_ret
         exact ⟨by first | rfl | (simp [errW_none, errW_some] <;> rfl) | (simp only [← hji3, ← hji5]; first | rfl | (simp [errW_none, errW_some] <;> rfl)) | (simp [*, errW_none, errW_some] <;> rfl), zG GE651.out⟩
        ·replace c18 := Bool.eq_false_iff.mpr c18
         subst c18
         have H1 : (spec_l7Apart.l0 k1 a1 (wrap64 ((wrap64 ((ji5) - 1)) - a1)) (wrap64 (x6_1 + 1)) a0_0 a0_1) = some r := by rw [if_neg (show ¬ (false = true) by decide)] at H; exact H
         clear H
         have H := H1
         clear H1
         have H' := Aside0.mk H
         clear H
         have hcz23_0 : wr.cell? ⟨gb651, 0, none⟩ = some (.int .i64 a0_0) := (blk_cell BK651.out 0).trans rfl
         have hcz23_1 : wr.cell? ⟨gb651, 1, none⟩ = some (.string a0_1) := (blk_cell BK651.out 1).trans rfl
         have hfz23_0 := blk_frozen BK651.out 0
         have hfz23_1 := blk_frozen BK651.out 1
         go_wp2_with (first | ((with_reducible refine gate_callee (f := 51) rfl ?_); refine goesL_ (some 28) rfl rfl Try.func51 (by kernel_rfl) rfl #[.int .i64 a1, .int .i64 x6_1] rfl zM ?_; (with_reducible refine (spec_l6Has.calls a1 x6_1 true _ A9.out).mono ?_); rintro e w' ⟨rfl, ⟨nd, rfl⟩⟩; refine ⟨_, rfl, ?_⟩) | (go_at_call 69; (with_reducible refine (spec_l6In.calls k1 a0_0 a0_1 (wrap64 ((wrap64 ((ji5) - 1)) - a1)) x6_1 false _ A11.out).mono ?_); rintro e w24 ⟨rfl, hb⟩; replace BK651 := Aside0.mk (blk_below (g := gb651) (o := .cells #[.int .i64 a0_0, .string a0_1] 26 (0, 0)) (zK BK651.out) hb); replace HB := Aside0.mk (below_step (zG GE651.out) hb); (try clear hb); (try clear hb2); (try clear hk); (try clear hi)) | (go_at_call 51; (with_reducible refine (spec_l6Has.calls (wrap64 ((wrap64 ((ji5) - 1)) - a1)) x6_1 true _ A15.out).mono ?_); rintro e w' ⟨rfl, ⟨nd, rfl⟩⟩; have hcz25_0 : w24.cell? ⟨gb651, 0, none⟩ = some (.int .i64 a0_0) := (blk_cell BK651.out 0).trans rfl; have hcz25_1 : w24.cell? ⟨gb651, 1, none⟩ = some (.string a0_1) := (blk_cell BK651.out 1).trans rfl; have hfz25_0 := blk_frozen BK651.out 0; have hfz25_1 := blk_frozen BK651.out 1) | (go_at_call 69; (with_reducible refine (spec_l6In.calls k1 a0_0 a0_1 a1 x6_1 false _ A17.out).mono ?_); rintro e w26 ⟨rfl, hb⟩; replace BK651 := Aside0.mk (blk_below (g := gb651) (o := .cells #[.int .i64 a0_0, .string a0_1] 26 (0, 0)) (zK BK651.out) hb); replace HB := Aside0.mk (below_step (zG GE651.out) hb); (try clear hb); (try clear hb2); (try clear hk); (try clear hi)))
         go_roundg k1
         case measure => have := HK1.out; omega
         case rel => exact ⟨(wrap64 (x6_1 + 1)), zF, H', ⟨by have := HK1.out; omega⟩, ⟨zK BK651.out⟩, ⟨zG GE651.out⟩⟩
       ·replace c16 := Bool.eq_false_iff.mpr c16
        subst c16
        have H1 : (spec_l7Apart.l0 k1 a1 (wrap64 ((wrap64 ((ji5) - 1)) - a1)) (wrap64 (x6_1 + 1)) a0_0 a0_1) = some r := by rw [if_neg (show ¬ (false = true) by decide)] at H; exact H
        clear H
        have H := H1
        clear H1
        have H' := Aside0.mk H
        clear H
        have hcz27_0 : wr.cell? ⟨gb651, 0, none⟩ = some (.int .i64 a0_0) := (blk_cell BK651.out 0).trans rfl
        have hcz27_1 : wr.cell? ⟨gb651, 1, none⟩ = some (.string a0_1) := (blk_cell BK651.out 1).trans rfl
        have hfz27_0 := blk_frozen BK651.out 0
        have hfz27_1 := blk_frozen BK651.out 1
        go_wp2_with (first | ((with_reducible refine gate_callee (f := 51) rfl ?_); refine goesL_ (some 28) rfl rfl Try.func51 (by kernel_rfl) rfl #[.int .i64 a1, .int .i64 x6_1] rfl zM ?_; (with_reducible refine (spec_l6Has.calls a1 x6_1 true _ A9.out).mono ?_); rintro e w' ⟨rfl, ⟨nd, rfl⟩⟩; refine ⟨_, rfl, ?_⟩) | (go_at_call 69; (with_reducible refine (spec_l6In.calls k1 a0_0 a0_1 (wrap64 ((wrap64 ((ji5) - 1)) - a1)) x6_1 false _ A11.out).mono ?_); rintro e w28 ⟨rfl, hb⟩; replace BK651 := Aside0.mk (blk_below (g := gb651) (o := .cells #[.int .i64 a0_0, .string a0_1] 26 (0, 0)) (zK BK651.out) hb); replace HB := Aside0.mk (below_step (zG GE651.out) hb); (try clear hb); (try clear hb2); (try clear hk); (try clear hi)) | (go_at_call 51; (with_reducible refine (spec_l6Has.calls (wrap64 ((wrap64 ((ji5) - 1)) - a1)) x6_1 false _ A15.out).mono ?_); rintro e w' ⟨rfl, ⟨nd, rfl⟩⟩))
        go_roundg k1
        case measure => have := HK1.out; omega
        case rel => exact ⟨(wrap64 (x6_1 + 1)), zF, H', ⟨by have := HK1.out; omega⟩, ⟨zK BK651.out⟩, ⟨zG GE651.out⟩⟩
     ·replace c10 := Bool.eq_false_iff.mpr c10
      subst c10
      have H1 : ((spec_l6Has.f (wrap64 ((wrap64 ((ji5) - 1)) - a1)) x6_1).bind fun t656 => (if t656 = true then ((spec_l6In.f k1 a0_0 a0_1 a1 x6_1).bind fun t657 => (if t657 = true then (some false) else (spec_l7Apart.l0 k1 a1 (wrap64 ((wrap64 ((ji5) - 1)) - a1)) (wrap64 (x6_1 + 1)) a0_0 a0_1))) else (spec_l7Apart.l0 k1 a1 (wrap64 ((wrap64 ((ji5) - 1)) - a1)) (wrap64 (x6_1 + 1)) a0_0 a0_1))) = some r := by rw [if_neg (show ¬ (false = true) by decide)] at H; exact H
      clear H
      have H := H1
      clear H1
      replace H := Option.bind_eq_some_iff.mp H
      obtain ⟨t656, A290, H⟩ := H
      replace H : (if t656 = true then ((spec_l6In.f k1 a0_0 a0_1 a1 x6_1).bind fun t657 => (if t657 = true then (some false) else (spec_l7Apart.l0 k1 a1 (wrap64 ((wrap64 ((ji5) - 1)) - a1)) (wrap64 (x6_1 + 1)) a0_0 a0_1))) else (spec_l7Apart.l0 k1 a1 (wrap64 ((wrap64 ((ji5) - 1)) - a1)) (wrap64 (x6_1 + 1)) a0_0 a0_1)) = some r := H
      have A29 := Aside0.mk A290
      clear A290
      by_cases c30 : t656 = true
      ·subst c30
       have H1 : ((spec_l6In.f k1 a0_0 a0_1 a1 x6_1).bind fun t657 => (if t657 = true then (some false) else (spec_l7Apart.l0 k1 a1 (wrap64 ((wrap64 ((ji5) - 1)) - a1)) (wrap64 (x6_1 + 1)) a0_0 a0_1))) = some r := by rw [if_pos rfl] at H; exact H
       clear H
       have H := H1
       clear H1
       replace H := Option.bind_eq_some_iff.mp H
       obtain ⟨t657, A310, H⟩ := H
       replace H : (if t657 = true then (some false) else (spec_l7Apart.l0 k1 a1 (wrap64 ((wrap64 ((ji5) - 1)) - a1)) (wrap64 (x6_1 + 1)) a0_0 a0_1)) = some r := H
       have A31 := Aside0.mk A310
       clear A310
       by_cases c32 : t657 = true
       ·subst c32
        have H1 : (some false) = some r := by rw [if_pos rfl] at H; exact H
        clear H
        have H := H1
        clear H1
        obtain rfl := Option.some.inj H
        have hcz33_0 : wr.cell? ⟨gb651, 0, none⟩ = some (.int .i64 a0_0) := (blk_cell BK651.out 0).trans rfl
        have hcz33_1 : wr.cell? ⟨gb651, 1, none⟩ = some (.string a0_1) := (blk_cell BK651.out 1).trans rfl
        have hfz33_0 := blk_frozen BK651.out 0
        have hfz33_1 := blk_frozen BK651.out 1
        go_wp2_with (first | ((with_reducible refine gate_callee (f := 51) rfl ?_); refine goesL_ (some 28) rfl rfl Try.func51 (by kernel_rfl) rfl #[.int .i64 a1, .int .i64 x6_1] rfl zM ?_; (with_reducible refine (spec_l6Has.calls a1 x6_1 false _ A9.out).mono ?_); rintro e w' ⟨rfl, ⟨nd, rfl⟩⟩; refine ⟨_, rfl, ?_⟩) | (go_at_call 51; (with_reducible refine (spec_l6Has.calls (wrap64 ((wrap64 ((ji5) - 1)) - a1)) x6_1 true _ A29.out).mono ?_); rintro e w' ⟨rfl, ⟨nd, rfl⟩⟩) | (go_at_call 69; (with_reducible refine (spec_l6In.calls k1 a0_0 a0_1 a1 x6_1 true _ A31.out).mono ?_); rintro e w34 ⟨rfl, hb⟩; replace BK651 := Aside0.mk (blk_below (g := gb651) (o := .cells #[.int .i64 a0_0, .string a0_1] 26 (0, 0)) (zK BK651.out) hb); replace HB := Aside0.mk (below_step (zG GE651.out) hb); (try clear hb); (try clear hb2); (try clear hk); (try clear hi)))
        go_ret
        exact ⟨by first | rfl | (simp [errW_none, errW_some] <;> rfl) | (simp only [← hji3, ← hji5]; first | rfl | (simp [errW_none, errW_some] <;> rfl)) | (simp [*, errW_none, errW_some] <;> rfl), zG GE651.out⟩
       ·replace c32 := Bool.eq_false_iff.mpr c32
        subst c32
        have H1 : (spec_l7Apart.l0 k1 a1 (wrap64 ((wrap64 ((ji5) - 1)) - a1)) (wrap64 (x6_1 + 1)) a0_0 a0_1) = some r := by rw [if_neg (show ¬ (false = true) by decide)] at H; exact H
        clear H
        have H := H1
        clear H1
        have H' := Aside0.mk H
        clear H
        have hcz35_0 : wr.cell? ⟨gb651, 0, none⟩ = some (.int .i64 a0_0) := (blk_cell BK651.out 0).trans rfl
        have hcz35_1 : wr.cell? ⟨gb651, 1, none⟩ = some (.string a0_1) := (blk_cell BK651.out 1).trans rfl
        have hfz35_0 := blk_frozen BK651.out 0
        have hfz35_1 := blk_frozen BK651.out 1
        go_wp2_with (first | ((with_reducible refine gate_callee (f := 51) rfl ?_); refine goesL_ (some 28) rfl rfl Try.func51 (by kernel_rfl) rfl #[.int .i64 a1, .int .i64 x6_1] rfl zM ?_; (with_reducible refine (spec_l6Has.calls a1 x6_1 false _ A9.out).mono ?_); rintro e w' ⟨rfl, ⟨nd, rfl⟩⟩; refine ⟨_, rfl, ?_⟩) | (go_at_call 51; (with_reducible refine (spec_l6Has.calls (wrap64 ((wrap64 ((ji5) - 1)) - a1)) x6_1 true _ A29.out).mono ?_); rintro e w' ⟨rfl, ⟨nd, rfl⟩⟩) | (go_at_call 69; (with_reducible refine (spec_l6In.calls k1 a0_0 a0_1 a1 x6_1 false _ A31.out).mono ?_); rintro e w36 ⟨rfl, hb⟩; replace BK651 := Aside0.mk (blk_below (g := gb651) (o := .cells #[.int .i64 a0_0, .string a0_1] 26 (0, 0)) (zK BK651.out) hb); replace HB := Aside0.mk (below_step (zG GE651.out) hb); (try clear hb); (try clear hb2); (try clear hk); (try clear hi)))
        go_roundg k1
        case measure => have := HK1.out; omega
        case rel => exact ⟨(wrap64 (x6_1 + 1)), zF, H', ⟨by have := HK1.out; omega⟩, ⟨zK BK651.out⟩, ⟨zG GE651.out⟩⟩
      ·replace c30 := Bool.eq_false_iff.mpr c30
       subst c30
       have H1 : (spec_l7Apart.l0 k1 a1 (wrap64 ((wrap64 ((ji5) - 1)) - a1)) (wrap64 (x6_1 + 1)) a0_0 a0_1) = some r := by rw [if_neg (show ¬ (false = true) by decide)] at H; exact H
       clear H
       have H := H1
       clear H1
       have H' := Aside0.mk H
       clear H
       have hcz37_0 : wr.cell? ⟨gb651, 0, none⟩ = some (.int .i64 a0_0) := (blk_cell BK651.out 0).trans rfl
       have hcz37_1 : wr.cell? ⟨gb651, 1, none⟩ = some (.string a0_1) := (blk_cell BK651.out 1).trans rfl
       have hfz37_0 := blk_frozen BK651.out 0
       have hfz37_1 := blk_frozen BK651.out 1
       go_wp2_with (first | ((with_reducible refine gate_callee (f := 51) rfl ?_); refine goesL_ (some 28) rfl rfl Try.func51 (by kernel_rfl) rfl #[.int .i64 a1, .int .i64 x6_1] rfl zM ?_; (with_reducible refine (spec_l6Has.calls a1 x6_1 false _ A9.out).mono ?_); rintro e w' ⟨rfl, ⟨nd, rfl⟩⟩; refine ⟨_, rfl, ?_⟩) | (go_at_call 51; (with_reducible refine (spec_l6Has.calls (wrap64 ((wrap64 ((ji5) - 1)) - a1)) x6_1 false _ A29.out).mono ?_); rintro e w' ⟨rfl, ⟨nd, rfl⟩⟩))
       go_roundg k1
       case measure => have := HK1.out; omega
       case rel => exact ⟨(wrap64 (x6_1 + 1)), zF, H', ⟨by have := HK1.out; omega⟩, ⟨zK BK651.out⟩, ⟨zG GE651.out⟩⟩
    ·rw [if_neg c8] at H
     have c8b0 : decide (x6_1 < a0_0) = false := decide_eq_false c8
     clear c8
     have H' := Aside0.mk H
     clear H
     have hcz38_0 : wr.cell? ⟨gb651, 0, none⟩ = some (.int .i64 a0_0) := (blk_cell BK651.out 0).trans rfl
     have hcz38_1 : wr.cell? ⟨gb651, 1, none⟩ = some (.string a0_1) := (blk_cell BK651.out 1).trans rfl
     have hfz38_0 := blk_frozen BK651.out 0
     have hfz38_1 := blk_frozen BK651.out 1
     go_wp2
     go_loopg [7] k1 (fun kq v7 w' => ∃ (x7_2 : Int), v7 = .int .i64 x7_2 ∧ Aside0 (spec_l7Apart.l1 kq a1 x7_2 a0_0 a0_1 = some r) ∧ Aside0 (kq ≤ k1) ∧ Aside0 (w'.heap[gb651]? = some (.cells #[.int .i64 a0_0, .string a0_1] 26 (0, 0))) ∧ Aside0 (Below w.heap.size w w'))
     case atStart => exact ⟨(0), zF, H', ⟨Nat.le_refl _⟩, ⟨zK BK651.out⟩, ⟨zG GE651.out⟩⟩
     case round =>
      clear H'
      try clear c1
      try clear p2
      try clear c3
      try clear c4
      try clear c4b0
      try clear c4b1
      try clear c5
      try clear p6
      try clear c8
      try clear c8b0
      try clear c10
      try clear c12
      try clear c16
      try clear c18
      try clear c30
      try clear c32
      try clear hcz13_0
      try clear hcz13_1
      try clear hcz19_0
      try clear hcz19_1
      try clear hcz21_0
      try clear hcz21_1
      try clear hcz23_0
      try clear hcz23_1
      try clear hcz25_0
      try clear hcz25_1
      try clear hcz27_0
      try clear hcz27_1
      try clear hcz33_0
      try clear hcz33_1
      try clear hcz35_0
      try clear hcz35_1
      try clear hcz37_0
      try clear hcz37_1
      try clear hcz38_0
      try clear hcz38_1
      try clear hcz7_0
      try clear hcz7_1
      try clear hfz13_0
      try clear hfz13_1
      try clear hfz19_0
      try clear hfz19_1
      try clear hfz21_0
      try clear hfz21_1
      try clear hfz23_0
      try clear hfz23_1
      try clear hfz25_0
      try clear hfz25_1
      try clear hfz27_0
      try clear hfz27_1
      try clear hfz33_0
      try clear hfz33_1
      try clear hfz35_0
      try clear hfz35_1
      try clear hfz37_0
      try clear hfz37_1
      try clear hfz38_0
      try clear hfz38_1
      try clear hfz7_0
      try clear hfz7_1
      try clear p2
      try clear p6
      obtain ⟨x7_2, rfl, HA, HK2, BK651, HB⟩ := hrel
      cases gk with
      | zero => exact absurd HA.out (by simp [spec_l7Apart.l1])
      | succ k2 =>
       have H := HA.out
       clear HA
       simp only [spec_l7Apart.l1] at H
       by_cases c39 : x7_2 < a0_0
       ·rw [if_pos c39] at H
        have c39b0 : decide (x7_2 < a0_0) = true := decide_eq_true c39
        clear c39
        have H' := Aside0.mk H
        clear H
        have hcz40_0 : wr.cell? ⟨gb651, 0, none⟩ = some (.int .i64 a0_0) := (blk_cell BK651.out 0).trans rfl
        have hcz40_1 : wr.cell? ⟨gb651, 1, none⟩ = some (.string a0_1) := (blk_cell BK651.out 1).trans rfl
        have hfz40_0 := blk_frozen BK651.out 0
        have hfz40_1 := blk_frozen BK651.out 1
        go_wp2
        go_loopg [8] k2 (fun kq v8 w' => ∃ (x8_3 : Int), v8 = .int .i64 x8_3 ∧ Aside0 (spec_l7Apart.l2 kq a1 x7_2 x8_3 a0_0 a0_1 = some r) ∧ Aside0 (kq ≤ k2) ∧ Aside0 (w'.heap[gb651]? = some (.cells #[.int .i64 a0_0, .string a0_1] 26 (0, 0))) ∧ Aside0 (Below w.heap.size w w'))
        case atStart => exact ⟨(wrap64 (x7_2 + 1)), zF, H', ⟨Nat.le_refl _⟩, ⟨zK BK651.out⟩, ⟨zG GE651.out⟩⟩
        case round =>
         clear H'
         try clear c1
         try clear p2
         try clear c3
         try clear c4
         try clear c4b0
         try clear c4b1
         try clear c5
         try clear p6
         try clear c8
         try clear c8b0
         try clear c10
         try clear c12
         try clear c16
         try clear c18
         try clear c30
         try clear c32
         try clear c39
         try clear c39b0
         try clear hcz13_0
         try clear hcz13_1
         try clear hcz19_0
         try clear hcz19_1
         try clear hcz21_0
         try clear hcz21_1
         try clear hcz23_0
         try clear hcz23_1
         try clear hcz25_0
         try clear hcz25_1
         try clear hcz27_0
         try clear hcz27_1
         try clear hcz33_0
         try clear hcz33_1
         try clear hcz35_0
         try clear hcz35_1
         try clear hcz37_0
         try clear hcz37_1
         try clear hcz38_0
         try clear hcz38_1
         try clear hcz40_0
         try clear hcz40_1
         try clear hcz7_0
         try clear hcz7_1
         try clear hfz13_0
         try clear hfz13_1
         try clear hfz19_0
         try clear hfz19_1
         try clear hfz21_0
         try clear hfz21_1
         try clear hfz23_0
         try clear hfz23_1
         try clear hfz25_0
         try clear hfz25_1
         try clear hfz27_0
         try clear hfz27_1
         try clear hfz33_0
         try clear hfz33_1
         try clear hfz35_0
         try clear hfz35_1
         try clear hfz37_0
         try clear hfz37_1
         try clear hfz38_0
         try clear hfz38_1
         try clear hfz40_0
         try clear hfz40_1
         try clear hfz7_0
         try clear hfz7_1
         try clear p2
         try clear p6
         obtain ⟨x8_3, rfl, HA, HK3, BK651, HB⟩ := hrel
         cases gk with
         | zero => exact absurd HA.out (by simp [spec_l7Apart.l2])
         | succ k3 =>
          have H := HA.out
          clear HA
          simp only [spec_l7Apart.l2] at H
          by_cases c41 : x8_3 < a0_0
          ·rw [if_pos c41] at H
           have c41b0 : decide (x8_3 < a0_0) = true := decide_eq_true c41
           clear c41
           have H' := Aside0.mk H
           clear H
           have hcz42_0 : wr.cell? ⟨gb651, 0, none⟩ = some (.int .i64 a0_0) := (blk_cell BK651.out 0).trans rfl
           have hcz42_1 : wr.cell? ⟨gb651, 1, none⟩ = some (.string a0_1) := (blk_cell BK651.out 1).trans rfl
           have hfz42_0 := blk_frozen BK651.out 0
           have hfz42_1 := blk_frozen BK651.out 1
           go_wp2
           go_loopg [9] k3 (fun kq v9 w' => ∃ (x9_4 : Int), v9 = .int .i64 x9_4 ∧ Aside0 (spec_l7Apart.l3 kq a1 x7_2 x8_3 x9_4 a0_0 a0_1 = some r) ∧ Aside0 (kq ≤ k3) ∧ Aside0 (w'.heap[gb651]? = some (.cells #[.int .i64 a0_0, .string a0_1] 26 (0, 0))) ∧ Aside0 (Below w.heap.size w w'))
           case atStart => exact ⟨(0), zF, H', ⟨Nat.le_refl _⟩, ⟨zK BK651.out⟩, ⟨zG GE651.out⟩⟩
           case round =>
            clear H'
            try clear c1
            try clear p2
            try clear c3
            try clear c4
            try clear c4b0
            try clear c4b1
            try clear c5
            try clear p6
            try clear c8
            try clear c8b0
            try clear c10
            try clear c12
            try clear c16
            try clear c18
            try clear c30
            try clear c32
            try clear c39
            try clear c39b0
            try clear c41
            try clear c41b0
            try clear hcz13_0
            try clear hcz13_1
            try clear hcz19_0
            try clear hcz19_1
            try clear hcz21_0
            try clear hcz21_1
            try clear hcz23_0
            try clear hcz23_1
            try clear hcz25_0
            try clear hcz25_1
            try clear hcz27_0
            try clear hcz27_1
            try clear hcz33_0
            try clear hcz33_1
            try clear hcz35_0
            try clear hcz35_1
            try clear hcz37_0
            try clear hcz37_1
            try clear hcz38_0
            try clear hcz38_1
            try clear hcz40_0
            try clear hcz40_1
            try clear hcz42_0
            try clear hcz42_1
            try clear hcz7_0
            try clear hcz7_1
            try clear hfz13_0
            try clear hfz13_1
            try clear hfz19_0
            try clear hfz19_1
            try clear hfz21_0
            try clear hfz21_1
            try clear hfz23_0
            try clear hfz23_1
            try clear hfz25_0
            try clear hfz25_1
            try clear hfz27_0
            try clear hfz27_1
            try clear hfz33_0
            try clear hfz33_1
            try clear hfz35_0
            try clear hfz35_1
            try clear hfz37_0
            try clear hfz37_1
            try clear hfz38_0
            try clear hfz38_1
            try clear hfz40_0
            try clear hfz40_1
            try clear hfz42_0
            try clear hfz42_1
            try clear hfz7_0
            try clear hfz7_1
            try clear p2
            try clear p6
            obtain ⟨x9_4, rfl, HA, HK4, BK651, HB⟩ := hrel
            cases gk with
            | zero => exact absurd HA.out (by simp [spec_l7Apart.l3])
            | succ k4 =>
             have H := HA.out
             clear HA
             simp only [spec_l7Apart.l3] at H
             by_cases c43 : x9_4 < a0_0
             ·rw [if_pos c43] at H
              have c43b0 : decide (x9_4 < a0_0) = true := decide_eq_true c43
              clear c43
              have H' := Aside0.mk H
              clear H
              have hcz44_0 : wr.cell? ⟨gb651, 0, none⟩ = some (.int .i64 a0_0) := (blk_cell BK651.out 0).trans rfl
              have hcz44_1 : wr.cell? ⟨gb651, 1, none⟩ = some (.string a0_1) := (blk_cell BK651.out 1).trans rfl
              have hfz44_0 := blk_frozen BK651.out 0
              have hfz44_1 := blk_frozen BK651.out 1
              go_wp2
              go_loopg [10] k4 (fun kq v10 w' => ∃ (x10_5 : Int), v10 = .int .i64 x10_5 ∧ Aside0 (spec_l7Apart.l4 kq a1 x7_2 x8_3 x9_4 x10_5 a0_0 a0_1 = some r) ∧ Aside0 (kq ≤ k4) ∧ Aside0 (w'.heap[gb651]? = some (.cells #[.int .i64 a0_0, .string a0_1] 26 (0, 0))) ∧ Aside0 (Below w.heap.size w w'))
              case atStart => exact ⟨(wrap64 (x9_4 + 1)), zF, H', ⟨Nat.le_refl _⟩, ⟨zK BK651.out⟩, ⟨zG GE651.out⟩⟩
              case round =>
               clear H'
               try clear c1
               try clear p2
               try clear c3
               try clear c4
               try clear c4b0
               try clear c4b1
               try clear c5
               try clear p6
               try clear c8
               try clear c8b0
               try clear c10
               try clear c12
               try clear c16
               try clear c18
               try clear c30
               try clear c32
               try clear c39
               try clear c39b0
               try clear c41
               try clear c41b0
               try clear c43
               try clear c43b0
               try clear hcz13_0
               try clear hcz13_1
               try clear hcz19_0
               try clear hcz19_1
               try clear hcz21_0
               try clear hcz21_1
               try clear hcz23_0
               try clear hcz23_1
               try clear hcz25_0
               try clear hcz25_1
               try clear hcz27_0
               try clear hcz27_1
               try clear hcz33_0
               try clear hcz33_1
               try clear hcz35_0
               try clear hcz35_1
               try clear hcz37_0
               try clear hcz37_1
               try clear hcz38_0
               try clear hcz38_1
               try clear hcz40_0
               try clear hcz40_1
               try clear hcz42_0
               try clear hcz42_1
               try clear hcz44_0
               try clear hcz44_1
               try clear hcz7_0
               try clear hcz7_1
               try clear hfz13_0
               try clear hfz13_1
               try clear hfz19_0
               try clear hfz19_1
               try clear hfz21_0
               try clear hfz21_1
               try clear hfz23_0
               try clear hfz23_1
               try clear hfz25_0
               try clear hfz25_1
               try clear hfz27_0
               try clear hfz27_1
               try clear hfz33_0
               try clear hfz33_1
               try clear hfz35_0
               try clear hfz35_1
               try clear hfz37_0
               try clear hfz37_1
               try clear hfz38_0
               try clear hfz38_1
               try clear hfz40_0
               try clear hfz40_1
               try clear hfz42_0
               try clear hfz42_1
               try clear hfz44_0
               try clear hfz44_1
               try clear hfz7_0
               try clear hfz7_1
               try clear p2
               try clear p6
               obtain ⟨x10_5, rfl, HA, HK5, BK651, HB⟩ := hrel
               cases gk with
               | zero => exact absurd HA.out (by simp [spec_l7Apart.l4])
               | succ k5 =>
                have H := HA.out
                clear HA
                simp only [spec_l7Apart.l4] at H
                by_cases c45 : x10_5 < a0_0
                ·rw [if_pos c45] at H
                 have c45b0 : decide (x10_5 < a0_0) = true := decide_eq_true c45
                 clear c45
                 have HC46 := Aside0.mk H
                 clear H
                 have hcz47_0 : wr.cell? ⟨gb651, 0, none⟩ = some (.int .i64 a0_0) := (blk_cell BK651.out 0).trans rfl
                 have hcz47_1 : wr.cell? ⟨gb651, 1, none⟩ = some (.string a0_1) := (blk_cell BK651.out 1).trans rfl
                 have hfz47_0 := blk_frozen BK651.out 0
                 have hfz47_1 := blk_frozen BK651.out 1
                 go_upto_region 19 with (fail)
                 go_cut [93] (fun v93 wc => ∃ (kq : Nat) (x93_45 : Bool), v93 = .bool x93_45 ∧ Aside0 (spec_l7Apart.j5 kq a1 x7_2 x8_3 x9_4 x10_5 x93_45 a0_0 a0_1 = some r) ∧ Aside0 (kq ≤ k5) ∧ Aside0 (wc.heap[gb651]? = some (.cells #[.int .i64 a0_0, .string a0_1] 26 (0, 0))) ∧ Aside0 (Below w.heap.size w wc))
                 case first =>
                  have H := HC46.out
                  clear HC46
                  replace H := Option.bind_eq_some_iff.mp H
                  obtain ⟨t658, A480, H⟩ := H
                  replace H : (if t658 = true then ((spec_l6Has.f a1 x8_3).bind fun t659 => (if t659 = true then ((spec_l6Has.f a1 x9_4).bind fun t660 => (if t660 = true then (spec_l7Apart.j5 k5 a1 x7_2 x8_3 x9_4 x10_5 true a0_0 a0_1) else ((spec_l6Has.f a1 x10_5).bind fun t661 => (spec_l7Apart.j5 k5 a1 x7_2 x8_3 x9_4 x10_5 t661 a0_0 a0_1)))) else (spec_l7Apart.j5 k5 a1 x7_2 x8_3 x9_4 x10_5 true a0_0 a0_1))) else (spec_l7Apart.j5 k5 a1 x7_2 x8_3 x9_4 x10_5 true a0_0 a0_1)) = some r := H
                  have A48 := Aside0.mk A480
                  clear A480
                  by_cases c49 : t658 = true
                  ·subst c49
                   have H1 : ((spec_l6Has.f a1 x8_3).bind fun t659 => (if t659 = true then ((spec_l6Has.f a1 x9_4).bind fun t660 => (if t660 = true then (spec_l7Apart.j5 k5 a1 x7_2 x8_3 x9_4 x10_5 true a0_0 a0_1) else ((spec_l6Has.f a1 x10_5).bind fun t661 => (spec_l7Apart.j5 k5 a1 x7_2 x8_3 x9_4 x10_5 t661 a0_0 a0_1)))) else (spec_l7Apart.j5 k5 a1 x7_2 x8_3 x9_4 x10_5 true a0_0 a0_1))) = some r := by rw [if_pos rfl] at H; exact H
                   clear H
                   have H := H1
                   clear H1
                   replace H := Option.bind_eq_some_iff.mp H
                   obtain ⟨t659, A500, H⟩ := H
                   replace H : (if t659 = true then ((spec_l6Has.f a1 x9_4).bind fun t660 => (if t660 = true then (spec_l7Apart.j5 k5 a1 x7_2 x8_3 x9_4 x10_5 true a0_0 a0_1) else ((spec_l6Has.f a1 x10_5).bind fun t661 => (spec_l7Apart.j5 k5 a1 x7_2 x8_3 x9_4 x10_5 t661 a0_0 a0_1)))) else (spec_l7Apart.j5 k5 a1 x7_2 x8_3 x9_4 x10_5 true a0_0 a0_1)) = some r := H
                   have A50 := Aside0.mk A500
                   clear A500
                   by_cases c51 : t659 = true
                   ·subst c51
                    have H1 : ((spec_l6Has.f a1 x9_4).bind fun t660 => (if t660 = true then (spec_l7Apart.j5 k5 a1 x7_2 x8_3 x9_4 x10_5 true a0_0 a0_1) else ((spec_l6Has.f a1 x10_5).bind fun t661 => (spec_l7Apart.j5 k5 a1 x7_2 x8_3 x9_4 x10_5 t661 a0_0 a0_1)))) = some r := by rw [if_pos rfl] at H; exact H
                    clear H
                    have H := H1
                    clear H1
                    replace H := Option.bind_eq_some_iff.mp H
                    obtain ⟨t660, A520, H⟩ := H
                    replace H : (if t660 = true then (spec_l7Apart.j5 k5 a1 x7_2 x8_3 x9_4 x10_5 true a0_0 a0_1) else ((spec_l6Has.f a1 x10_5).bind fun t661 => (spec_l7Apart.j5 k5 a1 x7_2 x8_3 x9_4 x10_5 t661 a0_0 a0_1))) = some r := H
                    have A52 := Aside0.mk A520
                    clear A520
                    by_cases c53 : t660 = true
                    ·subst c53
                     have H1 : (spec_l7Apart.j5 k5 a1 x7_2 x8_3 x9_4 x10_5 true a0_0 a0_1) = some r := by rw [if_pos rfl] at H; exact H
                     clear H
                     have H := H1
                     clear H1
                     have H' := Aside0.mk H
                     clear H
                     go_wp2_with (first | ((with_reducible refine gate_callee (f := 51) rfl ?_); refine goesL_ (some 76) rfl rfl Try.func51 (by kernel_rfl) rfl #[.int .i64 a1, .int .i64 x7_2] rfl zM ?_; (with_reducible refine (spec_l6Has.calls a1 x7_2 true _ A48.out).mono ?_); rintro e w' ⟨rfl, ⟨nd, rfl⟩⟩; refine ⟨_, rfl, ?_⟩) | (go_at_call 51; (with_reducible refine (spec_l6Has.calls a1 x8_3 true _ A50.out).mono ?_); rintro e w' ⟨rfl, ⟨nd, rfl⟩⟩) | (go_at_call 51; (with_reducible refine (spec_l6Has.calls a1 x9_4 true _ A52.out).mono ?_); rintro e w' ⟨rfl, ⟨nd, rfl⟩⟩))
                     go_meet
                     case rel => exact ⟨_, (true), zF, H', ⟨by have := HK1.out; have := HK2.out; have := HK3.out; have := HK4.out; have := HK5.out; first | omega | exact Nat.le_refl _⟩, ⟨zK BK651.out⟩, ⟨zG GE651.out⟩⟩
                    ·replace c53 := Bool.eq_false_iff.mpr c53
                     subst c53
                     have H1 : ((spec_l6Has.f a1 x10_5).bind fun t661 => (spec_l7Apart.j5 k5 a1 x7_2 x8_3 x9_4 x10_5 t661 a0_0 a0_1)) = some r := by rw [if_neg (show ¬ (false = true) by decide)] at H; exact H
                     clear H
                     have H := H1
                     clear H1
                     replace H := Option.bind_eq_some_iff.mp H
                     obtain ⟨t661, A540, H⟩ := H
                     replace H : (spec_l7Apart.j5 k5 a1 x7_2 x8_3 x9_4 x10_5 t661 a0_0 a0_1) = some r := H
                     have A54 := Aside0.mk A540
                     clear A540
                     have H' := Aside0.mk H
                     clear H
                     go_wp2_with (first | ((with_reducible refine gate_callee (f := 51) rfl ?_); refine goesL_ (some 76) rfl rfl Try.func51 (by kernel_rfl) rfl #[.int .i64 a1, .int .i64 x7_2] rfl zM ?_; (with_reducible refine (spec_l6Has.calls a1 x7_2 true _ A48.out).mono ?_); rintro e w' ⟨rfl, ⟨nd, rfl⟩⟩; refine ⟨_, rfl, ?_⟩) | (go_at_call 51; (with_reducible refine (spec_l6Has.calls a1 x8_3 true _ A50.out).mono ?_); rintro e w' ⟨rfl, ⟨nd, rfl⟩⟩) | (go_at_call 51; (with_reducible refine (spec_l6Has.calls a1 x9_4 false _ A52.out).mono ?_); rintro e w' ⟨rfl, ⟨nd, rfl⟩⟩) | (go_at_call 51; (with_reducible refine (spec_l6Has.calls a1 x10_5 t661 _ A54.out).mono ?_); rintro e w' ⟨rfl, ⟨nd, rfl⟩⟩))
                     go_meet
                     case rel => exact ⟨_, (t661), zF, H', ⟨by have := HK1.out; have := HK2.out; have := HK3.out; have := HK4.out; have := HK5.out; first | omega | exact Nat.le_refl _⟩, ⟨zK BK651.out⟩, ⟨zG GE651.out⟩⟩
                   ·replace c51 := Bool.eq_false_iff.mpr c51
                    subst c51
                    have H1 : (spec_l7Apart.j5 k5 a1 x7_2 x8_3 x9_4 x10_5 true a0_0 a0_1) = some r := by rw [if_neg (show ¬ (false = true) by decide)] at H; exact H
                    clear H
                    have H := H1
                    clear H1
                    have H' := Aside0.mk H
                    clear H
                    go_wp2_with (first | ((with_reducible refine gate_callee (f := 51) rfl ?_); refine goesL_ (some 76) rfl rfl Try.func51 (by kernel_rfl) rfl #[.int .i64 a1, .int .i64 x7_2] rfl zM ?_; (with_reducible refine (spec_l6Has.calls a1 x7_2 true _ A48.out).mono ?_); rintro e w' ⟨rfl, ⟨nd, rfl⟩⟩; refine ⟨_, rfl, ?_⟩) | (go_at_call 51; (with_reducible refine (spec_l6Has.calls a1 x8_3 false _ A50.out).mono ?_); rintro e w' ⟨rfl, ⟨nd, rfl⟩⟩))
                    go_meet
                    case rel => exact ⟨_, (true), zF, H', ⟨by have := HK1.out; have := HK2.out; have := HK3.out; have := HK4.out; have := HK5.out; first | omega | exact Nat.le_refl _⟩, ⟨zK BK651.out⟩, ⟨zG GE651.out⟩⟩
                  ·replace c49 := Bool.eq_false_iff.mpr c49
                   subst c49
                   have H1 : (spec_l7Apart.j5 k5 a1 x7_2 x8_3 x9_4 x10_5 true a0_0 a0_1) = some r := by rw [if_neg (show ¬ (false = true) by decide)] at H; exact H
                   clear H
                   have H := H1
                   clear H1
                   have H' := Aside0.mk H
                   clear H
                   go_wp2_with (first | ((with_reducible refine gate_callee (f := 51) rfl ?_); refine goesL_ (some 76) rfl rfl Try.func51 (by kernel_rfl) rfl #[.int .i64 a1, .int .i64 x7_2] rfl zM ?_; (with_reducible refine (spec_l6Has.calls a1 x7_2 false _ A48.out).mono ?_); rintro e w' ⟨rfl, ⟨nd, rfl⟩⟩; refine ⟨_, rfl, ?_⟩))
                   go_meet
                   case rel => exact ⟨_, (true), zF, H', ⟨by have := HK1.out; have := HK2.out; have := HK3.out; have := HK4.out; have := HK5.out; first | omega | exact Nat.le_refl _⟩, ⟨zK BK651.out⟩, ⟨zG GE651.out⟩⟩
                 case rest =>
                  clear HC46
                  try clear c1
                  try clear p2
                  try clear c3
                  try clear c4
                  try clear c4b0
                  try clear c4b1
                  try clear c5
                  try clear p6
                  try clear c8
                  try clear c8b0
                  try clear c10
                  try clear c12
                  try clear c16
                  try clear c18
                  try clear c30
                  try clear c32
                  try clear c39
                  try clear c39b0
                  try clear c41
                  try clear c41b0
                  try clear c43
                  try clear c43b0
                  try clear c45
                  try clear c45b0
                  try clear c49
                  try clear c51
                  try clear c53
                  try clear hcz13_0
                  try clear hcz13_1
                  try clear hcz19_0
                  try clear hcz19_1
                  try clear hcz21_0
                  try clear hcz21_1
                  try clear hcz23_0
                  try clear hcz23_1
                  try clear hcz25_0
                  try clear hcz25_1
                  try clear hcz27_0
                  try clear hcz27_1
                  try clear hcz33_0
                  try clear hcz33_1
                  try clear hcz35_0
                  try clear hcz35_1
                  try clear hcz37_0
                  try clear hcz37_1
                  try clear hcz38_0
                  try clear hcz38_1
                  try clear hcz40_0
                  try clear hcz40_1
                  try clear hcz42_0
                  try clear hcz42_1
                  try clear hcz44_0
                  try clear hcz44_1
                  try clear hcz47_0
                  try clear hcz47_1
                  try clear hcz7_0
                  try clear hcz7_1
                  try clear hfz13_0
                  try clear hfz13_1
                  try clear hfz19_0
                  try clear hfz19_1
                  try clear hfz21_0
                  try clear hfz21_1
                  try clear hfz23_0
                  try clear hfz23_1
                  try clear hfz25_0
                  try clear hfz25_1
                  try clear hfz27_0
                  try clear hfz27_1
                  try clear hfz33_0
                  try clear hfz33_1
                  try clear hfz35_0
                  try clear hfz35_1
                  try clear hfz37_0
                  try clear hfz37_1
                  try clear hfz38_0
                  try clear hfz38_1
                  try clear hfz40_0
                  try clear hfz40_1
                  try clear hfz42_0
                  try clear hfz42_1
                  try clear hfz44_0
                  try clear hfz44_1
                  try clear hfz47_0
                  try clear hfz47_1
                  try clear hfz7_0
                  try clear hfz7_1
                  try clear p2
                  try clear p6
                  obtain ⟨kq, x93_45, rfl, HA, HJ45, BK651, HB⟩ := hcut
                  cases kq with
                  | zero => exact absurd HA.out (by simp [spec_l7Apart.j5])
                  | succ kj45 =>
                   have H := HA.out
                   clear HA
                   simp only [spec_l7Apart.j5] at H
                   by_cases c55 : x93_45 = true
                   ·subst c55
                    have H1 : (spec_l7Apart.l4 kj45 a1 x7_2 x8_3 x9_4 (wrap64 (x10_5 + 1)) a0_0 a0_1) = some r := by rw [if_pos rfl] at H; exact H
                    clear H
                    have H := H1
                    clear H1
                    have H' := Aside0.mk H
                    clear H
                    go_wp2
                    go_roundg kj45
                    case measure => have := HK1.out; have := HK2.out; have := HK3.out; have := HK4.out; have := HK5.out; have := HJ45.out; omega
                    case rel => exact ⟨(wrap64 (x10_5 + 1)), zF, H', ⟨by have := HK1.out; have := HK2.out; have := HK3.out; have := HK4.out; have := HK5.out; have := HJ45.out; omega⟩, ⟨zK BK651.out⟩, ⟨zG GE651.out⟩⟩
                   ·replace c55 := Bool.eq_false_iff.mpr c55
                    subst c55
                    have H1 : ((spec_l5Split.f kj45 a0_0 a0_1 (([x7_2, x8_3, x9_4, x10_5] : List Int))).bind fun bt665 => (if 0 ≤ (IntKind.u64.wrap (x7_2)) then (if 0 ≤ (IntKind.u64.wrap (x8_3)) then (if bt665.1 = (wrap64 ((shl .i64 1 (IntKind.u64.wrap (x7_2))) + (shl .i64 1 (IntKind.u64.wrap (x8_3))))) then (some false) else (spec_l7Apart.l4 kj45 a1 x7_2 x8_3 x9_4 (wrap64 (x10_5 + 1)) a0_0 a0_1)) else (none)) else (none))) = some r := by rw [if_neg (show ¬ (false = true) by decide)] at H; exact H
                    clear H
                    have H := H1
                    clear H1
                    obtain ⟨y662, hy662⟩ : ∃ y_ : List Int, y_ = (([x7_2, x8_3, x9_4, x10_5] : List Int)) := ⟨_, rfl⟩
                    replace H : ((spec_l5Split.f kj45 a0_0 a0_1 y662).bind fun bt665 => (if 0 ≤ (IntKind.u64.wrap (x7_2)) then (if 0 ≤ (IntKind.u64.wrap (x8_3)) then (if bt665.1 = (wrap64 ((shl .i64 1 (IntKind.u64.wrap (x7_2))) + (shl .i64 1 (IntKind.u64.wrap (x8_3))))) then (some false) else (spec_l7Apart.l4 kj45 a1 x7_2 x8_3 x9_4 (wrap64 (x10_5 + 1)) a0_0 a0_1)) else (none)) else (none))) = some r := by first | (rw [hy662]; with_reducible exact H) | (have H2_ := (Option.bind_some _ _).symm.trans H; rw [hy662]; with_reducible exact H2_) | (have H2_ := (Option.bind_some _ _).symm.trans H; with_reducible exact H2_) | with_reducible exact H | (rw [hy662]; exact H) | exact H
                    have Ny662 := Aside0.mk hy662
                    clear hy662
                    replace H := Option.bind_eq_some_iff.mp H
                    obtain ⟨⟨t665, t666⟩, A560, H⟩ := H
                    replace H : (if 0 ≤ (IntKind.u64.wrap (x7_2)) then (if 0 ≤ (IntKind.u64.wrap (x8_3)) then (if t665 = (wrap64 ((shl .i64 1 (IntKind.u64.wrap (x7_2))) + (shl .i64 1 (IntKind.u64.wrap (x8_3))))) then (some false) else (spec_l7Apart.l4 kj45 a1 x7_2 x8_3 x9_4 (wrap64 (x10_5 + 1)) a0_0 a0_1)) else (none)) else (none)) = some r := H
                    have A56 := Aside0.mk A560
                    clear A560
                    obtain ⟨ji57, hji57⟩ : ∃ j_ : Int, (IntKind.u64.wrap (x7_2)) = j_ := ⟨_, rfl⟩
                    replace H : (if 0 ≤ (ji57) then (if 0 ≤ (IntKind.u64.wrap (x8_3)) then (if t665 = (wrap64 ((shl .i64 1 (ji57)) + (shl .i64 1 (IntKind.u64.wrap (x8_3))))) then (some false) else (spec_l7Apart.l4 kj45 a1 x7_2 x8_3 x9_4 (wrap64 (x10_5 + 1)) a0_0 a0_1)) else (none)) else (none)) = some r := by first | (rw [hji57] at H; exact H) | (simp only [hji57] at H ⊢; exact H)
                    (try rw [hji57] at A56)
                    by_cases c58 : 0 ≤ (ji57)
                    ·rw [if_pos c58] at H
                     have c58b0 := eq_true c58
                     have c58b1 : decide (0 ≤ (ji57)) = true := decide_eq_true c58
                     clear c58
                     obtain ⟨ji59, hji59⟩ : ∃ j_ : Int, (shl .i64 1 (ji57)) = j_ := ⟨_, rfl⟩
                     replace H : (if 0 ≤ (IntKind.u64.wrap (x8_3)) then (if t665 = (wrap64 ((ji59) + (shl .i64 1 (IntKind.u64.wrap (x8_3))))) then (some false) else (spec_l7Apart.l4 kj45 a1 x7_2 x8_3 x9_4 (wrap64 (x10_5 + 1)) a0_0 a0_1)) else (none)) = some r := by first | (rw [hji59] at H; exact H) | (simp only [hji59] at H ⊢; exact H)
                     (try rw [hji59] at A56)
                     have hji59_ : (IntKind.i64.wrap (1 * 2 ^ min (ji57).toNat 64)) = ji59 := hji59
                     have hji59z : (ji57) ≤ 64 → (IntKind.i64.wrap (1 * 2 ^ (ji57).toNat)) = ji59 := shl_small hji59
                     have hji59u : (IntKind.i64.wrap (2 ^ min (ji57).toNat 64)) = ji59 := by have h_ := hji59_; rw [Int.one_mul] at h_; exact h_
                     have hji59v : (ji57) ≤ 64 → (IntKind.i64.wrap (2 ^ (ji57).toNat)) = ji59 := fun hle_ => by have h_ := hji59z hle_; rw [Int.one_mul] at h_; exact h_
                     have hji59y : (wrap64 (1 * 2 ^ min (ji57).toNat 64)) = ji59 := (i64_w _).symm.trans hji59_
                     have hji59x : (ji57) ≤ 64 → (wrap64 (1 * 2 ^ (ji57).toNat)) = ji59 := fun h_ => (i64_w _).symm.trans (hji59z h_)
                     obtain ⟨ji60, hji60⟩ : ∃ j_ : Int, (IntKind.u64.wrap (x8_3)) = j_ := ⟨_, rfl⟩
                     replace H : (if 0 ≤ (ji60) then (if t665 = (wrap64 ((ji59) + (shl .i64 1 (ji60)))) then (some false) else (spec_l7Apart.l4 kj45 a1 x7_2 x8_3 x9_4 (wrap64 (x10_5 + 1)) a0_0 a0_1)) else (none)) = some r := by first | (rw [hji60] at H; exact H) | (simp only [hji60] at H ⊢; exact H)
                     (try rw [hji60] at A56)
                     by_cases c61 : 0 ≤ (ji60)
                     ·rw [if_pos c61] at H
                      have c61b0 := eq_true c61
                      have c61b1 : decide (0 ≤ (ji60)) = true := decide_eq_true c61
                      clear c61
                      obtain ⟨ji62, hji62⟩ : ∃ j_ : Int, (shl .i64 1 (ji60)) = j_ := ⟨_, rfl⟩
                      replace H : (if t665 = (wrap64 ((ji59) + (ji62))) then (some false) else (spec_l7Apart.l4 kj45 a1 x7_2 x8_3 x9_4 (wrap64 (x10_5 + 1)) a0_0 a0_1)) = some r := by first | (rw [hji62] at H; exact H) | (simp only [hji62] at H ⊢; exact H)
                      (try rw [hji62] at A56)
                      have hji62_ : (IntKind.i64.wrap (1 * 2 ^ min (ji60).toNat 64)) = ji62 := hji62
                      have hji62z : (ji60) ≤ 64 → (IntKind.i64.wrap (1 * 2 ^ (ji60).toNat)) = ji62 := shl_small hji62
                      have hji62u : (IntKind.i64.wrap (2 ^ min (ji60).toNat 64)) = ji62 := by have h_ := hji62_; rw [Int.one_mul] at h_; exact h_
                      have hji62v : (ji60) ≤ 64 → (IntKind.i64.wrap (2 ^ (ji60).toNat)) = ji62 := fun hle_ => by have h_ := hji62z hle_; rw [Int.one_mul] at h_; exact h_
                      have hji62y : (wrap64 (1 * 2 ^ min (ji60).toNat 64)) = ji62 := (i64_w _).symm.trans hji62_
                      have hji62x : (ji60) ≤ 64 → (wrap64 (1 * 2 ^ (ji60).toNat)) = ji62 := fun h_ => (i64_w _).symm.trans (hji62z h_)
                      by_cases c63 : t665 = (wrap64 ((ji59) + (ji62)))
                      ·rw [if_pos c63] at H
                       have c63b0 : (t665 == (wrap64 ((ji59) + (ji62)))) = true := beq_iff_eq.mpr c63
                       have c63b1 : (t665 != (wrap64 ((ji59) + (ji62)))) = false := bne_eq_false_iff_eq.mpr c63
                       clear c63
                       obtain rfl := Option.some.inj H
                       have hcz64_0 : wc.cell? ⟨gb651, 0, none⟩ = some (.int .i64 a0_0) := (blk_cell BK651.out 0).trans rfl
                       have hcz64_1 : wc.cell? ⟨gb651, 1, none⟩ = some (.string a0_1) := (blk_cell BK651.out 1).trans rfl
                       have hfz64_0 := blk_frozen BK651.out 0
                       have hfz64_1 := blk_frozen BK651.out 1
                       go_wp2_with (first | ((with_reducible refine gate_dst (N := 100) rfl ?_); refine Kd.R_lit (Kd.int .i64) _ 3 ?hg (N := 100) ?hd (xs := ([x7_2, x8_3, x9_4, x10_5] : List Int)) (inner := [.int .i64 x7_2, .int .i64 x8_3, .int .i64 x9_4, .int .i64 x10_5]) (ok := fun _ => True) (okp := fun _ => True) ?hr ?hp (fun _ hk => hk) trivial (Below.refl _ _) (Nat.le_refl _) (by simp) ?_; (case hd => rfl); (case hg => rfl); (case hr => first | (go_simp; done) | (go_simp; rfl)); (case hp => exact (Reps.one (show Kd.M (Kd.int .i64) _ _ _ x7_2 [.int .i64 x7_2] from rfl) (Reps.one (show Kd.M (Kd.int .i64) _ _ _ x8_3 [.int .i64 x8_3] from rfl) (Reps.one (show Kd.M (Kd.int .i64) _ _ _ x9_4 [.int .i64 x9_4] from rfl) (Reps.one (show Kd.M (Kd.int .i64) _ _ _ x10_5 [.int .i64 x10_5] from rfl) (Reps.none _ _)))))); intro v663 w65 ho66 hb hg_ hnew_; clear hg_ hnew_; (first | rw [← Ny662.out] at ho66 | (simp only [Int.reduceToNat] at ho66; rw [← Ny662.out] at ho66)); have HO664 := Aside0.mk (Kd.R_lower ho66 (below_size (zG GE651.out))); replace BK651 := Aside0.mk (blk_below (g := gb651) (o := .cells #[.int .i64 a0_0, .string a0_1] 26 (0, 0)) (zK BK651.out) hb); replace HB := Aside0.mk (below_step (zG GE651.out) hb); clear hb ho66; obtain ⟨Ao67, co67, eo67⟩ := Kd.R_slice HO664.out; subst eo67) | ((with_reducible refine gate_callee (f := 74) rfl ?_); refine goesL_ (some 101) rfl rfl Try.func74 (by kernel_rfl) rfl #[.agg #[.int .i64 a0_0, .string a0_1], .slice Ao67 y662.length co67] rfl zM ?_; (with_reducible refine (spec_l5Split.calls kj45 a0_0 a0_1 _ _ y662 t665 t666 _ ?side1 ?side2 A56.out).mono ?_); (case side1 => repeat (first | exact (Kd.R_reads' HO664.out).2.2 | (with_reducible refine Kd.C_alloc ?_ _) | (with_reducible refine Kd.C_drewN ?_ _) | (with_reducible refine Kd.C_drew ?_))); (case side2 => exact (Kd.R_reads' HO664.out).2.1); rintro e w68 ⟨rfl, hb⟩; refine ⟨_, rfl, ?_⟩; replace HO664 := Aside0.mk (Kd.R_below (zR HO664.out) hb); replace BK651 := Aside0.mk (blk_below (g := gb651) (o := .cells #[.int .i64 a0_0, .string a0_1] 26 (0, 0)) (zK BK651.out) hb); replace HB := Aside0.mk (below_step (zG GE651.out) hb); (try clear hb)))
                       go_ret
                       exact ⟨by first | rfl | (simp [errW_none, errW_some] <;> rfl) | (simp only [← hji3, ← hji5, ← hji57, ← hji59, ← hji60, ← hji62]; first | rfl | (simp [errW_none, errW_some] <;> rfl)) | (simp [*, errW_none, errW_some] <;> rfl), zG GE651.out⟩
                      ·rw [if_neg c63] at H
                       have c63b0 : (t665 == (wrap64 ((ji59) + (ji62)))) = false := beq_eq_false_iff_ne.mpr c63
                       have c63b1 : (t665 != (wrap64 ((ji59) + (ji62)))) = true := bne_iff_ne.mpr c63
                       have H' := Aside0.mk H
                       clear H
                       have hcz69_0 : wc.cell? ⟨gb651, 0, none⟩ = some (.int .i64 a0_0) := (blk_cell BK651.out 0).trans rfl
                       have hcz69_1 : wc.cell? ⟨gb651, 1, none⟩ = some (.string a0_1) := (blk_cell BK651.out 1).trans rfl
                       have hfz69_0 := blk_frozen BK651.out 0
                       have hfz69_1 := blk_frozen BK651.out 1
                       go_wp2_with (first | ((with_reducible refine gate_dst (N := 100) rfl ?_); refine Kd.R_lit (Kd.int .i64) _ 3 ?hg (N := 100) ?hd (xs := ([x7_2, x8_3, x9_4, x10_5] : List Int)) (inner := [.int .i64 x7_2, .int .i64 x8_3, .int .i64 x9_4, .int .i64 x10_5]) (ok := fun _ => True) (okp := fun _ => True) ?hr ?hp (fun _ hk => hk) trivial (Below.refl _ _) (Nat.le_refl _) (by simp) ?_; (case hd => rfl); (case hg => rfl); (case hr => first | (go_simp; done) | (go_simp; rfl)); (case hp => exact (Reps.one (show Kd.M (Kd.int .i64) _ _ _ x7_2 [.int .i64 x7_2] from rfl) (Reps.one (show Kd.M (Kd.int .i64) _ _ _ x8_3 [.int .i64 x8_3] from rfl) (Reps.one (show Kd.M (Kd.int .i64) _ _ _ x9_4 [.int .i64 x9_4] from rfl) (Reps.one (show Kd.M (Kd.int .i64) _ _ _ x10_5 [.int .i64 x10_5] from rfl) (Reps.none _ _)))))); intro v663 w70 ho71 hb hg_ hnew_; clear hg_ hnew_; (first | rw [← Ny662.out] at ho71 | (simp only [Int.reduceToNat] at ho71; rw [← Ny662.out] at ho71)); have HO664 := Aside0.mk (Kd.R_lower ho71 (below_size (zG GE651.out))); replace BK651 := Aside0.mk (blk_below (g := gb651) (o := .cells #[.int .i64 a0_0, .string a0_1] 26 (0, 0)) (zK BK651.out) hb); replace HB := Aside0.mk (below_step (zG GE651.out) hb); clear hb ho71; obtain ⟨Ao72, co72, eo72⟩ := Kd.R_slice HO664.out; subst eo72) | ((with_reducible refine gate_callee (f := 74) rfl ?_); refine goesL_ (some 101) rfl rfl Try.func74 (by kernel_rfl) rfl #[.agg #[.int .i64 a0_0, .string a0_1], .slice Ao72 y662.length co72] rfl zM ?_; (with_reducible refine (spec_l5Split.calls kj45 a0_0 a0_1 _ _ y662 t665 t666 _ ?side1 ?side2 A56.out).mono ?_); (case side1 => repeat (first | exact (Kd.R_reads' HO664.out).2.2 | (with_reducible refine Kd.C_alloc ?_ _) | (with_reducible refine Kd.C_drewN ?_ _) | (with_reducible refine Kd.C_drew ?_))); (case side2 => exact (Kd.R_reads' HO664.out).2.1); rintro e w73 ⟨rfl, hb⟩; refine ⟨_, rfl, ?_⟩; replace HO664 := Aside0.mk (Kd.R_below (zR HO664.out) hb); replace BK651 := Aside0.mk (blk_below (g := gb651) (o := .cells #[.int .i64 a0_0, .string a0_1] 26 (0, 0)) (zK BK651.out) hb); replace HB := Aside0.mk (below_step (zG GE651.out) hb); (try clear hb)))
                       go_roundg kj45
                       case measure => have := HK1.out; have := HK2.out; have := HK3.out; have := HK4.out; have := HK5.out; have := HJ45.out; omega
                       case rel => exact ⟨(wrap64 (x10_5 + 1)), zF, H', ⟨by have := HK1.out; have := HK2.out; have := HK3.out; have := HK4.out; have := HK5.out; have := HJ45.out; omega⟩, ⟨zK BK651.out⟩, ⟨zG GE651.out⟩⟩
                     ·rw [if_neg c61] at H
                      exact absurd H (by simp)
                    ·rw [if_neg c58] at H
                     exact absurd H (by simp)
                ·rw [if_neg c45] at H
                 have c45b0 : decide (x10_5 < a0_0) = false := decide_eq_false c45
                 clear c45
                 have H' := Aside0.mk H
                 clear H
                 have hcz74_0 : wr.cell? ⟨gb651, 0, none⟩ = some (.int .i64 a0_0) := (blk_cell BK651.out 0).trans rfl
                 have hcz74_1 : wr.cell? ⟨gb651, 1, none⟩ = some (.string a0_1) := (blk_cell BK651.out 1).trans rfl
                 have hfz74_0 := blk_frozen BK651.out 0
                 have hfz74_1 := blk_frozen BK651.out 1
                 go_wp2
                 go_roundg k5
                 case measure => have := HK1.out; have := HK2.out; have := HK3.out; have := HK4.out; have := HK5.out; omega
                 case rel => exact ⟨(wrap64 (x9_4 + 1)), zF, H', ⟨by have := HK1.out; have := HK2.out; have := HK3.out; have := HK4.out; have := HK5.out; omega⟩, ⟨zK BK651.out⟩, ⟨zG GE651.out⟩⟩
             ·rw [if_neg c43] at H
              have c43b0 : decide (x9_4 < a0_0) = false := decide_eq_false c43
              clear c43
              have H' := Aside0.mk H
              clear H
              have hcz75_0 : wr.cell? ⟨gb651, 0, none⟩ = some (.int .i64 a0_0) := (blk_cell BK651.out 0).trans rfl
              have hcz75_1 : wr.cell? ⟨gb651, 1, none⟩ = some (.string a0_1) := (blk_cell BK651.out 1).trans rfl
              have hfz75_0 := blk_frozen BK651.out 0
              have hfz75_1 := blk_frozen BK651.out 1
              go_wp2
              go_roundg k4
              case measure => have := HK1.out; have := HK2.out; have := HK3.out; have := HK4.out; omega
              case rel => exact ⟨(wrap64 (x8_3 + 1)), zF, H', ⟨by have := HK1.out; have := HK2.out; have := HK3.out; have := HK4.out; omega⟩, ⟨zK BK651.out⟩, ⟨zG GE651.out⟩⟩
          ·rw [if_neg c41] at H
           have c41b0 : decide (x8_3 < a0_0) = false := decide_eq_false c41
           clear c41
           have H' := Aside0.mk H
           clear H
           have hcz76_0 : wr.cell? ⟨gb651, 0, none⟩ = some (.int .i64 a0_0) := (blk_cell BK651.out 0).trans rfl
           have hcz76_1 : wr.cell? ⟨gb651, 1, none⟩ = some (.string a0_1) := (blk_cell BK651.out 1).trans rfl
           have hfz76_0 := blk_frozen BK651.out 0
           have hfz76_1 := blk_frozen BK651.out 1
           go_wp2
           go_roundg k3
           case measure => have := HK1.out; have := HK2.out; have := HK3.out; omega
           case rel => exact ⟨(wrap64 (x7_2 + 1)), zF, H', ⟨by have := HK1.out; have := HK2.out; have := HK3.out; omega⟩, ⟨zK BK651.out⟩, ⟨zG GE651.out⟩⟩
       ·rw [if_neg c39] at H
        have c39b0 : decide (x7_2 < a0_0) = false := decide_eq_false c39
        clear c39
        obtain rfl := Option.some.inj H
        have hcz77_0 : wr.cell? ⟨gb651, 0, none⟩ = some (.int .i64 a0_0) := (blk_cell BK651.out 0).trans rfl
        have hcz77_1 : wr.cell? ⟨gb651, 1, none⟩ = some (.string a0_1) := (blk_cell BK651.out 1).trans rfl
        have hfz77_0 := blk_frozen BK651.out 0
        have hfz77_1 := blk_frozen BK651.out 1
        go_wp2
        go_ret
        exact ⟨by first | rfl | (simp [errW_none, errW_some] <;> rfl) | (simp only [← hji3, ← hji5]; first | rfl | (simp [errW_none, errW_some] <;> rfl)) | (simp [*, errW_none, errW_some] <;> rfl), zG GE651.out⟩
 ·rw [if_neg c4] at H
  exact absurd H (by simp)
/-! ### spec_CutSets: function 36 -/
mutual
def spec_CutSets.j0 : Nat → Int → List Int → Bool → Int → ByteArray → Option (List Int)
 | 0, _, _, _, _, _ => none
 | k + 1, x1, x5, x17, x668000, x668001 => if x17 = true then (some x5) else (spec_CutSets.l0 k x1 x5 0 x668000 x668001)
def spec_CutSets.l0 : Nat → Int → List Int → Int → Int → ByteArray → Option (List Int)
 | 0, _, _, _, _, _ => none
 | k + 1, x1, x5, x6, x668000, x668001 => if 0 ≤ (IntKind.u64.wrap (x668000)) then (if x6 < (shl .i64 1 (IntKind.u64.wrap (x668000))) then ((spec_l7Bits.f k x6).bind fun t673 => (if t673 = x1 then ((spec_l7Apart.f k x668000 x668001 x6).bind fun t674 => (if t674 = true then (if x5.length < 17592186044416 then (spec_CutSets.l0 k x1 (x5 ++ [x6]) (wrap64 (x6 + 1)) x668000 x668001) else (none)) else (spec_CutSets.l0 k x1 x5 (wrap64 (x6 + 1)) x668000 x668001))) else (spec_CutSets.l0 k x1 x5 (wrap64 (x6 + 1)) x668000 x668001))) else (some x5)) else (none)
end
def spec_CutSets.f (k : Nat) (a0_0 : Int) (a0_1 : ByteArray) (a1 : Int) : Option (List Int) := (some (([] : List Int) : List Int)).bind fun y668 => ((spec_IsAcyclic.f k a0_0 a0_1).bind fun t671 => (if t671 = true then ((spec_l1In.f a1 0 a0_0).bind fun t672 => (spec_CutSets.j0 k a1 y668 (!t672) a0_0 a0_1)) else (spec_CutSets.j0 k a1 y668 true a0_0 a0_1)))
theorem spec_CutSets.mono_l : ∀ k, (∀ y0 y1 y2 y3 y4, LeO (spec_CutSets.j0 k y0 y1 y2 y3 y4) (spec_CutSets.j0 (k + 1) y0 y1 y2 y3 y4)) ∧ (∀ y0 y1 y2 y3 y4, LeO (spec_CutSets.l0 k y0 y1 y2 y3 y4) (spec_CutSets.l0 (k + 1) y0 y1 y2 y3 y4))
 | 0 => ⟨fun _ _ _ _ _ r h => by simp [spec_CutSets.j0] at h, fun _ _ _ _ _ r h => by simp [spec_CutSets.l0] at h⟩
 | k + 1 => by
  obtain ⟨ih0, ih1⟩ := spec_CutSets.mono_l k
  refine ⟨?_, ?_⟩ <;> intros <;> (first | unfold spec_CutSets.j0 | unfold spec_CutSets.l0) <;> repeat' first
  | (with_reducible exact ih0 _ _ _ _ _)
  | (with_reducible exact ih1 _ _ _ _ _)
  | (with_reducible exact spec_IsAcyclic.mono _ _ _)
  | (with_reducible exact spec_l7Apart.mono _ _ _ _)
  | (with_reducible exact spec_l7Bits.mono _ _)
  | (with_reducible exact LeO.refl _)
  | (with_reducible exact LeO.none _)
  | (with_reducible refine LeO.ite ?_ ?_)
  | (with_reducible refine LeO.bind ?_ (fun _ => ?_))
  | exact ih0 _ _ _ _ _
  | exact ih1 _ _ _ _ _
  | exact spec_IsAcyclic.mono _ _ _
  | exact spec_l7Apart.mono _ _ _ _
  | exact spec_l7Bits.mono _ _
  | exact LeO.none _
  | refine LeO.ite ?_ ?_
  | refine LeO.bind ?_ (fun _ => ?_)
theorem spec_CutSets.mono : ∀ a0 a1 a2 k, LeO (spec_CutSets.f k a0 a1 a2) (spec_CutSets.f (k + 1) a0 a1 a2) := by
 intro a0 a1 a2 k
 obtain ⟨ih0, ih1⟩ := spec_CutSets.mono_l k
 unfold spec_CutSets.f
 repeat' first
   | (with_reducible exact ih0 _ _ _ _ _)
   | (with_reducible exact ih1 _ _ _ _ _)
   | (with_reducible exact spec_IsAcyclic.mono _ _ _)
   | (with_reducible exact spec_l7Apart.mono _ _ _ _)
   | (with_reducible exact spec_l7Bits.mono _ _)
   | (with_reducible exact LeO.refl _)
   | (with_reducible exact LeO.none _)
   | (with_reducible refine LeO.ite ?_ ?_)
   | (with_reducible refine LeO.bind ?_ (fun _ => ?_))
   | exact ih0 _ _ _ _ _
   | exact ih1 _ _ _ _ _
   | exact spec_IsAcyclic.mono _ _ _
   | exact spec_l7Apart.mono _ _ _ _
   | exact spec_l7Bits.mono _ _
   | exact LeO.none _
   | refine LeO.ite ?_ ?_
   | refine LeO.bind ?_ (fun _ => ?_)
set_option maxHeartbeats 8000000 in
set_option maxRecDepth 100000 in
theorem spec_CutSets.calls (k : Nat) (a0_0 : Int) (a0_1 : ByteArray) (a1 : Int) (r : List Int) (w : World) (h : spec_CutSets.f k a0_0 a0_1 a1 = some r) :
  Calls Try.prog 36 #[.agg #[.int .i64 a0_0, .string a0_1], .int .i64 a1] w fun e w' => ∃ v0_ : Value, e = .returned (v0_) ∧ Kd.R (Kd.int .i64) 3 w' w.heap.size (fun _ => True) v0_ r ∧ Below w.heap.size w w' := by
 have hu26 := Try.underlying26
 have HB := Aside0.mk (Below.refl w.heap.size w)
 have H : ((some (([] : List Int) : List Int)).bind fun y668 => ((spec_IsAcyclic.f k a0_0 a0_1).bind fun t671 => (if t671 = true then ((spec_l1In.f a1 0 a0_0).bind fun t672 => (spec_CutSets.j0 k a1 y668 (!t672) a0_0 a0_1)) else (spec_CutSets.j0 k a1 y668 true a0_0 a0_1)))) = some r := h
 clear h
 obtain ⟨y668, hy668⟩ : ∃ y_ : List Int, y_ = (([] : List Int)) := ⟨_, rfl⟩
 replace H : ((spec_IsAcyclic.f k a0_0 a0_1).bind fun t671 => (if t671 = true then ((spec_l1In.f a1 0 a0_0).bind fun t672 => (spec_CutSets.j0 k a1 y668 (!t672) a0_0 a0_1)) else (spec_CutSets.j0 k a1 y668 true a0_0 a0_1))) = some r := by first | (rw [hy668]; with_reducible exact H) | (have H2_ := (Option.bind_some _ _).symm.trans H; rw [hy668]; with_reducible exact H2_) | (have H2_ := (Option.bind_some _ _).symm.trans H; with_reducible exact H2_) | with_reducible exact H | (rw [hy668]; exact H) | exact H
 have Ny668 := Aside0.mk hy668
 clear hy668
 have HC3 := Aside0.mk H
 clear H
 go_enter Try.func36, Try.ntmps36
 go_upto_region 2 with (first | ((with_reducible refine gate_dst (N := 2) rfl ?_); refine box_event ?hg (N := 2) ?hd (cs := #[.int .i64 a0_0, .string a0_1]) (t := 26) ?hr ?_; (case hd => rfl); (case hg => rfl); (case hr => first | (go_simp; done) | (go_simp; rfl)); intro gb667 hg w4 hbox hb; have BK667 := Aside0.mk (hbox); have GW667 := Aside0.mk ((by rw [hg]; exact (below_size zB) : w.heap.size ≤ gb667)); have GE667 := Aside0.mk ((by rw [hg]; exact (below_size zB) : w.heap.size ≤ gb667)); replace HB := Aside0.mk (below_step zB hb); clear hb hbox hg) | ((with_reducible refine gate_dst (N := 7) rfl ?_); refine Kd.R_lit (Kd.int .i64) _ 3 ?hg (N := 7) ?hd (xs := ([] : List Int)) (inner := []) (ok := fun _ => True) (okp := fun _ => True) ?hr ?hp (fun _ hk => hk) trivial (Below.refl _ _) (Nat.le_refl _) (by simp) ?_; (case hd => rfl); (case hg => rfl); (case hr => first | (go_simp; done) | (go_simp; rfl)); (case hp => exact (Reps.none _ _)); intro v669 w5 ho6 hb hg_ hnew_; clear hg_ hnew_; (first | rw [← Ny668.out] at ho6 | (simp only [Int.reduceToNat] at ho6; rw [← Ny668.out] at ho6)); have HO670 := Aside0.mk (Kd.R_lower ho6 (below_size (zG GE667.out))); replace BK667 := Aside0.mk (blk_below (g := gb667) (o := .cells #[.int .i64 a0_0, .string a0_1] 26 (0, 0)) (zK BK667.out) hb); replace HB := Aside0.mk (below_step (zG GE667.out) hb); clear hb ho6))
 (try simp only [Act.put, List.setIfInBounds_toArray, List.set_cons_zero, List.set_cons_succ])
 go_cut [17] (fun v17 wc => ∃ (kq : Nat) (x17_2 : Bool), v17 = .bool x17_2 ∧ Aside0 (spec_CutSets.j0 kq a1 y668 x17_2 a0_0 a0_1 = some r) ∧ Aside0 (kq ≤ k) ∧ Aside0 (Kd.R (Kd.int .i64) 3 wc w.heap.size (fun _ => True) v669 y668) ∧ Aside0 (wc.heap[gb667]? = some (.cells #[.int .i64 a0_0, .string a0_1] 26 (0, 0))) ∧ Aside0 (Below w.heap.size w wc))
 case first =>
  have H := HC3.out
  clear HC3
  replace H := Option.bind_eq_some_iff.mp H
  obtain ⟨t671, A70, H⟩ := H
  replace H : (if t671 = true then ((spec_l1In.f a1 0 a0_0).bind fun t672 => (spec_CutSets.j0 k a1 y668 (!t672) a0_0 a0_1)) else (spec_CutSets.j0 k a1 y668 true a0_0 a0_1)) = some r := H
  have A7 := Aside0.mk A70
  clear A70
  by_cases c8 : t671 = true
  ·subst c8
   have H1 : ((spec_l1In.f a1 0 a0_0).bind fun t672 => (spec_CutSets.j0 k a1 y668 (!t672) a0_0 a0_1)) = some r := by rw [if_pos rfl] at H; exact H
   clear H
   have H := H1
   clear H1
   replace H := Option.bind_eq_some_iff.mp H
   obtain ⟨t672, A90, H⟩ := H
   replace H : (spec_CutSets.j0 k a1 y668 (!t672) a0_0 a0_1) = some r := H
   have A9 := Aside0.mk A90
   clear A90
   have H' := Aside0.mk H
   clear H
   have hcz10_0 : w5.cell? ⟨gb667, 0, none⟩ = some (.int .i64 a0_0) := (blk_cell BK667.out 0).trans rfl
   have hcz10_1 : w5.cell? ⟨gb667, 1, none⟩ = some (.string a0_1) := (blk_cell BK667.out 1).trans rfl
   have hfz10_0 := blk_frozen BK667.out 0
   have hfz10_1 := blk_frozen BK667.out 1
   go_wp2_with (first | ((with_reducible refine gate_callee (f := 38) rfl ?_); refine goesL_ (some 9) rfl rfl Try.func38 (by kernel_rfl) rfl #[.agg #[.int .i64 a0_0, .string a0_1]] rfl zM ?_; (with_reducible refine (spec_IsAcyclic.calls k a0_0 a0_1 true _ A7.out).mono ?_); rintro e w11 ⟨rfl, hb⟩; refine ⟨_, rfl, ?_⟩; replace HO670 := Aside0.mk (Kd.R_below (zR HO670.out) hb); replace BK667 := Aside0.mk (blk_below (g := gb667) (o := .cells #[.int .i64 a0_0, .string a0_1] 26 (0, 0)) (zK BK667.out) hb); replace HB := Aside0.mk (below_step (zG GE667.out) hb); (try clear hb); have hcz12_0 : w11.cell? ⟨gb667, 0, none⟩ = some (.int .i64 a0_0) := (blk_cell BK667.out 0).trans rfl; have hcz12_1 : w11.cell? ⟨gb667, 1, none⟩ = some (.string a0_1) := (blk_cell BK667.out 1).trans rfl; have hfz12_0 := blk_frozen BK667.out 0; have hfz12_1 := blk_frozen BK667.out 1) | (go_at_call 45; (with_reducible refine (spec_l1In.calls a1 0 a0_0 t672 _ A9.out).mono ?_); rintro e w' ⟨rfl, ⟨nd, rfl⟩⟩))
   go_meet
   case rel => exact ⟨_, (!t672), zF, H', ⟨by first | omega | exact Nat.le_refl _⟩, ⟨zR HO670.out⟩, ⟨zK BK667.out⟩, ⟨zG GE667.out⟩⟩
  ·replace c8 := Bool.eq_false_iff.mpr c8
   subst c8
   have H1 : (spec_CutSets.j0 k a1 y668 true a0_0 a0_1) = some r := by rw [if_neg (show ¬ (false = true) by decide)] at H; exact H
   clear H
   have H := H1
   clear H1
   have H' := Aside0.mk H
   clear H
   have hcz13_0 : w5.cell? ⟨gb667, 0, none⟩ = some (.int .i64 a0_0) := (blk_cell BK667.out 0).trans rfl
   have hcz13_1 : w5.cell? ⟨gb667, 1, none⟩ = some (.string a0_1) := (blk_cell BK667.out 1).trans rfl
   have hfz13_0 := blk_frozen BK667.out 0
   have hfz13_1 := blk_frozen BK667.out 1
   go_wp2_with (first | ((with_reducible refine gate_callee (f := 38) rfl ?_); refine goesL_ (some 9) rfl rfl Try.func38 (by kernel_rfl) rfl #[.agg #[.int .i64 a0_0, .string a0_1]] rfl zM ?_; (with_reducible refine (spec_IsAcyclic.calls k a0_0 a0_1 false _ A7.out).mono ?_); rintro e w14 ⟨rfl, hb⟩; refine ⟨_, rfl, ?_⟩; replace HO670 := Aside0.mk (Kd.R_below (zR HO670.out) hb); replace BK667 := Aside0.mk (blk_below (g := gb667) (o := .cells #[.int .i64 a0_0, .string a0_1] 26 (0, 0)) (zK BK667.out) hb); replace HB := Aside0.mk (below_step (zG GE667.out) hb); (try clear hb)))
   go_meet
   case rel => exact ⟨_, (true), zF, H', ⟨by first | omega | exact Nat.le_refl _⟩, ⟨zR HO670.out⟩, ⟨zK BK667.out⟩, ⟨zG GE667.out⟩⟩
 case rest =>
  clear HC3
  try clear p2
  try clear c3
  try clear c8
  try clear hcz10_0
  try clear hcz10_1
  try clear hcz12_0
  try clear hcz12_1
  try clear hcz13_0
  try clear hcz13_1
  try clear hfz10_0
  try clear hfz10_1
  try clear hfz12_0
  try clear hfz12_1
  try clear hfz13_0
  try clear hfz13_1
  obtain ⟨kq, x17_2, rfl, HA, HJ2, HO_5, BK667, HB⟩ := hcut
  cases kq with
  | zero => exact absurd HA.out (by simp [spec_CutSets.j0])
  | succ kj2 =>
   have H := HA.out
   clear HA
   simp only [spec_CutSets.j0] at H
   by_cases c15 : x17_2 = true
   ·subst c15
    have H1 : (some y668) = some r := by rw [if_pos rfl] at H; exact H
    clear H
    have H := H1
    clear H1
    obtain rfl := Option.some.inj H
    go_wp2
    go_ret
    exact ⟨_, zE, zR HO_5.out, zG GE667.out⟩
   ·replace c15 := Bool.eq_false_iff.mpr c15
    subst c15
    have H1 : (spec_CutSets.l0 kj2 a1 y668 0 a0_0 a0_1) = some r := by rw [if_neg (show ¬ (false = true) by decide)] at H; exact H
    clear H
    have H := H1
    clear H1
    have H' := Aside0.mk H
    clear H
    go_wp2
    go_loopg [5, 6] kj2 (fun kq v5 v6 w' => ∃ (x5_2 : List Int) (x6_2 : Int), v6 = .int .i64 x6_2 ∧ Aside0 (spec_CutSets.l0 kq a1 x5_2 x6_2 a0_0 a0_1 = some r) ∧ Aside0 (kq ≤ kj2) ∧ Aside0 (Kd.R (Kd.int .i64) 3 w' w.heap.size (fun _ => True) v5 x5_2) ∧ Aside0 (w'.heap[gb667]? = some (.cells #[.int .i64 a0_0, .string a0_1] 26 (0, 0))) ∧ Aside0 (Below w.heap.size w w'))
    case atStart => exact ⟨(y668), (0), zF, H', ⟨Nat.le_refl _⟩, ⟨zR HO_5.out⟩, ⟨zK BK667.out⟩, ⟨zG GE667.out⟩⟩
    case round =>
     clear H'
     try clear c1
     try clear p2
     try clear c3
     try clear c8
     try clear c15
     try clear hcz10_0
     try clear hcz10_1
     try clear hcz12_0
     try clear hcz12_1
     try clear hcz13_0
     try clear hcz13_1
     try clear hfz10_0
     try clear hfz10_1
     try clear hfz12_0
     try clear hfz12_1
     try clear hfz13_0
     try clear hfz13_1
     try clear p2
     obtain ⟨x5_2, x6_2, rfl, HA, HK2, HO_5, BK667, HB⟩ := hrel
     cases gk with
     | zero => exact absurd HA.out (by simp [spec_CutSets.l0])
     | succ k2 =>
      have H := HA.out
      clear HA
      simp only [spec_CutSets.l0] at H
      obtain ⟨ji16, hji16⟩ : ∃ j_ : Int, (IntKind.u64.wrap (a0_0)) = j_ := ⟨_, rfl⟩
      replace H : (if 0 ≤ (ji16) then (if x6_2 < (shl .i64 1 (ji16)) then ((spec_l7Bits.f k2 x6_2).bind fun t673 => (if t673 = a1 then ((spec_l7Apart.f k2 a0_0 a0_1 x6_2).bind fun t674 => (if t674 = true then (if x5_2.length < 17592186044416 then (spec_CutSets.l0 k2 a1 (x5_2 ++ [x6_2]) (wrap64 (x6_2 + 1)) a0_0 a0_1) else (none)) else (spec_CutSets.l0 k2 a1 x5_2 (wrap64 (x6_2 + 1)) a0_0 a0_1))) else (spec_CutSets.l0 k2 a1 x5_2 (wrap64 (x6_2 + 1)) a0_0 a0_1))) else (some x5_2)) else (none)) = some r := by first | (rw [hji16] at H; exact H) | (simp only [hji16] at H ⊢; exact H)
      by_cases c17 : 0 ≤ (ji16)
      ·rw [if_pos c17] at H
       have c17b0 := eq_true c17
       have c17b1 : decide (0 ≤ (ji16)) = true := decide_eq_true c17
       clear c17
       obtain ⟨ji18, hji18⟩ : ∃ j_ : Int, (shl .i64 1 (ji16)) = j_ := ⟨_, rfl⟩
       replace H : (if x6_2 < (ji18) then ((spec_l7Bits.f k2 x6_2).bind fun t673 => (if t673 = a1 then ((spec_l7Apart.f k2 a0_0 a0_1 x6_2).bind fun t674 => (if t674 = true then (if x5_2.length < 17592186044416 then (spec_CutSets.l0 k2 a1 (x5_2 ++ [x6_2]) (wrap64 (x6_2 + 1)) a0_0 a0_1) else (none)) else (spec_CutSets.l0 k2 a1 x5_2 (wrap64 (x6_2 + 1)) a0_0 a0_1))) else (spec_CutSets.l0 k2 a1 x5_2 (wrap64 (x6_2 + 1)) a0_0 a0_1))) else (some x5_2)) = some r := by first | (rw [hji18] at H; exact H) | (simp only [hji18] at H ⊢; exact H)
       have hji18_ : (IntKind.i64.wrap (1 * 2 ^ min (ji16).toNat 64)) = ji18 := hji18
       have hji18z : (ji16) ≤ 64 → (IntKind.i64.wrap (1 * 2 ^ (ji16).toNat)) = ji18 := shl_small hji18
       have hji18u : (IntKind.i64.wrap (2 ^ min (ji16).toNat 64)) = ji18 := by have h_ := hji18_; rw [Int.one_mul] at h_; exact h_
       have hji18v : (ji16) ≤ 64 → (IntKind.i64.wrap (2 ^ (ji16).toNat)) = ji18 := fun hle_ => by have h_ := hji18z hle_; rw [Int.one_mul] at h_; exact h_
       have hji18y : (wrap64 (1 * 2 ^ min (ji16).toNat 64)) = ji18 := (i64_w _).symm.trans hji18_
       have hji18x : (ji16) ≤ 64 → (wrap64 (1 * 2 ^ (ji16).toNat)) = ji18 := fun h_ => (i64_w _).symm.trans (hji18z h_)
       by_cases c19 : x6_2 < (ji18)
       ·rw [if_pos c19] at H
        have c19b0 : decide (x6_2 < (ji18)) = true := decide_eq_true c19
        clear c19
        replace H := Option.bind_eq_some_iff.mp H
        obtain ⟨t673, A200, H⟩ := H
        replace H : (if t673 = a1 then ((spec_l7Apart.f k2 a0_0 a0_1 x6_2).bind fun t674 => (if t674 = true then (if x5_2.length < 17592186044416 then (spec_CutSets.l0 k2 a1 (x5_2 ++ [x6_2]) (wrap64 (x6_2 + 1)) a0_0 a0_1) else (none)) else (spec_CutSets.l0 k2 a1 x5_2 (wrap64 (x6_2 + 1)) a0_0 a0_1))) else (spec_CutSets.l0 k2 a1 x5_2 (wrap64 (x6_2 + 1)) a0_0 a0_1)) = some r := H
        have A20 := Aside0.mk A200
        clear A200
        by_cases c21 : t673 = a1
        ·rw [if_pos c21] at H
         have c21b0 : (t673 == a1) = true := beq_iff_eq.mpr c21
         have c21b1 : (t673 != a1) = false := bne_eq_false_iff_eq.mpr c21
         clear c21
         replace H := Option.bind_eq_some_iff.mp H
         obtain ⟨t674, A220, H⟩ := H
         replace H : (if t674 = true then (if x5_2.length < 17592186044416 then (spec_CutSets.l0 k2 a1 (x5_2 ++ [x6_2]) (wrap64 (x6_2 + 1)) a0_0 a0_1) else (none)) else (spec_CutSets.l0 k2 a1 x5_2 (wrap64 (x6_2 + 1)) a0_0 a0_1)) = some r := H
         have A22 := Aside0.mk A220
         clear A220
         by_cases c23 : t674 = true
         ·subst c23
          have H1 : (if x5_2.length < 17592186044416 then (spec_CutSets.l0 k2 a1 (x5_2 ++ [x6_2]) (wrap64 (x6_2 + 1)) a0_0 a0_1) else (none)) = some r := by rw [if_pos rfl] at H; exact H
          clear H
          have H := H1
          clear H1
          by_cases c24 : x5_2.length < 17592186044416
          ·rw [if_pos c24] at H
           have LMc24 := Aside0.mk c24
           clear c24
           obtain ⟨y675, hy675⟩ : ∃ y_ : List Int, y_ = (x5_2 ++ [x6_2]) := ⟨_, rfl⟩
           replace H : (spec_CutSets.l0 k2 a1 y675 (wrap64 (x6_2 + 1)) a0_0 a0_1) = some r := by first | (rw [hy675]; with_reducible exact H) | (have H2_ := (Option.bind_some _ _).symm.trans H; rw [hy675]; with_reducible exact H2_) | (have H2_ := (Option.bind_some _ _).symm.trans H; with_reducible exact H2_) | with_reducible exact H | (rw [hy675]; exact H) | exact H
           have Ny675 := Aside0.mk hy675
           clear hy675
           have H' := Aside0.mk H
           clear H
           have hcz25_0 : wr.cell? ⟨gb667, 0, none⟩ = some (.int .i64 a0_0) := (blk_cell BK667.out 0).trans rfl
           have hcz25_1 : wr.cell? ⟨gb667, 1, none⟩ = some (.string a0_1) := (blk_cell BK667.out 1).trans rfl
           have hfz25_0 := blk_frozen BK667.out 0
           have hfz25_1 := blk_frozen BK667.out 1
           go_wp2_with (first | ((with_reducible refine gate_callee (f := 56) rfl ?_); refine goesL_ (some 28) rfl rfl Try.func56 (by kernel_rfl) rfl #[.int .i64 x6_2] rfl zM ?_; (with_reducible refine (spec_l7Bits.calls k2 x6_2 t673 _ A20.out).mono ?_); rintro e w' ⟨rfl, ⟨nd, rfl⟩⟩; refine ⟨_, rfl, ?_⟩) | (go_at_call 57; (with_reducible refine (spec_l7Apart.calls k2 a0_0 a0_1 x6_2 true _ A22.out).mono ?_); rintro e w26 ⟨rfl, hb⟩; replace HO_5 := Aside0.mk (Kd.R_below (zR HO_5.out) hb); replace BK667 := Aside0.mk (blk_below (g := gb667) (o := .cells #[.int .i64 a0_0, .string a0_1] 26 (0, 0)) (zK BK667.out) hb); replace HB := Aside0.mk (below_step (zG GE667.out) hb); (try clear hb); (try clear hb2); (try clear hk); (try clear hi)) | ((with_reducible refine gate_builtin (b := .append) (xs := #[.tmp 36, .tmp 38]) rfl ?_); at_builtin; refine Kd.R_append (Kd.int .i64) (w0 := w) w.heap.size rfl (.tmp 36) (.tmp 38) 34 3 (.int .i64 0) 8 rfl Try.underlying34 info3 rfl (by decide) (by omega) u5 x5_2 x6_2 [.int .i64 x6_2] (fun _ => True) (fun _ => False) rfl rfl ?aP (fun _ hk => hk.elim) ?aF ?aO ?aB ?aS ?aL ?_; (case aP => exact rfl); (case aB => exact (zG GE667.out)); (case aF => exact (fun _ _ => trivial)); (case aO => exact (zR HO_5.out)); (case aS => exact (below_size (zG GE667.out))); (case aL => have := LMc24.out; omega); intro v676 w27 ho hb hg hat; rw [← Ny675.out] at ho; have n0_ := Aside0.mk (blk_grown (g := gb667) (o := .cells #[.int .i64 a0_0, .string a0_1] 26 (0, 0)) (zK BK667.out) hg (Kd.R_ne HO_5.out BK667.out (by decide))); have n1_ := Aside0.mk (hb); have n2_ := Aside0.mk (ho); clear BK667; clear HB; clear HO_5; have BK667 := n0_; have HB := n1_; have HO677 := n2_; clear n0_ n1_ n2_; clear ho hb hg hat))
           go_roundg k2
           case measure => have := HJ2.out; have := HK2.out; omega
           case rel => exact ⟨(y675), (wrap64 (x6_2 + 1)), zF, H', ⟨by have := HJ2.out; have := HK2.out; omega⟩, ⟨zR HO677.out⟩, ⟨zK BK667.out⟩, ⟨zG GE667.out⟩⟩
          ·rw [if_neg c24] at H
           exact absurd H (by simp)
         ·replace c23 := Bool.eq_false_iff.mpr c23
          subst c23
          have H1 : (spec_CutSets.l0 k2 a1 x5_2 (wrap64 (x6_2 + 1)) a0_0 a0_1) = some r := by rw [if_neg (show ¬ (false = true) by decide)] at H; exact H
          clear H
          have H := H1
          clear H1
          have H' := Aside0.mk H
          clear H
          have hcz28_0 : wr.cell? ⟨gb667, 0, none⟩ = some (.int .i64 a0_0) := (blk_cell BK667.out 0).trans rfl
          have hcz28_1 : wr.cell? ⟨gb667, 1, none⟩ = some (.string a0_1) := (blk_cell BK667.out 1).trans rfl
          have hfz28_0 := blk_frozen BK667.out 0
          have hfz28_1 := blk_frozen BK667.out 1
          go_wp2_with (first | ((with_reducible refine gate_callee (f := 56) rfl ?_); refine goesL_ (some 28) rfl rfl Try.func56 (by kernel_rfl) rfl #[.int .i64 x6_2] rfl zM ?_; (with_reducible refine (spec_l7Bits.calls k2 x6_2 t673 _ A20.out).mono ?_); rintro e w' ⟨rfl, ⟨nd, rfl⟩⟩; refine ⟨_, rfl, ?_⟩) | (go_at_call 57; (with_reducible refine (spec_l7Apart.calls k2 a0_0 a0_1 x6_2 false _ A22.out).mono ?_); rintro e w29 ⟨rfl, hb⟩; replace HO_5 := Aside0.mk (Kd.R_below (zR HO_5.out) hb); replace BK667 := Aside0.mk (blk_below (g := gb667) (o := .cells #[.int .i64 a0_0, .string a0_1] 26 (0, 0)) (zK BK667.out) hb); replace HB := Aside0.mk (below_step (zG GE667.out) hb); (try clear hb); (try clear hb2); (try clear hk); (try clear hi)))
          go_roundg k2
          case measure => have := HJ2.out; have := HK2.out; omega
          case rel => exact ⟨(x5_2), (wrap64 (x6_2 + 1)), zF, H', ⟨by have := HJ2.out; have := HK2.out; omega⟩, ⟨zR HO_5.out⟩, ⟨zK BK667.out⟩, ⟨zG GE667.out⟩⟩
        ·rw [if_neg c21] at H
         have c21b0 : (t673 == a1) = false := beq_eq_false_iff_ne.mpr c21
         have c21b1 : (t673 != a1) = true := bne_iff_ne.mpr c21
         have H' := Aside0.mk H
         clear H
         have hcz30_0 : wr.cell? ⟨gb667, 0, none⟩ = some (.int .i64 a0_0) := (blk_cell BK667.out 0).trans rfl
         have hcz30_1 : wr.cell? ⟨gb667, 1, none⟩ = some (.string a0_1) := (blk_cell BK667.out 1).trans rfl
         have hfz30_0 := blk_frozen BK667.out 0
         have hfz30_1 := blk_frozen BK667.out 1
         go_wp2_with (first | ((with_reducible refine gate_callee (f := 56) rfl ?_); refine goesL_ (some 28) rfl rfl Try.func56 (by kernel_rfl) rfl #[.int .i64 x6_2] rfl zM ?_; (with_reducible refine (spec_l7Bits.calls k2 x6_2 t673 _ A20.out).mono ?_); rintro e w' ⟨rfl, ⟨nd, rfl⟩⟩; refine ⟨_, rfl, ?_⟩))
         go_roundg k2
         case measure => have := HJ2.out; have := HK2.out; omega
         case rel => exact ⟨(x5_2), (wrap64 (x6_2 + 1)), zF, H', ⟨by have := HJ2.out; have := HK2.out; omega⟩, ⟨zR HO_5.out⟩, ⟨zK BK667.out⟩, ⟨zG GE667.out⟩⟩
       ·rw [if_neg c19] at H
        have c19b0 : decide (x6_2 < (ji18)) = false := decide_eq_false c19
        clear c19
        obtain rfl := Option.some.inj H
        have hcz31_0 : wr.cell? ⟨gb667, 0, none⟩ = some (.int .i64 a0_0) := (blk_cell BK667.out 0).trans rfl
        have hcz31_1 : wr.cell? ⟨gb667, 1, none⟩ = some (.string a0_1) := (blk_cell BK667.out 1).trans rfl
        have hfz31_0 := blk_frozen BK667.out 0
        have hfz31_1 := blk_frozen BK667.out 1
        go_wp2
        go_ret
        exact ⟨_, by first | rfl | (simp [errW_none, errW_some] <;> rfl) | (simp only [← hji16, ← hji18]; first | rfl | (simp [errW_none, errW_some] <;> rfl)) | (simp [*, errW_none, errW_some] <;> rfl), zR HO_5.out, zG GE667.out⟩
      ·rw [if_neg c17] at H
       exact absurd H (by simp)
/-! ### impl_chi_isCut: function 59 -/
mutual
def impl_chi_isCut.l0 : Nat → List Int → Int → Int → Int → Option (Bool)
 | 0, _, _, _, _ => none
 | k + 1, x0, x1, x5, x6 => if x6 < (rd x0 0) then (if 0 ≤ x6 then (if (Go.bits .and .i64 (shr .i64 x1 x6) 1) = 1 then ((impl_chi_inHull.f k x0 x5 x6).bind fun t681 => (if t681 = true then (some false) else (impl_chi_isCut.l0 k x0 x1 x5 (wrap64 (x6 + 1))))) else ((impl_chi_inHull.f k x0 x1 x6).bind fun t682 => (if t682 = true then (some false) else (impl_chi_isCut.l0 k x0 x1 x5 (wrap64 (x6 + 1)))))) else (none)) else ((impl_quadsOf.f k (rd x0 0)).bind fun t684 => (impl_chi_isCut.l1 k x0 x1 x5 t684 (t684.length : Int) 0))
def impl_chi_isCut.l1 : Nat → List Int → Int → Int → List (S79) → Int → Int → Option (Bool)
 | 0, _, _, _, _, _, _ => none
 | k + 1, x0, x1, x5, x42, x43, x44 => if x44 < x43 then (if 0 ≤ x44 then (if x44 < (x42.length : Int) then ((impl_chi_split.f k x0 ((rd_T79 x42 x44).f0) ((rd_T79 x42 x44).f1) ((rd_T79 x42 x44).f2) ((rd_T79 x42 x44).f3)).bind fun bt689 => ((bits_OnesCount.f (IntKind.u64.wrap (bt689.1))).bind fun t691 => (if t691 = 2 then (if (Go.bits .and .i64 bt689.1 x1) = bt689.1 then (if (Go.bits .and .i64 bt689.2 x5) = bt689.2 then (some false) else (if (Go.bits .and .i64 bt689.2 x1) = bt689.2 then (if (Go.bits .and .i64 bt689.1 x5) = bt689.1 then (some false) else (impl_chi_isCut.l1 k x0 x1 x5 x42 x43 (wrap64 (x44 + 1)))) else (impl_chi_isCut.l1 k x0 x1 x5 x42 x43 (wrap64 (x44 + 1))))) else (if (Go.bits .and .i64 bt689.2 x1) = bt689.2 then (if (Go.bits .and .i64 bt689.1 x5) = bt689.1 then (some false) else (impl_chi_isCut.l1 k x0 x1 x5 x42 x43 (wrap64 (x44 + 1)))) else (impl_chi_isCut.l1 k x0 x1 x5 x42 x43 (wrap64 (x44 + 1))))) else (impl_chi_isCut.l1 k x0 x1 x5 x42 x43 (wrap64 (x44 + 1)))))) else (none)) else (none)) else (some true)
end
def impl_chi_isCut.f (k : Nat) (l0 : List Int) (a1 : Int) : Option (Bool) := (impl_fullSet.f (rd l0 0)).bind fun t679 => (impl_chi_isCut.l0 k l0 a1 (Go.bits .andNot .i64 t679 a1) 0)
theorem impl_chi_isCut.mono_l : ∀ k, (∀ y0 y1 y2 y3, LeO (impl_chi_isCut.l0 k y0 y1 y2 y3) (impl_chi_isCut.l0 (k + 1) y0 y1 y2 y3)) ∧ (∀ y0 y1 y2 y3 y4 y5, LeO (impl_chi_isCut.l1 k y0 y1 y2 y3 y4 y5) (impl_chi_isCut.l1 (k + 1) y0 y1 y2 y3 y4 y5))
 | 0 => ⟨fun _ _ _ _ r h => by simp [impl_chi_isCut.l0] at h, fun _ _ _ _ _ _ r h => by simp [impl_chi_isCut.l1] at h⟩
 | k + 1 => by
  obtain ⟨ih0, ih1⟩ := impl_chi_isCut.mono_l k
  refine ⟨?_, ?_⟩ <;> intros <;> (first | unfold impl_chi_isCut.l0 | unfold impl_chi_isCut.l1) <;> repeat' first
  | (with_reducible exact ih0 _ _ _ _)
  | (with_reducible exact ih1 _ _ _ _ _ _)
  | (with_reducible exact impl_chi_inHull.mono _ _ _ _)
  | (with_reducible exact impl_chi_split.mono _ _ _ _ _ _)
  | (with_reducible exact impl_quadsOf.mono _ _)
  | (with_reducible exact LeO.refl _)
  | (with_reducible exact LeO.none _)
  | (with_reducible refine LeO.ite ?_ ?_)
  | (with_reducible refine LeO.bind ?_ (fun _ => ?_))
  | exact ih0 _ _ _ _
  | exact ih1 _ _ _ _ _ _
  | exact impl_chi_inHull.mono _ _ _ _
  | exact impl_chi_split.mono _ _ _ _ _ _
  | exact impl_quadsOf.mono _ _
  | exact LeO.none _
  | refine LeO.ite ?_ ?_
  | refine LeO.bind ?_ (fun _ => ?_)
theorem impl_chi_isCut.mono : ∀ a0 a1 k, LeO (impl_chi_isCut.f k a0 a1) (impl_chi_isCut.f (k + 1) a0 a1) := by
 intro a0 a1 k
 obtain ⟨ih0, ih1⟩ := impl_chi_isCut.mono_l k
 unfold impl_chi_isCut.f
 repeat' first
   | (with_reducible exact ih0 _ _ _ _)
   | (with_reducible exact ih1 _ _ _ _ _ _)
   | (with_reducible exact impl_chi_inHull.mono _ _ _ _)
   | (with_reducible exact impl_chi_split.mono _ _ _ _ _ _)
   | (with_reducible exact impl_quadsOf.mono _ _)
   | (with_reducible exact LeO.refl _)
   | (with_reducible exact LeO.none _)
   | (with_reducible refine LeO.ite ?_ ?_)
   | (with_reducible refine LeO.bind ?_ (fun _ => ?_))
   | exact ih0 _ _ _ _
   | exact ih1 _ _ _ _ _ _
   | exact impl_chi_inHull.mono _ _ _ _
   | exact impl_chi_split.mono _ _ _ _ _ _
   | exact impl_quadsOf.mono _ _
   | exact LeO.none _
   | refine LeO.ite ?_ ?_
   | refine LeO.bind ?_ (fun _ => ?_)
set_option maxHeartbeats 8000000 in
set_option maxRecDepth 100000 in
theorem impl_chi_isCut.calls (k : Nat) (g0 : Nat) (l0 : List Int) (a1 : Int) (r : Bool) (w : World) (hr0 : Kd.C (Kd.int .i64) w (some ⟨g0, 0, none⟩) l0.length l0) (hc0 : l0.length = 344) (h : impl_chi_isCut.f k l0 a1 = some r) :
  Calls Try.prog 59 #[.pointer (some ⟨g0, 0, none⟩), .int .i64 a1] w fun e w' => e = .returned (.bool r) ∧ Below w.heap.size w w' := by
 have hu79 := Try.underlying79
 have hu68 := Try.underlying68
 have HR0 := Aside0.mk hr0
 have HC0 := Aside0.mk hc0
 clear hr0 hc0
 have HB := Aside0.mk (Below.refl w.heap.size w)
 have H : ((impl_fullSet.f (rd l0 0)).bind fun t679 => (impl_chi_isCut.l0 k l0 a1 (Go.bits .andNot .i64 t679 a1) 0)) = some r := h
 clear h
 replace H := Option.bind_eq_some_iff.mp H
 obtain ⟨t679, A30, H⟩ := H
 replace H : (impl_chi_isCut.l0 k l0 a1 (Go.bits .andNot .i64 t679 a1) 0) = some r := H
 have A3 := Aside0.mk A30
 clear A30
 have H' := Aside0.mk H
 clear H
 have hL678 := HC0.out
 have dq678 : decide (0 < (l0.length : Int)) = true := decide_eq_true (by omega)
 clear hL678
 have p678 : 0 ≤ (0 : Int) := (by omega)
 have q678 : 0 < (l0.length : Int) := zA
 obtain ⟨ad678, e678, hx678_0⟩ := Kd.at_int HR0.out 0 p678 q678
 obtain rfl : (⟨g0, 0, none⟩ : Addr) = ad678 := (by injection e678)
 (first | simp only [add_plain] at hx678_0 | simp only [add_at] at hx678_0 | simp only [Addr.add, Nat.zero_add] at hx678_0 | skip)
 have qi678 : (0 < l0.length) = True := eq_true (by omega)
 (try rw [show ((0 : Int)).toNat = 0 from rfl] at hx678_0)
 (try rw [Addr.add_zero'] at hx678_0)
 replace p678 := eq_true p678
 replace q678 := eq_true q678
 clear dq678
 go_enter Try.func59, Try.ntmps59
 go_wp2_with (first | ((with_reducible refine gate_callee (f := 48) rfl ?_); refine goesL_ (some 16) rfl rfl Try.func48 (by kernel_rfl) rfl #[.int .i64 (rd l0 0)] rfl zM ?_; (with_reducible refine (impl_fullSet.calls (rd l0 0) t679 _ A3.out).mono ?_); rintro e w' ⟨rfl, ⟨nd, rfl⟩⟩; refine ⟨_, rfl, ?_⟩))
 go_loopg [6] k (fun kq v6 w' => ∃ (x6_1 : Int), v6 = .int .i64 x6_1 ∧ Aside0 (impl_chi_isCut.l0 kq l0 a1 (Go.bits .andNot .i64 t679 a1) x6_1 = some r) ∧ Aside0 (kq ≤ k) ∧ Aside0 (Below w.heap.size w w'))
 case atStart => exact ⟨(0), zF, H', ⟨Nat.le_refl _⟩, ⟨zB⟩⟩
 case round =>
  clear H'
  try clear p2
  try clear hx678_0
  try clear p678
  try clear q678
  obtain ⟨x6_1, rfl, HA, HK1, HB⟩ := hrel
  cases gk with
  | zero => exact absurd HA.out (by simp [impl_chi_isCut.l0])
  | succ k1 =>
   have H := HA.out
   clear HA
   simp only [impl_chi_isCut.l0] at H
   by_cases c4 : x6_1 < (rd l0 0)
   ·rw [if_pos c4] at H
    have c4b0 : decide (x6_1 < (rd l0 0)) = true := decide_eq_true c4
    clear c4
    by_cases c5 : 0 ≤ x6_1
    ·rw [if_pos c5] at H
     have c5b0 := eq_true c5
     have c5b1 : decide (0 ≤ x6_1) = true := decide_eq_true c5
     clear c5
     obtain ⟨ji6, hji6⟩ : ∃ j_ : Int, (shr .i64 a1 x6_1) = j_ := ⟨_, rfl⟩
     replace H : (if (Go.bits .and .i64 (ji6) 1) = 1 then ((impl_chi_inHull.f k1 l0 (Go.bits .andNot .i64 t679 a1) x6_1).bind fun t681 => (if t681 = true then (some false) else (impl_chi_isCut.l0 k1 l0 a1 (Go.bits .andNot .i64 t679 a1) (wrap64 (x6_1 + 1))))) else ((impl_chi_inHull.f k1 l0 a1 x6_1).bind fun t682 => (if t682 = true then (some false) else (impl_chi_isCut.l0 k1 l0 a1 (Go.bits .andNot .i64 t679 a1) (wrap64 (x6_1 + 1)))))) = some r := by first | (rw [hji6] at H; exact H) | (simp only [hji6] at H ⊢; exact H)
     have hji6_ : (a1 / 2 ^ min x6_1.toNat 64) = ji6 := hji6
     have hji6z : x6_1 ≤ 64 → (a1 / 2 ^ x6_1.toNat) = ji6 := shr_small hji6
     by_cases c7 : (Go.bits .and .i64 (ji6) 1) = 1
     ·rw [if_pos c7] at H
      have c7b0 : ((Go.bits .and .i64 (ji6) 1) == 1) = true := beq_iff_eq.mpr c7
      have c7b1 : ((Go.bits .and .i64 (ji6) 1) != 1) = false := bne_eq_false_iff_eq.mpr c7
      clear c7
      replace H := Option.bind_eq_some_iff.mp H
      obtain ⟨t681, A80, H⟩ := H
      replace H : (if t681 = true then (some false) else (impl_chi_isCut.l0 k1 l0 a1 (Go.bits .andNot .i64 t679 a1) (wrap64 (x6_1 + 1)))) = some r := H
      have A8 := Aside0.mk A80
      clear A80
      by_cases c9 : t681 = true
      ·subst c9
       have H1 : (some false) = some r := by rw [if_pos rfl] at H; exact H
       clear H
       have H := H1
       clear H1
       obtain rfl := Option.some.inj H
       have hL680 := HC0.out
       have dq680 : decide (0 < (l0.length : Int)) = true := decide_eq_true (by omega)
       clear hL680
       have p680 : 0 ≤ (0 : Int) := (by omega)
       have q680 : 0 < (l0.length : Int) := zA
       obtain ⟨ad680, e680, hx680_0⟩ := Kd.at_int HR0.out 0 p680 q680
       obtain rfl : (⟨g0, 0, none⟩ : Addr) = ad680 := (by injection e680)
       (first | simp only [add_plain] at hx680_0 | simp only [add_at] at hx680_0 | simp only [Addr.add, Nat.zero_add] at hx680_0 | skip)
       have qi680 : (0 < l0.length) = True := eq_true (by omega)
       (try rw [show ((0 : Int)).toNat = 0 from rfl] at hx680_0)
       (try rw [Addr.add_zero'] at hx680_0)
       replace hx680_0 := (HB.out.cell (World.block_lt_of_cell? w _ hx680_0)).trans hx680_0
       replace p680 := eq_true p680
       replace q680 := eq_true q680
       clear dq680
       go_wp2_with (first | ((with_reducible refine gate_callee (f := 70) rfl ?_); refine goesL_ (some 37) rfl rfl Try.func70 (by kernel_rfl) rfl #[.pointer (some ⟨g0, 0, none⟩), .int .i64 (Go.bits .andNot .i64 t679 a1), .int .i64 x6_1] rfl zM ?_; (with_reducible refine (impl_chi_inHull.calls k1 _ l0 (Go.bits .andNot .i64 t679 a1) x6_1 true _ ?side1 ?side2 A8.out).mono ?_); (case side1 => repeat (first | exact (Kd.C_below HR0.out HB.out) | (with_reducible refine Kd.C_alloc ?_ _) | (with_reducible refine Kd.C_drewN ?_ _) | (with_reducible refine Kd.C_drew ?_))); (case side2 => exact HC0.out); rintro e w10 ⟨rfl, hb⟩; refine ⟨_, rfl, ?_⟩; replace HB := Aside0.mk (below_step zB hb); (try clear hb)))
       go_ret
       exact ⟨by first | rfl | (simp [errW_none, errW_some] <;> rfl) | (simp only [← hji6]; first | rfl | (simp [errW_none, errW_some] <;> rfl)) | (simp [*, errW_none, errW_some] <;> rfl), zB⟩
      ·replace c9 := Bool.eq_false_iff.mpr c9
       subst c9
       have H1 : (impl_chi_isCut.l0 k1 l0 a1 (Go.bits .andNot .i64 t679 a1) (wrap64 (x6_1 + 1))) = some r := by rw [if_neg (show ¬ (false = true) by decide)] at H; exact H
       clear H
       have H := H1
       clear H1
       have H' := Aside0.mk H
       clear H
       have hL680 := HC0.out
       have dq680 : decide (0 < (l0.length : Int)) = true := decide_eq_true (by omega)
       clear hL680
       have p680 : 0 ≤ (0 : Int) := (by omega)
       have q680 : 0 < (l0.length : Int) := zA
       obtain ⟨ad680, e680, hx680_0⟩ := Kd.at_int HR0.out 0 p680 q680
       obtain rfl : (⟨g0, 0, none⟩ : Addr) = ad680 := (by injection e680)
       (first | simp only [add_plain] at hx680_0 | simp only [add_at] at hx680_0 | simp only [Addr.add, Nat.zero_add] at hx680_0 | skip)
       have qi680 : (0 < l0.length) = True := eq_true (by omega)
       (try rw [show ((0 : Int)).toNat = 0 from rfl] at hx680_0)
       (try rw [Addr.add_zero'] at hx680_0)
       replace hx680_0 := (HB.out.cell (World.block_lt_of_cell? w _ hx680_0)).trans hx680_0
       replace p680 := eq_true p680
       replace q680 := eq_true q680
       clear dq680
       go_wp2_with (first | ((with_reducible refine gate_callee (f := 70) rfl ?_); refine goesL_ (some 37) rfl rfl Try.func70 (by kernel_rfl) rfl #[.pointer (some ⟨g0, 0, none⟩), .int .i64 (Go.bits .andNot .i64 t679 a1), .int .i64 x6_1] rfl zM ?_; (with_reducible refine (impl_chi_inHull.calls k1 _ l0 (Go.bits .andNot .i64 t679 a1) x6_1 false _ ?side1 ?side2 A8.out).mono ?_); (case side1 => repeat (first | exact (Kd.C_below HR0.out HB.out) | (with_reducible refine Kd.C_alloc ?_ _) | (with_reducible refine Kd.C_drewN ?_ _) | (with_reducible refine Kd.C_drew ?_))); (case side2 => exact HC0.out); rintro e w11 ⟨rfl, hb⟩; refine ⟨_, rfl, ?_⟩; replace HB := Aside0.mk (below_step zB hb); (try clear hb)))
       go_roundg k1
       case measure => have := HK1.out; omega
       case rel => exact ⟨(wrap64 (x6_1 + 1)), zF, H', ⟨by have := HK1.out; omega⟩, ⟨zB⟩⟩
     ·rw [if_neg c7] at H
      have c7b0 : ((Go.bits .and .i64 (ji6) 1) == 1) = false := beq_eq_false_iff_ne.mpr c7
      have c7b1 : ((Go.bits .and .i64 (ji6) 1) != 1) = true := bne_iff_ne.mpr c7
      replace H := Option.bind_eq_some_iff.mp H
      obtain ⟨t682, A120, H⟩ := H
      replace H : (if t682 = true then (some false) else (impl_chi_isCut.l0 k1 l0 a1 (Go.bits .andNot .i64 t679 a1) (wrap64 (x6_1 + 1)))) = some r := H
      have A12 := Aside0.mk A120
      clear A120
      by_cases c13 : t682 = true
      ·subst c13
       have H1 : (some false) = some r := by rw [if_pos rfl] at H; exact H
       clear H
       have H := H1
       clear H1
       obtain rfl := Option.some.inj H
       have hL680 := HC0.out
       have dq680 : decide (0 < (l0.length : Int)) = true := decide_eq_true (by omega)
       clear hL680
       have p680 : 0 ≤ (0 : Int) := (by omega)
       have q680 : 0 < (l0.length : Int) := zA
       obtain ⟨ad680, e680, hx680_0⟩ := Kd.at_int HR0.out 0 p680 q680
       obtain rfl : (⟨g0, 0, none⟩ : Addr) = ad680 := (by injection e680)
       (first | simp only [add_plain] at hx680_0 | simp only [add_at] at hx680_0 | simp only [Addr.add, Nat.zero_add] at hx680_0 | skip)
       have qi680 : (0 < l0.length) = True := eq_true (by omega)
       (try rw [show ((0 : Int)).toNat = 0 from rfl] at hx680_0)
       (try rw [Addr.add_zero'] at hx680_0)
       replace hx680_0 := (HB.out.cell (World.block_lt_of_cell? w _ hx680_0)).trans hx680_0
       replace p680 := eq_true p680
       replace q680 := eq_true q680
       clear dq680
       go_wp2_with (first | ((with_reducible refine gate_callee (f := 70) rfl ?_); refine goesL_ (some 37) rfl rfl Try.func70 (by kernel_rfl) rfl #[.pointer (some ⟨g0, 0, none⟩), .int .i64 a1, .int .i64 x6_1] rfl zM ?_; (with_reducible refine (impl_chi_inHull.calls k1 _ l0 a1 x6_1 true _ ?side1 ?side2 A12.out).mono ?_); (case side1 => repeat (first | exact (Kd.C_below HR0.out HB.out) | (with_reducible refine Kd.C_alloc ?_ _) | (with_reducible refine Kd.C_drewN ?_ _) | (with_reducible refine Kd.C_drew ?_))); (case side2 => exact HC0.out); rintro e w14 ⟨rfl, hb⟩; refine ⟨_, rfl, ?_⟩; replace HB := Aside0.mk (below_step zB hb); (try clear hb)))
       go_ret
       exact ⟨by first | rfl | (simp [errW_none, errW_some] <;> rfl) | (simp only [← hji6]; first | rfl | (simp [errW_none, errW_some] <;> rfl)) | (simp [*, errW_none, errW_some] <;> rfl), zB⟩
      ·replace c13 := Bool.eq_false_iff.mpr c13
       subst c13
       have H1 : (impl_chi_isCut.l0 k1 l0 a1 (Go.bits .andNot .i64 t679 a1) (wrap64 (x6_1 + 1))) = some r := by rw [if_neg (show ¬ (false = true) by decide)] at H; exact H
       clear H
       have H := H1
       clear H1
       have H' := Aside0.mk H
       clear H
       have hL680 := HC0.out
       have dq680 : decide (0 < (l0.length : Int)) = true := decide_eq_true (by omega)
       clear hL680
       have p680 : 0 ≤ (0 : Int) := (by omega)
       have q680 : 0 < (l0.length : Int) := zA
       obtain ⟨ad680, e680, hx680_0⟩ := Kd.at_int HR0.out 0 p680 q680
       obtain rfl : (⟨g0, 0, none⟩ : Addr) = ad680 := (by injection e680)
       (first | simp only [add_plain] at hx680_0 | simp only [add_at] at hx680_0 | simp only [Addr.add, Nat.zero_add] at hx680_0 | skip)
       have qi680 : (0 < l0.length) = True := eq_true (by omega)
       (try rw [show ((0 : Int)).toNat = 0 from rfl] at hx680_0)
       (try rw [Addr.add_zero'] at hx680_0)
       replace hx680_0 := (HB.out.cell (World.block_lt_of_cell? w _ hx680_0)).trans hx680_0
       replace p680 := eq_true p680
       replace q680 := eq_true q680
       clear dq680
       go_wp2_with (first | ((with_reducible refine gate_callee (f := 70) rfl ?_); refine goesL_ (some 37) rfl rfl Try.func70 (by kernel_rfl) rfl #[.pointer (some ⟨g0, 0, none⟩), .int .i64 a1, .int .i64 x6_1] rfl zM ?_; (with_reducible refine (impl_chi_inHull.calls k1 _ l0 a1 x6_1 false _ ?side1 ?side2 A12.out).mono ?_); (case side1 => repeat (first | exact (Kd.C_below HR0.out HB.out) | (with_reducible refine Kd.C_alloc ?_ _) | (with_reducible refine Kd.C_drewN ?_ _) | (with_reducible refine Kd.C_drew ?_))); (case side2 => exact HC0.out); rintro e w15 ⟨rfl, hb⟩; refine ⟨_, rfl, ?_⟩; replace HB := Aside0.mk (below_step zB hb); (try clear hb)))
       go_roundg k1
       case measure => have := HK1.out; omega
       case rel => exact ⟨(wrap64 (x6_1 + 1)), zF, H', ⟨by have := HK1.out; omega⟩, ⟨zB⟩⟩
    ·rw [if_neg c5] at H
     exact absurd H (by simp)
   ·rw [if_neg c4] at H
    have c4b0 : decide (x6_1 < (rd l0 0)) = false := decide_eq_false c4
    clear c4
    replace H := Option.bind_eq_some_iff.mp H
    obtain ⟨t684, A160, H⟩ := H
    replace H : (impl_chi_isCut.l1 k1 l0 a1 (Go.bits .andNot .i64 t679 a1) t684 (t684.length : Int) 0) = some r := H
    have A16 := Aside0.mk A160
    clear A160
    have H' := Aside0.mk H
    clear H
    have hL680 := HC0.out
    have dq680 : decide (0 < (l0.length : Int)) = true := decide_eq_true (by omega)
    clear hL680
    have p680 : 0 ≤ (0 : Int) := (by omega)
    have q680 : 0 < (l0.length : Int) := zA
    obtain ⟨ad680, e680, hx680_0⟩ := Kd.at_int HR0.out 0 p680 q680
    obtain rfl : (⟨g0, 0, none⟩ : Addr) = ad680 := (by injection e680)
    (first | simp only [add_plain] at hx680_0 | simp only [add_at] at hx680_0 | simp only [Addr.add, Nat.zero_add] at hx680_0 | skip)
    have qi680 : (0 < l0.length) = True := eq_true (by omega)
    (try rw [show ((0 : Int)).toNat = 0 from rfl] at hx680_0)
    (try rw [Addr.add_zero'] at hx680_0)
    replace hx680_0 := (HB.out.cell (World.block_lt_of_cell? w _ hx680_0)).trans hx680_0
    replace p680 := eq_true p680
    replace q680 := eq_true q680
    clear dq680
    have hL683 := HC0.out
    have dq683 : decide (0 < (l0.length : Int)) = true := decide_eq_true (by omega)
    clear hL683
    have p683 : 0 ≤ (0 : Int) := (by omega)
    have q683 : 0 < (l0.length : Int) := zA
    obtain ⟨ad683, e683, hx683_0⟩ := Kd.at_int HR0.out 0 p683 q683
    obtain rfl : (⟨g0, 0, none⟩ : Addr) = ad683 := (by injection e683)
    (first | simp only [add_plain] at hx683_0 | simp only [add_at] at hx683_0 | simp only [Addr.add, Nat.zero_add] at hx683_0 | skip)
    have qi683 : (0 < l0.length) = True := eq_true (by omega)
    (try rw [show ((0 : Int)).toNat = 0 from rfl] at hx683_0)
    (try rw [Addr.add_zero'] at hx683_0)
    replace hx683_0 := (HB.out.cell (World.block_lt_of_cell? w _ hx683_0)).trans hx683_0
    replace p683 := eq_true p683
    replace q683 := eq_true q683
    clear dq683
    go_wp2_with (first | ((with_reducible refine gate_callee (f := 77) rfl ?_); refine goesL_ (some 42) rfl rfl Try.func77 (by kernel_rfl) rfl #[.int .i64 (rd l0 0)] rfl zM ?_; (with_reducible refine (impl_quadsOf.calls k1 (rd l0 0) t684 _ A16.out).mono ?_); rintro e w17 ⟨v685, rfl, ho0, hb⟩; refine ⟨_, rfl, ?_⟩; have HO686 := Aside0.mk (Kd.R_lower ho0 (below_size zB)); replace HB := Aside0.mk (below_step zB hb); (try clear hb); (try clear ho0); obtain ⟨Ao18, co18, eo18⟩ := Kd.R_slice HO686.out; subst eo18))
    go_loopg [44] k1 (fun kq v44 w' => ∃ (x44_2 : Int), v44 = .int .i64 x44_2 ∧ Aside0 (impl_chi_isCut.l1 kq l0 a1 (Go.bits .andNot .i64 t679 a1) t684 (t684.length : Int) x44_2 = some r) ∧ Aside0 (kq ≤ k1) ∧ Aside0 (Kd.R k79 79 w' w.heap.size (fun _ => True) (.slice Ao18 t684.length co18) t684) ∧ Aside0 (Below w.heap.size w w'))
    case atStart => exact ⟨(0), zF, H', ⟨Nat.le_refl _⟩, ⟨zR HO686.out⟩, ⟨zB⟩⟩
    case round =>
     clear H'
     try clear c1
     try clear p2
     try clear c4
     try clear c4b0
     try clear c5
     try clear c5b0
     try clear c5b1
     try clear p6
     try clear q6
     try clear hx6
     try clear qi6
     try clear c7
     try clear c7b0
     try clear c7b1
     try clear c9
     try clear c13
     try clear hx678_0
     try clear hx680_0
     try clear hx683_0
     try clear p2
     try clear p678
     try clear p680
     try clear p683
     try clear q678
     try clear q680
     try clear q683
     obtain ⟨x44_2, rfl, HA, HK2, HO_42, HB⟩ := hrel
     cases gk with
     | zero => exact absurd HA.out (by simp [impl_chi_isCut.l1])
     | succ k2 =>
      have H := HA.out
      clear HA
      simp only [impl_chi_isCut.l1] at H
      by_cases c19 : x44_2 < (t684.length : Int)
      ·rw [if_pos c19] at H
       have c19b0 : decide (x44_2 < (t684.length : Int)) = true := decide_eq_true c19
       clear c19
       by_cases c20 : 0 ≤ x44_2
       ·rw [if_pos c20] at H
        have c20b0 : decide (0 ≤ x44_2) = true := decide_eq_true c20
        clear c20
        by_cases c21 : x44_2 < (t684.length : Int)
        ·rw [if_pos c21] at H
         have c21b0 : decide (x44_2 < (t684.length : Int)) = true := decide_eq_true c21
         clear c21
         replace H := Option.bind_eq_some_iff.mp H
         obtain ⟨⟨t689, t690⟩, A220, H⟩ := H
         replace H : ((bits_OnesCount.f (IntKind.u64.wrap (t689))).bind fun t691 => (if t691 = 2 then (if (Go.bits .and .i64 t689 a1) = t689 then (if (Go.bits .and .i64 t690 (Go.bits .andNot .i64 t679 a1)) = t690 then (some false) else (if (Go.bits .and .i64 t690 a1) = t690 then (if (Go.bits .and .i64 t689 (Go.bits .andNot .i64 t679 a1)) = t689 then (some false) else (impl_chi_isCut.l1 k2 l0 a1 (Go.bits .andNot .i64 t679 a1) t684 (t684.length : Int) (wrap64 (x44_2 + 1)))) else (impl_chi_isCut.l1 k2 l0 a1 (Go.bits .andNot .i64 t679 a1) t684 (t684.length : Int) (wrap64 (x44_2 + 1))))) else (if (Go.bits .and .i64 t690 a1) = t690 then (if (Go.bits .and .i64 t689 (Go.bits .andNot .i64 t679 a1)) = t689 then (some false) else (impl_chi_isCut.l1 k2 l0 a1 (Go.bits .andNot .i64 t679 a1) t684 (t684.length : Int) (wrap64 (x44_2 + 1)))) else (impl_chi_isCut.l1 k2 l0 a1 (Go.bits .andNot .i64 t679 a1) t684 (t684.length : Int) (wrap64 (x44_2 + 1))))) else (impl_chi_isCut.l1 k2 l0 a1 (Go.bits .andNot .i64 t679 a1) t684 (t684.length : Int) (wrap64 (x44_2 + 1))))) = some r := H
         have A22 := Aside0.mk A220
         clear A220
         replace H := Option.bind_eq_some_iff.mp H
         obtain ⟨t691, A230, H⟩ := H
         replace H : (if t691 = 2 then (if (Go.bits .and .i64 t689 a1) = t689 then (if (Go.bits .and .i64 t690 (Go.bits .andNot .i64 t679 a1)) = t690 then (some false) else (if (Go.bits .and .i64 t690 a1) = t690 then (if (Go.bits .and .i64 t689 (Go.bits .andNot .i64 t679 a1)) = t689 then (some false) else (impl_chi_isCut.l1 k2 l0 a1 (Go.bits .andNot .i64 t679 a1) t684 (t684.length : Int) (wrap64 (x44_2 + 1)))) else (impl_chi_isCut.l1 k2 l0 a1 (Go.bits .andNot .i64 t679 a1) t684 (t684.length : Int) (wrap64 (x44_2 + 1))))) else (if (Go.bits .and .i64 t690 a1) = t690 then (if (Go.bits .and .i64 t689 (Go.bits .andNot .i64 t679 a1)) = t689 then (some false) else (impl_chi_isCut.l1 k2 l0 a1 (Go.bits .andNot .i64 t679 a1) t684 (t684.length : Int) (wrap64 (x44_2 + 1)))) else (impl_chi_isCut.l1 k2 l0 a1 (Go.bits .andNot .i64 t679 a1) t684 (t684.length : Int) (wrap64 (x44_2 + 1))))) else (impl_chi_isCut.l1 k2 l0 a1 (Go.bits .andNot .i64 t679 a1) t684 (t684.length : Int) (wrap64 (x44_2 + 1)))) = some r := H
         have A23 := Aside0.mk A230
         clear A230
         by_cases c24 : t691 = 2
         ·rw [if_pos c24] at H
          have c24b0 : (t691 == 2) = true := beq_iff_eq.mpr c24
          have c24b1 : (t691 != 2) = false := bne_eq_false_iff_eq.mpr c24
          clear c24
          by_cases c25 : (Go.bits .and .i64 t689 a1) = t689
          ·rw [if_pos c25] at H
           have c25b0 : ((Go.bits .and .i64 t689 a1) == t689) = true := beq_iff_eq.mpr c25
           have c25b1 : ((Go.bits .and .i64 t689 a1) != t689) = false := bne_eq_false_iff_eq.mpr c25
           clear c25
           by_cases c26 : (Go.bits .and .i64 t690 (Go.bits .andNot .i64 t679 a1)) = t690
           ·rw [if_pos c26] at H
            have c26b0 : ((Go.bits .and .i64 t690 (Go.bits .andNot .i64 t679 a1)) == t690) = true := beq_iff_eq.mpr c26
            have c26b1 : ((Go.bits .and .i64 t690 (Go.bits .andNot .i64 t679 a1)) != t690) = false := bne_eq_false_iff_eq.mpr c26
            clear c26
            obtain rfl := Option.some.inj H
            have p687 : 0 ≤ (x44_2 : Int) := zA
            have q687 : x44_2 < (t684.length : Int) := zA
            obtain ⟨ad687, e687, hx687_0, hx687_1, hx687_2, hx687_3⟩ := at_T79 (Kd.R_reads' HO_42.out).2.2 x44_2 p687 q687
            cases e687
            replace p687 := eq_true p687
            replace q687 := eq_true q687
            go_wp2_with (first | ((with_reducible refine gate_dst (N := 9) rfl ?_); refine box_event ?hg (N := 9) ?hd (cs := #[.int .i64 0, .int .i64 0, .int .i64 0, .int .i64 0]) (t := 79) ?hr ?_; (case hd => rfl); (case hg => rfl); (case hr => first | (go_simp; done) | (go_simp; rfl)); intro gb688 hg w27 hbox hb; replace HO_42 := Aside0.mk (Kd.R_below (Kd.R_elderB (zR HO_42.out) gb688 (Nat.le_of_eq hg.symm)) hb); have BK688 := Aside0.mk (hbox); have GW688 := Aside0.mk ((by rw [hg]; exact (below_size zB) : w.heap.size ≤ gb688)); have GE688 := Aside0.mk ((by rw [hg]; exact (below_size zB) : w.heap.size ≤ gb688)); replace HB := Aside0.mk (below_step zB hb); clear hb hbox hg; have hcz28_0 : w27.cell? ⟨gb688, 0, none⟩ = some (.int .i64 0) := (blk_cell BK688.out 0).trans rfl; have hcz28_1 : w27.cell? ⟨gb688, 1, none⟩ = some (.int .i64 0) := (blk_cell BK688.out 1).trans rfl; have hcz28_2 : w27.cell? ⟨gb688, 2, none⟩ = some (.int .i64 0) := (blk_cell BK688.out 2).trans rfl; have hcz28_3 : w27.cell? ⟨gb688, 3, none⟩ = some (.int .i64 0) := (blk_cell BK688.out 3).trans rfl; have hfz28_0 := blk_frozen BK688.out 0; have hfz28_1 := blk_frozen BK688.out 1; have hfz28_2 := blk_frozen BK688.out 2; have hfz28_3 := blk_frozen BK688.out 3) | ((with_reducible refine gate_callee (f := 78) rfl ?_); refine goesL_ (some 58) rfl rfl Try.func78 (by kernel_rfl) rfl #[.pointer (some ⟨g0, 0, none⟩), .int .i64 ((rd_T79 t684 x44_2).f0), .int .i64 ((rd_T79 t684 x44_2).f1), .int .i64 ((rd_T79 t684 x44_2).f2), .int .i64 ((rd_T79 t684 x44_2).f3)] rfl zM ?_; (with_reducible refine (impl_chi_split.calls k2 _ l0 ((rd_T79 t684 x44_2).f0) ((rd_T79 t684 x44_2).f1) ((rd_T79 t684 x44_2).f2) ((rd_T79 t684 x44_2).f3) t689 t690 _ ?side1 ?side2 A22.out).mono ?_); (case side1 => exact Kd.C_below HR0.out (zG GE688.out)); (case side2 => exact HC0.out); rintro e w29 ⟨rfl, hb⟩; refine ⟨_, rfl, ?_⟩; replace HO_42 := Aside0.mk (Kd.R_below (by (with_reducible repeat (first | apply Kd.R_alloc | apply Kd.R_drewN | apply Kd.R_drew)); exact (Kd.R_mono (Kd.R_far (p := ⟨gb688, 3, none⟩) (Kd.R_far (p := ⟨gb688, 2, none⟩) (Kd.R_far (p := ⟨gb688, 1, none⟩) (Kd.R_far (p := ⟨gb688, 0, none⟩) (Kd.R_mono HO_42.out (fun k_ hk => (⟨hk, hk.2⟩ : _ ∧ k_ ≠ gb688))) (fun _ hk => hk.2) (.int .i64 ((rd_T79 t684 x44_2).f0))) (fun _ hk => hk.2) (.int .i64 ((rd_T79 t684 x44_2).f1))) (fun _ hk => hk.2) (.int .i64 ((rd_T79 t684 x44_2).f2))) (fun _ hk => hk.2) (.int .i64 ((rd_T79 t684 x44_2).f3))) (fun _ h_ => h_.1))) hb); replace BK688 := Aside0.mk (blk_below (g := gb688) (o := .cells #[.int .i64 ((rd_T79 t684 x44_2).f0), .int .i64 ((rd_T79 t684 x44_2).f1), .int .i64 ((rd_T79 t684 x44_2).f2), .int .i64 ((rd_T79 t684 x44_2).f3)] 79 (0, 0)) (by (with_reducible repeat (first | refine blk_drewN ?_ _ | refine blk_drew ?_ | refine blk_alloc ?_ _)); refine blk_put (cs := #[.int .i64 ((rd_T79 t684 x44_2).f0), .int .i64 ((rd_T79 t684 x44_2).f1), .int .i64 ((rd_T79 t684 x44_2).f2), .int .i64 0]) ?_ 3 _ rfl; (with_reducible repeat (first | refine blk_drewN ?_ _ | refine blk_drew ?_ | refine blk_alloc ?_ _)); refine blk_put (cs := #[.int .i64 ((rd_T79 t684 x44_2).f0), .int .i64 ((rd_T79 t684 x44_2).f1), .int .i64 0, .int .i64 0]) ?_ 2 _ rfl; (with_reducible repeat (first | refine blk_drewN ?_ _ | refine blk_drew ?_ | refine blk_alloc ?_ _)); refine blk_put (cs := #[.int .i64 ((rd_T79 t684 x44_2).f0), .int .i64 0, .int .i64 0, .int .i64 0]) ?_ 1 _ rfl; (with_reducible repeat (first | refine blk_drewN ?_ _ | refine blk_drew ?_ | refine blk_alloc ?_ _)); refine blk_put (cs := #[.int .i64 0, .int .i64 0, .int .i64 0, .int .i64 0]) ?_ 0 _ rfl; (with_reducible repeat (first | refine blk_drewN ?_ _ | refine blk_drew ?_ | refine blk_alloc ?_ _)); exact BK688.out) hb); replace HB := Aside0.mk (below_step (zG GE688.out) hb); (try clear hb)) | ((with_reducible refine gate_callee (f := 58) rfl ?_); refine goesL_ (some 63) rfl rfl Try.func58 (by kernel_rfl) rfl #[.int .u64 (IntKind.u64.wrap (t689))] rfl zM ?_; (with_reducible refine (bits_OnesCount.calls (IntKind.u64.wrap (t689)) t691 _ A23.out).mono ?_); rintro e w' ⟨rfl, ⟨nd, rfl⟩⟩; refine ⟨_, rfl, ?_⟩))
            go_ret
            exact ⟨zE, zG GE688.out⟩
           ·rw [if_neg c26] at H
            have c26b0 : ((Go.bits .and .i64 t690 (Go.bits .andNot .i64 t679 a1)) == t690) = false := beq_eq_false_iff_ne.mpr c26
            have c26b1 : ((Go.bits .and .i64 t690 (Go.bits .andNot .i64 t679 a1)) != t690) = true := bne_iff_ne.mpr c26
            by_cases c30 : (Go.bits .and .i64 t690 a1) = t690
            ·rw [if_pos c30] at H
             have c30b0 : ((Go.bits .and .i64 t690 a1) == t690) = true := beq_iff_eq.mpr c30
             have c30b1 : ((Go.bits .and .i64 t690 a1) != t690) = false := bne_eq_false_iff_eq.mpr c30
             clear c30
             by_cases c31 : (Go.bits .and .i64 t689 (Go.bits .andNot .i64 t679 a1)) = t689
             ·rw [if_pos c31] at H
              have c31b0 : ((Go.bits .and .i64 t689 (Go.bits .andNot .i64 t679 a1)) == t689) = true := beq_iff_eq.mpr c31
              have c31b1 : ((Go.bits .and .i64 t689 (Go.bits .andNot .i64 t679 a1)) != t689) = false := bne_eq_false_iff_eq.mpr c31
              clear c31
              obtain rfl := Option.some.inj H
              have p687 : 0 ≤ (x44_2 : Int) := zA
              have q687 : x44_2 < (t684.length : Int) := zA
              obtain ⟨ad687, e687, hx687_0, hx687_1, hx687_2, hx687_3⟩ := at_T79 (Kd.R_reads' HO_42.out).2.2 x44_2 p687 q687
              cases e687
              replace p687 := eq_true p687
              replace q687 := eq_true q687
              go_wp2_with (first | ((with_reducible refine gate_dst (N := 9) rfl ?_); refine box_event ?hg (N := 9) ?hd (cs := #[.int .i64 0, .int .i64 0, .int .i64 0, .int .i64 0]) (t := 79) ?hr ?_; (case hd => rfl); (case hg => rfl); (case hr => first | (go_simp; done) | (go_simp; rfl)); intro gb688 hg w32 hbox hb; replace HO_42 := Aside0.mk (Kd.R_below (Kd.R_elderB (zR HO_42.out) gb688 (Nat.le_of_eq hg.symm)) hb); have BK688 := Aside0.mk (hbox); have GW688 := Aside0.mk ((by rw [hg]; exact (below_size zB) : w.heap.size ≤ gb688)); have GE688 := Aside0.mk ((by rw [hg]; exact (below_size zB) : w.heap.size ≤ gb688)); replace HB := Aside0.mk (below_step zB hb); clear hb hbox hg; have hcz33_0 : w32.cell? ⟨gb688, 0, none⟩ = some (.int .i64 0) := (blk_cell BK688.out 0).trans rfl; have hcz33_1 : w32.cell? ⟨gb688, 1, none⟩ = some (.int .i64 0) := (blk_cell BK688.out 1).trans rfl; have hcz33_2 : w32.cell? ⟨gb688, 2, none⟩ = some (.int .i64 0) := (blk_cell BK688.out 2).trans rfl; have hcz33_3 : w32.cell? ⟨gb688, 3, none⟩ = some (.int .i64 0) := (blk_cell BK688.out 3).trans rfl; have hfz33_0 := blk_frozen BK688.out 0; have hfz33_1 := blk_frozen BK688.out 1; have hfz33_2 := blk_frozen BK688.out 2; have hfz33_3 := blk_frozen BK688.out 3) | ((with_reducible refine gate_callee (f := 78) rfl ?_); refine goesL_ (some 58) rfl rfl Try.func78 (by kernel_rfl) rfl #[.pointer (some ⟨g0, 0, none⟩), .int .i64 ((rd_T79 t684 x44_2).f0), .int .i64 ((rd_T79 t684 x44_2).f1), .int .i64 ((rd_T79 t684 x44_2).f2), .int .i64 ((rd_T79 t684 x44_2).f3)] rfl zM ?_; (with_reducible refine (impl_chi_split.calls k2 _ l0 ((rd_T79 t684 x44_2).f0) ((rd_T79 t684 x44_2).f1) ((rd_T79 t684 x44_2).f2) ((rd_T79 t684 x44_2).f3) t689 t690 _ ?side1 ?side2 A22.out).mono ?_); (case side1 => exact Kd.C_below HR0.out (zG GE688.out)); (case side2 => exact HC0.out); rintro e w34 ⟨rfl, hb⟩; refine ⟨_, rfl, ?_⟩; replace HO_42 := Aside0.mk (Kd.R_below (by (with_reducible repeat (first | apply Kd.R_alloc | apply Kd.R_drewN | apply Kd.R_drew)); exact (Kd.R_mono (Kd.R_far (p := ⟨gb688, 3, none⟩) (Kd.R_far (p := ⟨gb688, 2, none⟩) (Kd.R_far (p := ⟨gb688, 1, none⟩) (Kd.R_far (p := ⟨gb688, 0, none⟩) (Kd.R_mono HO_42.out (fun k_ hk => (⟨hk, hk.2⟩ : _ ∧ k_ ≠ gb688))) (fun _ hk => hk.2) (.int .i64 ((rd_T79 t684 x44_2).f0))) (fun _ hk => hk.2) (.int .i64 ((rd_T79 t684 x44_2).f1))) (fun _ hk => hk.2) (.int .i64 ((rd_T79 t684 x44_2).f2))) (fun _ hk => hk.2) (.int .i64 ((rd_T79 t684 x44_2).f3))) (fun _ h_ => h_.1))) hb); replace BK688 := Aside0.mk (blk_below (g := gb688) (o := .cells #[.int .i64 ((rd_T79 t684 x44_2).f0), .int .i64 ((rd_T79 t684 x44_2).f1), .int .i64 ((rd_T79 t684 x44_2).f2), .int .i64 ((rd_T79 t684 x44_2).f3)] 79 (0, 0)) (by (with_reducible repeat (first | refine blk_drewN ?_ _ | refine blk_drew ?_ | refine blk_alloc ?_ _)); refine blk_put (cs := #[.int .i64 ((rd_T79 t684 x44_2).f0), .int .i64 ((rd_T79 t684 x44_2).f1), .int .i64 ((rd_T79 t684 x44_2).f2), .int .i64 0]) ?_ 3 _ rfl; (with_reducible repeat (first | refine blk_drewN ?_ _ | refine blk_drew ?_ | refine blk_alloc ?_ _)); refine blk_put (cs := #[.int .i64 ((rd_T79 t684 x44_2).f0), .int .i64 ((rd_T79 t684 x44_2).f1), .int .i64 0, .int .i64 0]) ?_ 2 _ rfl; (with_reducible repeat (first | refine blk_drewN ?_ _ | refine blk_drew ?_ | refine blk_alloc ?_ _)); refine blk_put (cs := #[.int .i64 ((rd_T79 t684 x44_2).f0), .int .i64 0, .int .i64 0, .int .i64 0]) ?_ 1 _ rfl; (with_reducible repeat (first | refine blk_drewN ?_ _ | refine blk_drew ?_ | refine blk_alloc ?_ _)); refine blk_put (cs := #[.int .i64 0, .int .i64 0, .int .i64 0, .int .i64 0]) ?_ 0 _ rfl; (with_reducible repeat (first | refine blk_drewN ?_ _ | refine blk_drew ?_ | refine blk_alloc ?_ _)); exact BK688.out) hb); replace HB := Aside0.mk (below_step (zG GE688.out) hb); (try clear hb)) | ((with_reducible refine gate_callee (f := 58) rfl ?_); refine goesL_ (some 63) rfl rfl Try.func58 (by kernel_rfl) rfl #[.int .u64 (IntKind.u64.wrap (t689))] rfl zM ?_; (with_reducible refine (bits_OnesCount.calls (IntKind.u64.wrap (t689)) t691 _ A23.out).mono ?_); rintro e w' ⟨rfl, ⟨nd, rfl⟩⟩; refine ⟨_, rfl, ?_⟩))
              go_ret
              exact ⟨zE, zG GE688.out⟩
             ·rw [if_neg c31] at H
              have c31b0 : ((Go.bits .and .i64 t689 (Go.bits .andNot .i64 t679 a1)) == t689) = false := beq_eq_false_iff_ne.mpr c31
              have c31b1 : ((Go.bits .and .i64 t689 (Go.bits .andNot .i64 t679 a1)) != t689) = true := bne_iff_ne.mpr c31
              have H' := Aside0.mk H
              clear H
              have p687 : 0 ≤ (x44_2 : Int) := zA
              have q687 : x44_2 < (t684.length : Int) := zA
              obtain ⟨ad687, e687, hx687_0, hx687_1, hx687_2, hx687_3⟩ := at_T79 (Kd.R_reads' HO_42.out).2.2 x44_2 p687 q687
              cases e687
              replace p687 := eq_true p687
              replace q687 := eq_true q687
              go_wp2_with (first | ((with_reducible refine gate_dst (N := 9) rfl ?_); refine box_event ?hg (N := 9) ?hd (cs := #[.int .i64 0, .int .i64 0, .int .i64 0, .int .i64 0]) (t := 79) ?hr ?_; (case hd => rfl); (case hg => rfl); (case hr => first | (go_simp; done) | (go_simp; rfl)); intro gb688 hg w35 hbox hb; replace HO_42 := Aside0.mk (Kd.R_below (Kd.R_elderB (zR HO_42.out) gb688 (Nat.le_of_eq hg.symm)) hb); have BK688 := Aside0.mk (hbox); have GW688 := Aside0.mk ((by rw [hg]; exact (below_size zB) : w.heap.size ≤ gb688)); have GE688 := Aside0.mk ((by rw [hg]; exact (below_size zB) : w.heap.size ≤ gb688)); replace HB := Aside0.mk (below_step zB hb); clear hb hbox hg; have hcz36_0 : w35.cell? ⟨gb688, 0, none⟩ = some (.int .i64 0) := (blk_cell BK688.out 0).trans rfl; have hcz36_1 : w35.cell? ⟨gb688, 1, none⟩ = some (.int .i64 0) := (blk_cell BK688.out 1).trans rfl; have hcz36_2 : w35.cell? ⟨gb688, 2, none⟩ = some (.int .i64 0) := (blk_cell BK688.out 2).trans rfl; have hcz36_3 : w35.cell? ⟨gb688, 3, none⟩ = some (.int .i64 0) := (blk_cell BK688.out 3).trans rfl; have hfz36_0 := blk_frozen BK688.out 0; have hfz36_1 := blk_frozen BK688.out 1; have hfz36_2 := blk_frozen BK688.out 2; have hfz36_3 := blk_frozen BK688.out 3) | ((with_reducible refine gate_callee (f := 78) rfl ?_); refine goesL_ (some 58) rfl rfl Try.func78 (by kernel_rfl) rfl #[.pointer (some ⟨g0, 0, none⟩), .int .i64 ((rd_T79 t684 x44_2).f0), .int .i64 ((rd_T79 t684 x44_2).f1), .int .i64 ((rd_T79 t684 x44_2).f2), .int .i64 ((rd_T79 t684 x44_2).f3)] rfl zM ?_; (with_reducible refine (impl_chi_split.calls k2 _ l0 ((rd_T79 t684 x44_2).f0) ((rd_T79 t684 x44_2).f1) ((rd_T79 t684 x44_2).f2) ((rd_T79 t684 x44_2).f3) t689 t690 _ ?side1 ?side2 A22.out).mono ?_); (case side1 => exact Kd.C_below HR0.out (zG GE688.out)); (case side2 => exact HC0.out); rintro e w37 ⟨rfl, hb⟩; refine ⟨_, rfl, ?_⟩; replace HO_42 := Aside0.mk (Kd.R_below (by (with_reducible repeat (first | apply Kd.R_alloc | apply Kd.R_drewN | apply Kd.R_drew)); exact (Kd.R_mono (Kd.R_far (p := ⟨gb688, 3, none⟩) (Kd.R_far (p := ⟨gb688, 2, none⟩) (Kd.R_far (p := ⟨gb688, 1, none⟩) (Kd.R_far (p := ⟨gb688, 0, none⟩) (Kd.R_mono HO_42.out (fun k_ hk => (⟨hk, hk.2⟩ : _ ∧ k_ ≠ gb688))) (fun _ hk => hk.2) (.int .i64 ((rd_T79 t684 x44_2).f0))) (fun _ hk => hk.2) (.int .i64 ((rd_T79 t684 x44_2).f1))) (fun _ hk => hk.2) (.int .i64 ((rd_T79 t684 x44_2).f2))) (fun _ hk => hk.2) (.int .i64 ((rd_T79 t684 x44_2).f3))) (fun _ h_ => h_.1))) hb); replace BK688 := Aside0.mk (blk_below (g := gb688) (o := .cells #[.int .i64 ((rd_T79 t684 x44_2).f0), .int .i64 ((rd_T79 t684 x44_2).f1), .int .i64 ((rd_T79 t684 x44_2).f2), .int .i64 ((rd_T79 t684 x44_2).f3)] 79 (0, 0)) (by (with_reducible repeat (first | refine blk_drewN ?_ _ | refine blk_drew ?_ | refine blk_alloc ?_ _)); refine blk_put (cs := #[.int .i64 ((rd_T79 t684 x44_2).f0), .int .i64 ((rd_T79 t684 x44_2).f1), .int .i64 ((rd_T79 t684 x44_2).f2), .int .i64 0]) ?_ 3 _ rfl; (with_reducible repeat (first | refine blk_drewN ?_ _ | refine blk_drew ?_ | refine blk_alloc ?_ _)); refine blk_put (cs := #[.int .i64 ((rd_T79 t684 x44_2).f0), .int .i64 ((rd_T79 t684 x44_2).f1), .int .i64 0, .int .i64 0]) ?_ 2 _ rfl; (with_reducible repeat (first | refine blk_drewN ?_ _ | refine blk_drew ?_ | refine blk_alloc ?_ _)); refine blk_put (cs := #[.int .i64 ((rd_T79 t684 x44_2).f0), .int .i64 0, .int .i64 0, .int .i64 0]) ?_ 1 _ rfl; (with_reducible repeat (first | refine blk_drewN ?_ _ | refine blk_drew ?_ | refine blk_alloc ?_ _)); refine blk_put (cs := #[.int .i64 0, .int .i64 0, .int .i64 0, .int .i64 0]) ?_ 0 _ rfl; (with_reducible repeat (first | refine blk_drewN ?_ _ | refine blk_drew ?_ | refine blk_alloc ?_ _)); exact BK688.out) hb); replace HB := Aside0.mk (below_step (zG GE688.out) hb); (try clear hb)) | ((with_reducible refine gate_callee (f := 58) rfl ?_); refine goesL_ (some 63) rfl rfl Try.func58 (by kernel_rfl) rfl #[.int .u64 (IntKind.u64.wrap (t689))] rfl zM ?_; (with_reducible refine (bits_OnesCount.calls (IntKind.u64.wrap (t689)) t691 _ A23.out).mono ?_); rintro e w' ⟨rfl, ⟨nd, rfl⟩⟩; refine ⟨_, rfl, ?_⟩))
              go_roundg k2
              case measure => have := HK1.out; have := HK2.out; omega
              case rel => exact ⟨(wrap64 (x44_2 + 1)), zF, H', ⟨by have := HK1.out; have := HK2.out; omega⟩, ⟨by (with_reducible repeat (first | apply Kd.R_alloc | apply Kd.R_drewN | apply Kd.R_drew)); exact Kd.R_mono HO_42.out (fun _ hk => trivial)⟩, ⟨zG GE688.out⟩⟩
            ·rw [if_neg c30] at H
             have c30b0 : ((Go.bits .and .i64 t690 a1) == t690) = false := beq_eq_false_iff_ne.mpr c30
             have c30b1 : ((Go.bits .and .i64 t690 a1) != t690) = true := bne_iff_ne.mpr c30
             have H' := Aside0.mk H
             clear H
             have p687 : 0 ≤ (x44_2 : Int) := zA
             have q687 : x44_2 < (t684.length : Int) := zA
             obtain ⟨ad687, e687, hx687_0, hx687_1, hx687_2, hx687_3⟩ := at_T79 (Kd.R_reads' HO_42.out).2.2 x44_2 p687 q687
             cases e687
             replace p687 := eq_true p687
             replace q687 := eq_true q687
             go_wp2_with (first | ((with_reducible refine gate_dst (N := 9) rfl ?_); refine box_event ?hg (N := 9) ?hd (cs := #[.int .i64 0, .int .i64 0, .int .i64 0, .int .i64 0]) (t := 79) ?hr ?_; (case hd => rfl); (case hg => rfl); (case hr => first | (go_simp; done) | (go_simp; rfl)); intro gb688 hg w38 hbox hb; replace HO_42 := Aside0.mk (Kd.R_below (Kd.R_elderB (zR HO_42.out) gb688 (Nat.le_of_eq hg.symm)) hb); have BK688 := Aside0.mk (hbox); have GW688 := Aside0.mk ((by rw [hg]; exact (below_size zB) : w.heap.size ≤ gb688)); have GE688 := Aside0.mk ((by rw [hg]; exact (below_size zB) : w.heap.size ≤ gb688)); replace HB := Aside0.mk (below_step zB hb); clear hb hbox hg; have hcz39_0 : w38.cell? ⟨gb688, 0, none⟩ = some (.int .i64 0) := (blk_cell BK688.out 0).trans rfl; have hcz39_1 : w38.cell? ⟨gb688, 1, none⟩ = some (.int .i64 0) := (blk_cell BK688.out 1).trans rfl; have hcz39_2 : w38.cell? ⟨gb688, 2, none⟩ = some (.int .i64 0) := (blk_cell BK688.out 2).trans rfl; have hcz39_3 : w38.cell? ⟨gb688, 3, none⟩ = some (.int .i64 0) := (blk_cell BK688.out 3).trans rfl; have hfz39_0 := blk_frozen BK688.out 0; have hfz39_1 := blk_frozen BK688.out 1; have hfz39_2 := blk_frozen BK688.out 2; have hfz39_3 := blk_frozen BK688.out 3) | ((with_reducible refine gate_callee (f := 78) rfl ?_); refine goesL_ (some 58) rfl rfl Try.func78 (by kernel_rfl) rfl #[.pointer (some ⟨g0, 0, none⟩), .int .i64 ((rd_T79 t684 x44_2).f0), .int .i64 ((rd_T79 t684 x44_2).f1), .int .i64 ((rd_T79 t684 x44_2).f2), .int .i64 ((rd_T79 t684 x44_2).f3)] rfl zM ?_; (with_reducible refine (impl_chi_split.calls k2 _ l0 ((rd_T79 t684 x44_2).f0) ((rd_T79 t684 x44_2).f1) ((rd_T79 t684 x44_2).f2) ((rd_T79 t684 x44_2).f3) t689 t690 _ ?side1 ?side2 A22.out).mono ?_); (case side1 => exact Kd.C_below HR0.out (zG GE688.out)); (case side2 => exact HC0.out); rintro e w40 ⟨rfl, hb⟩; refine ⟨_, rfl, ?_⟩; replace HO_42 := Aside0.mk (Kd.R_below (by (with_reducible repeat (first | apply Kd.R_alloc | apply Kd.R_drewN | apply Kd.R_drew)); exact (Kd.R_mono (Kd.R_far (p := ⟨gb688, 3, none⟩) (Kd.R_far (p := ⟨gb688, 2, none⟩) (Kd.R_far (p := ⟨gb688, 1, none⟩) (Kd.R_far (p := ⟨gb688, 0, none⟩) (Kd.R_mono HO_42.out (fun k_ hk => (⟨hk, hk.2⟩ : _ ∧ k_ ≠ gb688))) (fun _ hk => hk.2) (.int .i64 ((rd_T79 t684 x44_2).f0))) (fun _ hk => hk.2) (.int .i64 ((rd_T79 t684 x44_2).f1))) (fun _ hk => hk.2) (.int .i64 ((rd_T79 t684 x44_2).f2))) (fun _ hk => hk.2) (.int .i64 ((rd_T79 t684 x44_2).f3))) (fun _ h_ => h_.1))) hb); replace BK688 := Aside0.mk (blk_below (g := gb688) (o := .cells #[.int .i64 ((rd_T79 t684 x44_2).f0), .int .i64 ((rd_T79 t684 x44_2).f1), .int .i64 ((rd_T79 t684 x44_2).f2), .int .i64 ((rd_T79 t684 x44_2).f3)] 79 (0, 0)) (by (with_reducible repeat (first | refine blk_drewN ?_ _ | refine blk_drew ?_ | refine blk_alloc ?_ _)); refine blk_put (cs := #[.int .i64 ((rd_T79 t684 x44_2).f0), .int .i64 ((rd_T79 t684 x44_2).f1), .int .i64 ((rd_T79 t684 x44_2).f2), .int .i64 0]) ?_ 3 _ rfl; (with_reducible repeat (first | refine blk_drewN ?_ _ | refine blk_drew ?_ | refine blk_alloc ?_ _)); refine blk_put (cs := #[.int .i64 ((rd_T79 t684 x44_2).f0), .int .i64 ((rd_T79 t684 x44_2).f1), .int .i64 0, .int .i64 0]) ?_ 2 _ rfl; (with_reducible repeat (first | refine blk_drewN ?_ _ | refine blk_drew ?_ | refine blk_alloc ?_ _)); refine blk_put (cs := #[.int .i64 ((rd_T79 t684 x44_2).f0), .int .i64 0, .int .i64 0, .int .i64 0]) ?_ 1 _ rfl; (with_reducible repeat (first | refine blk_drewN ?_ _ | refine blk_drew ?_ | refine blk_alloc ?_ _)); refine blk_put (cs := #[.int .i64 0, .int .i64 0, .int .i64 0, .int .i64 0]) ?_ 0 _ rfl; (with_reducible repeat (first | refine blk_drewN ?_ _ | refine blk_drew ?_ | refine blk_alloc ?_ _)); exact BK688.out) hb); replace HB := Aside0.mk (below_step (zG GE688.out) hb); (try clear hb)) | ((with_reducible refine gate_callee (f := 58) rfl ?_); refine goesL_ (some 63) rfl rfl Try.func58 (by kernel_rfl) rfl #[.int .u64 (IntKind.u64.wrap (t689))] rfl zM ?_; (with_reducible refine (bits_OnesCount.calls (IntKind.u64.wrap (t689)) t691 _ A23.out).mono ?_); rintro e w' ⟨rfl, ⟨nd, rfl⟩⟩; refine ⟨_, rfl, ?_⟩))
             go_roundg k2
             case measure => have := HK1.out; have := HK2.out; omega
             case rel => exact ⟨(wrap64 (x44_2 + 1)), zF, H', ⟨by have := HK1.out; have := HK2.out; omega⟩, ⟨by (with_reducible repeat (first | apply Kd.R_alloc | apply Kd.R_drewN | apply Kd.R_drew)); exact Kd.R_mono HO_42.out (fun _ hk => trivial)⟩, ⟨zG GE688.out⟩⟩
          ·rw [if_neg c25] at H
           have c25b0 : ((Go.bits .and .i64 t689 a1) == t689) = false := beq_eq_false_iff_ne.mpr c25
           have c25b1 : ((Go.bits .and .i64 t689 a1) != t689) = true := bne_iff_ne.mpr c25
           by_cases c41 : (Go.bits .and .i64 t690 a1) = t690
           ·rw [if_pos c41] at H
            have c41b0 : ((Go.bits .and .i64 t690 a1) == t690) = true := beq_iff_eq.mpr c41
            have c41b1 : ((Go.bits .and .i64 t690 a1) != t690) = false := bne_eq_false_iff_eq.mpr c41
            clear c41
            by_cases c42 : (Go.bits .and .i64 t689 (Go.bits .andNot .i64 t679 a1)) = t689
            ·rw [if_pos c42] at H
             have c42b0 : ((Go.bits .and .i64 t689 (Go.bits .andNot .i64 t679 a1)) == t689) = true := beq_iff_eq.mpr c42
             have c42b1 : ((Go.bits .and .i64 t689 (Go.bits .andNot .i64 t679 a1)) != t689) = false := bne_eq_false_iff_eq.mpr c42
             clear c42
             obtain rfl := Option.some.inj H
             have p687 : 0 ≤ (x44_2 : Int) := zA
             have q687 : x44_2 < (t684.length : Int) := zA
             obtain ⟨ad687, e687, hx687_0, hx687_1, hx687_2, hx687_3⟩ := at_T79 (Kd.R_reads' HO_42.out).2.2 x44_2 p687 q687
             cases e687
             replace p687 := eq_true p687
             replace q687 := eq_true q687
             go_wp2_with (first | ((with_reducible refine gate_dst (N := 9) rfl ?_); refine box_event ?hg (N := 9) ?hd (cs := #[.int .i64 0, .int .i64 0, .int .i64 0, .int .i64 0]) (t := 79) ?hr ?_; (case hd => rfl); (case hg => rfl); (case hr => first | (go_simp; done) | (go_simp; rfl)); intro gb688 hg w43 hbox hb; replace HO_42 := Aside0.mk (Kd.R_below (Kd.R_elderB (zR HO_42.out) gb688 (Nat.le_of_eq hg.symm)) hb); have BK688 := Aside0.mk (hbox); have GW688 := Aside0.mk ((by rw [hg]; exact (below_size zB) : w.heap.size ≤ gb688)); have GE688 := Aside0.mk ((by rw [hg]; exact (below_size zB) : w.heap.size ≤ gb688)); replace HB := Aside0.mk (below_step zB hb); clear hb hbox hg; have hcz44_0 : w43.cell? ⟨gb688, 0, none⟩ = some (.int .i64 0) := (blk_cell BK688.out 0).trans rfl; have hcz44_1 : w43.cell? ⟨gb688, 1, none⟩ = some (.int .i64 0) := (blk_cell BK688.out 1).trans rfl; have hcz44_2 : w43.cell? ⟨gb688, 2, none⟩ = some (.int .i64 0) := (blk_cell BK688.out 2).trans rfl; have hcz44_3 : w43.cell? ⟨gb688, 3, none⟩ = some (.int .i64 0) := (blk_cell BK688.out 3).trans rfl; have hfz44_0 := blk_frozen BK688.out 0; have hfz44_1 := blk_frozen BK688.out 1; have hfz44_2 := blk_frozen BK688.out 2; have hfz44_3 := blk_frozen BK688.out 3) | ((with_reducible refine gate_callee (f := 78) rfl ?_); refine goesL_ (some 58) rfl rfl Try.func78 (by kernel_rfl) rfl #[.pointer (some ⟨g0, 0, none⟩), .int .i64 ((rd_T79 t684 x44_2).f0), .int .i64 ((rd_T79 t684 x44_2).f1), .int .i64 ((rd_T79 t684 x44_2).f2), .int .i64 ((rd_T79 t684 x44_2).f3)] rfl zM ?_; (with_reducible refine (impl_chi_split.calls k2 _ l0 ((rd_T79 t684 x44_2).f0) ((rd_T79 t684 x44_2).f1) ((rd_T79 t684 x44_2).f2) ((rd_T79 t684 x44_2).f3) t689 t690 _ ?side1 ?side2 A22.out).mono ?_); (case side1 => exact Kd.C_below HR0.out (zG GE688.out)); (case side2 => exact HC0.out); rintro e w45 ⟨rfl, hb⟩; refine ⟨_, rfl, ?_⟩; replace HO_42 := Aside0.mk (Kd.R_below (by (with_reducible repeat (first | apply Kd.R_alloc | apply Kd.R_drewN | apply Kd.R_drew)); exact (Kd.R_mono (Kd.R_far (p := ⟨gb688, 3, none⟩) (Kd.R_far (p := ⟨gb688, 2, none⟩) (Kd.R_far (p := ⟨gb688, 1, none⟩) (Kd.R_far (p := ⟨gb688, 0, none⟩) (Kd.R_mono HO_42.out (fun k_ hk => (⟨hk, hk.2⟩ : _ ∧ k_ ≠ gb688))) (fun _ hk => hk.2) (.int .i64 ((rd_T79 t684 x44_2).f0))) (fun _ hk => hk.2) (.int .i64 ((rd_T79 t684 x44_2).f1))) (fun _ hk => hk.2) (.int .i64 ((rd_T79 t684 x44_2).f2))) (fun _ hk => hk.2) (.int .i64 ((rd_T79 t684 x44_2).f3))) (fun _ h_ => h_.1))) hb); replace BK688 := Aside0.mk (blk_below (g := gb688) (o := .cells #[.int .i64 ((rd_T79 t684 x44_2).f0), .int .i64 ((rd_T79 t684 x44_2).f1), .int .i64 ((rd_T79 t684 x44_2).f2), .int .i64 ((rd_T79 t684 x44_2).f3)] 79 (0, 0)) (by (with_reducible repeat (first | refine blk_drewN ?_ _ | refine blk_drew ?_ | refine blk_alloc ?_ _)); refine blk_put (cs := #[.int .i64 ((rd_T79 t684 x44_2).f0), .int .i64 ((rd_T79 t684 x44_2).f1), .int .i64 ((rd_T79 t684 x44_2).f2), .int .i64 0]) ?_ 3 _ rfl; (with_reducible repeat (first | refine blk_drewN ?_ _ | refine blk_drew ?_ | refine blk_alloc ?_ _)); refine blk_put (cs := #[.int .i64 ((rd_T79 t684 x44_2).f0), .int .i64 ((rd_T79 t684 x44_2).f1), .int .i64 0, .int .i64 0]) ?_ 2 _ rfl; (with_reducible repeat (first | refine blk_drewN ?_ _ | refine blk_drew ?_ | refine blk_alloc ?_ _)); refine blk_put (cs := #[.int .i64 ((rd_T79 t684 x44_2).f0), .int .i64 0, .int .i64 0, .int .i64 0]) ?_ 1 _ rfl; (with_reducible repeat (first | refine blk_drewN ?_ _ | refine blk_drew ?_ | refine blk_alloc ?_ _)); refine blk_put (cs := #[.int .i64 0, .int .i64 0, .int .i64 0, .int .i64 0]) ?_ 0 _ rfl; (with_reducible repeat (first | refine blk_drewN ?_ _ | refine blk_drew ?_ | refine blk_alloc ?_ _)); exact BK688.out) hb); replace HB := Aside0.mk (below_step (zG GE688.out) hb); (try clear hb)) | ((with_reducible refine gate_callee (f := 58) rfl ?_); refine goesL_ (some 63) rfl rfl Try.func58 (by kernel_rfl) rfl #[.int .u64 (IntKind.u64.wrap (t689))] rfl zM ?_; (with_reducible refine (bits_OnesCount.calls (IntKind.u64.wrap (t689)) t691 _ A23.out).mono ?_); rintro e w' ⟨rfl, ⟨nd, rfl⟩⟩; refine ⟨_, rfl, ?_⟩))
             go_ret
             exact ⟨zE, zG GE688.out⟩
            ·rw [if_neg c42] at H
             have c42b0 : ((Go.bits .and .i64 t689 (Go.bits .andNot .i64 t679 a1)) == t689) = false := beq_eq_false_iff_ne.mpr c42
             have c42b1 : ((Go.bits .and .i64 t689 (Go.bits .andNot .i64 t679 a1)) != t689) = true := bne_iff_ne.mpr c42
             have H' := Aside0.mk H
             clear H
             have p687 : 0 ≤ (x44_2 : Int) := zA
             have q687 : x44_2 < (t684.length : Int) := zA
             obtain ⟨ad687, e687, hx687_0, hx687_1, hx687_2, hx687_3⟩ := at_T79 (Kd.R_reads' HO_42.out).2.2 x44_2 p687 q687
             cases e687
             replace p687 := eq_true p687
             replace q687 := eq_true q687
             go_wp2_with (first | ((with_reducible refine gate_dst (N := 9) rfl ?_); refine box_event ?hg (N := 9) ?hd (cs := #[.int .i64 0, .int .i64 0, .int .i64 0, .int .i64 0]) (t := 79) ?hr ?_; (case hd => rfl); (case hg => rfl); (case hr => first | (go_simp; done) | (go_simp; rfl)); intro gb688 hg w46 hbox hb; replace HO_42 := Aside0.mk (Kd.R_below (Kd.R_elderB (zR HO_42.out) gb688 (Nat.le_of_eq hg.symm)) hb); have BK688 := Aside0.mk (hbox); have GW688 := Aside0.mk ((by rw [hg]; exact (below_size zB) : w.heap.size ≤ gb688)); have GE688 := Aside0.mk ((by rw [hg]; exact (below_size zB) : w.heap.size ≤ gb688)); replace HB := Aside0.mk (below_step zB hb); clear hb hbox hg; have hcz47_0 : w46.cell? ⟨gb688, 0, none⟩ = some (.int .i64 0) := (blk_cell BK688.out 0).trans rfl; have hcz47_1 : w46.cell? ⟨gb688, 1, none⟩ = some (.int .i64 0) := (blk_cell BK688.out 1).trans rfl; have hcz47_2 : w46.cell? ⟨gb688, 2, none⟩ = some (.int .i64 0) := (blk_cell BK688.out 2).trans rfl; have hcz47_3 : w46.cell? ⟨gb688, 3, none⟩ = some (.int .i64 0) := (blk_cell BK688.out 3).trans rfl; have hfz47_0 := blk_frozen BK688.out 0; have hfz47_1 := blk_frozen BK688.out 1; have hfz47_2 := blk_frozen BK688.out 2; have hfz47_3 := blk_frozen BK688.out 3) | ((with_reducible refine gate_callee (f := 78) rfl ?_); refine goesL_ (some 58) rfl rfl Try.func78 (by kernel_rfl) rfl #[.pointer (some ⟨g0, 0, none⟩), .int .i64 ((rd_T79 t684 x44_2).f0), .int .i64 ((rd_T79 t684 x44_2).f1), .int .i64 ((rd_T79 t684 x44_2).f2), .int .i64 ((rd_T79 t684 x44_2).f3)] rfl zM ?_; (with_reducible refine (impl_chi_split.calls k2 _ l0 ((rd_T79 t684 x44_2).f0) ((rd_T79 t684 x44_2).f1) ((rd_T79 t684 x44_2).f2) ((rd_T79 t684 x44_2).f3) t689 t690 _ ?side1 ?side2 A22.out).mono ?_); (case side1 => exact Kd.C_below HR0.out (zG GE688.out)); (case side2 => exact HC0.out); rintro e w48 ⟨rfl, hb⟩; refine ⟨_, rfl, ?_⟩; replace HO_42 := Aside0.mk (Kd.R_below (by (with_reducible repeat (first | apply Kd.R_alloc | apply Kd.R_drewN | apply Kd.R_drew)); exact (Kd.R_mono (Kd.R_far (p := ⟨gb688, 3, none⟩) (Kd.R_far (p := ⟨gb688, 2, none⟩) (Kd.R_far (p := ⟨gb688, 1, none⟩) (Kd.R_far (p := ⟨gb688, 0, none⟩) (Kd.R_mono HO_42.out (fun k_ hk => (⟨hk, hk.2⟩ : _ ∧ k_ ≠ gb688))) (fun _ hk => hk.2) (.int .i64 ((rd_T79 t684 x44_2).f0))) (fun _ hk => hk.2) (.int .i64 ((rd_T79 t684 x44_2).f1))) (fun _ hk => hk.2) (.int .i64 ((rd_T79 t684 x44_2).f2))) (fun _ hk => hk.2) (.int .i64 ((rd_T79 t684 x44_2).f3))) (fun _ h_ => h_.1))) hb); replace BK688 := Aside0.mk (blk_below (g := gb688) (o := .cells #[.int .i64 ((rd_T79 t684 x44_2).f0), .int .i64 ((rd_T79 t684 x44_2).f1), .int .i64 ((rd_T79 t684 x44_2).f2), .int .i64 ((rd_T79 t684 x44_2).f3)] 79 (0, 0)) (by (with_reducible repeat (first | refine blk_drewN ?_ _ | refine blk_drew ?_ | refine blk_alloc ?_ _)); refine blk_put (cs := #[.int .i64 ((rd_T79 t684 x44_2).f0), .int .i64 ((rd_T79 t684 x44_2).f1), .int .i64 ((rd_T79 t684 x44_2).f2), .int .i64 0]) ?_ 3 _ rfl; (with_reducible repeat (first | refine blk_drewN ?_ _ | refine blk_drew ?_ | refine blk_alloc ?_ _)); refine blk_put (cs := #[.int .i64 ((rd_T79 t684 x44_2).f0), .int .i64 ((rd_T79 t684 x44_2).f1), .int .i64 0, .int .i64 0]) ?_ 2 _ rfl; (with_reducible repeat (first | refine blk_drewN ?_ _ | refine blk_drew ?_ | refine blk_alloc ?_ _)); refine blk_put (cs := #[.int .i64 ((rd_T79 t684 x44_2).f0), .int .i64 0, .int .i64 0, .int .i64 0]) ?_ 1 _ rfl; (with_reducible repeat (first | refine blk_drewN ?_ _ | refine blk_drew ?_ | refine blk_alloc ?_ _)); refine blk_put (cs := #[.int .i64 0, .int .i64 0, .int .i64 0, .int .i64 0]) ?_ 0 _ rfl; (with_reducible repeat (first | refine blk_drewN ?_ _ | refine blk_drew ?_ | refine blk_alloc ?_ _)); exact BK688.out) hb); replace HB := Aside0.mk (below_step (zG GE688.out) hb); (try clear hb)) | ((with_reducible refine gate_callee (f := 58) rfl ?_); refine goesL_ (some 63) rfl rfl Try.func58 (by kernel_rfl) rfl #[.int .u64 (IntKind.u64.wrap (t689))] rfl zM ?_; (with_reducible refine (bits_OnesCount.calls (IntKind.u64.wrap (t689)) t691 _ A23.out).mono ?_); rintro e w' ⟨rfl, ⟨nd, rfl⟩⟩; refine ⟨_, rfl, ?_⟩))
             go_roundg k2
             case measure => have := HK1.out; have := HK2.out; omega
             case rel => exact ⟨(wrap64 (x44_2 + 1)), zF, H', ⟨by have := HK1.out; have := HK2.out; omega⟩, ⟨by (with_reducible repeat (first | apply Kd.R_alloc | apply Kd.R_drewN | apply Kd.R_drew)); exact Kd.R_mono HO_42.out (fun _ hk => trivial)⟩, ⟨zG GE688.out⟩⟩
           ·rw [if_neg c41] at H
            have c41b0 : ((Go.bits .and .i64 t690 a1) == t690) = false := beq_eq_false_iff_ne.mpr c41
            have c41b1 : ((Go.bits .and .i64 t690 a1) != t690) = true := bne_iff_ne.mpr c41
            have H' := Aside0.mk H
            clear H
            have p687 : 0 ≤ (x44_2 : Int) := zA
            have q687 : x44_2 < (t684.length : Int) := zA
            obtain ⟨ad687, e687, hx687_0, hx687_1, hx687_2, hx687_3⟩ := at_T79 (Kd.R_reads' HO_42.out).2.2 x44_2 p687 q687
            cases e687
            replace p687 := eq_true p687
            replace q687 := eq_true q687
            go_wp2_with (first | ((with_reducible refine gate_dst (N := 9) rfl ?_); refine box_event ?hg (N := 9) ?hd (cs := #[.int .i64 0, .int .i64 0, .int .i64 0, .int .i64 0]) (t := 79) ?hr ?_; (case hd => rfl); (case hg => rfl); (case hr => first | (go_simp; done) | (go_simp; rfl)); intro gb688 hg w49 hbox hb; replace HO_42 := Aside0.mk (Kd.R_below (Kd.R_elderB (zR HO_42.out) gb688 (Nat.le_of_eq hg.symm)) hb); have BK688 := Aside0.mk (hbox); have GW688 := Aside0.mk ((by rw [hg]; exact (below_size zB) : w.heap.size ≤ gb688)); have GE688 := Aside0.mk ((by rw [hg]; exact (below_size zB) : w.heap.size ≤ gb688)); replace HB := Aside0.mk (below_step zB hb); clear hb hbox hg; have hcz50_0 : w49.cell? ⟨gb688, 0, none⟩ = some (.int .i64 0) := (blk_cell BK688.out 0).trans rfl; have hcz50_1 : w49.cell? ⟨gb688, 1, none⟩ = some (.int .i64 0) := (blk_cell BK688.out 1).trans rfl; have hcz50_2 : w49.cell? ⟨gb688, 2, none⟩ = some (.int .i64 0) := (blk_cell BK688.out 2).trans rfl; have hcz50_3 : w49.cell? ⟨gb688, 3, none⟩ = some (.int .i64 0) := (blk_cell BK688.out 3).trans rfl; have hfz50_0 := blk_frozen BK688.out 0; have hfz50_1 := blk_frozen BK688.out 1; have hfz50_2 := blk_frozen BK688.out 2; have hfz50_3 := blk_frozen BK688.out 3) | ((with_reducible refine gate_callee (f := 78) rfl ?_); refine goesL_ (some 58) rfl rfl Try.func78 (by kernel_rfl) rfl #[.pointer (some ⟨g0, 0, none⟩), .int .i64 ((rd_T79 t684 x44_2).f0), .int .i64 ((rd_T79 t684 x44_2).f1), .int .i64 ((rd_T79 t684 x44_2).f2), .int .i64 ((rd_T79 t684 x44_2).f3)] rfl zM ?_; (with_reducible refine (impl_chi_split.calls k2 _ l0 ((rd_T79 t684 x44_2).f0) ((rd_T79 t684 x44_2).f1) ((rd_T79 t684 x44_2).f2) ((rd_T79 t684 x44_2).f3) t689 t690 _ ?side1 ?side2 A22.out).mono ?_); (case side1 => exact Kd.C_below HR0.out (zG GE688.out)); (case side2 => exact HC0.out); rintro e w51 ⟨rfl, hb⟩; refine ⟨_, rfl, ?_⟩; replace HO_42 := Aside0.mk (Kd.R_below (by (with_reducible repeat (first | apply Kd.R_alloc | apply Kd.R_drewN | apply Kd.R_drew)); exact (Kd.R_mono (Kd.R_far (p := ⟨gb688, 3, none⟩) (Kd.R_far (p := ⟨gb688, 2, none⟩) (Kd.R_far (p := ⟨gb688, 1, none⟩) (Kd.R_far (p := ⟨gb688, 0, none⟩) (Kd.R_mono HO_42.out (fun k_ hk => (⟨hk, hk.2⟩ : _ ∧ k_ ≠ gb688))) (fun _ hk => hk.2) (.int .i64 ((rd_T79 t684 x44_2).f0))) (fun _ hk => hk.2) (.int .i64 ((rd_T79 t684 x44_2).f1))) (fun _ hk => hk.2) (.int .i64 ((rd_T79 t684 x44_2).f2))) (fun _ hk => hk.2) (.int .i64 ((rd_T79 t684 x44_2).f3))) (fun _ h_ => h_.1))) hb); replace BK688 := Aside0.mk (blk_below (g := gb688) (o := .cells #[.int .i64 ((rd_T79 t684 x44_2).f0), .int .i64 ((rd_T79 t684 x44_2).f1), .int .i64 ((rd_T79 t684 x44_2).f2), .int .i64 ((rd_T79 t684 x44_2).f3)] 79 (0, 0)) (by (with_reducible repeat (first | refine blk_drewN ?_ _ | refine blk_drew ?_ | refine blk_alloc ?_ _)); refine blk_put (cs := #[.int .i64 ((rd_T79 t684 x44_2).f0), .int .i64 ((rd_T79 t684 x44_2).f1), .int .i64 ((rd_T79 t684 x44_2).f2), .int .i64 0]) ?_ 3 _ rfl; (with_reducible repeat (first | refine blk_drewN ?_ _ | refine blk_drew ?_ | refine blk_alloc ?_ _)); refine blk_put (cs := #[.int .i64 ((rd_T79 t684 x44_2).f0), .int .i64 ((rd_T79 t684 x44_2).f1), .int .i64 0, .int .i64 0]) ?_ 2 _ rfl; (with_reducible repeat (first | refine blk_drewN ?_ _ | refine blk_drew ?_ | refine blk_alloc ?_ _)); refine blk_put (cs := #[.int .i64 ((rd_T79 t684 x44_2).f0), .int .i64 0, .int .i64 0, .int .i64 0]) ?_ 1 _ rfl; (with_reducible repeat (first | refine blk_drewN ?_ _ | refine blk_drew ?_ | refine blk_alloc ?_ _)); refine blk_put (cs := #[.int .i64 0, .int .i64 0, .int .i64 0, .int .i64 0]) ?_ 0 _ rfl; (with_reducible repeat (first | refine blk_drewN ?_ _ | refine blk_drew ?_ | refine blk_alloc ?_ _)); exact BK688.out) hb); replace HB := Aside0.mk (below_step (zG GE688.out) hb); (try clear hb)) | ((with_reducible refine gate_callee (f := 58) rfl ?_); refine goesL_ (some 63) rfl rfl Try.func58 (by kernel_rfl) rfl #[.int .u64 (IntKind.u64.wrap (t689))] rfl zM ?_; (with_reducible refine (bits_OnesCount.calls (IntKind.u64.wrap (t689)) t691 _ A23.out).mono ?_); rintro e w' ⟨rfl, ⟨nd, rfl⟩⟩; refine ⟨_, rfl, ?_⟩))
            go_roundg k2
            case measure => have := HK1.out; have := HK2.out; omega
            case rel => exact ⟨(wrap64 (x44_2 + 1)), zF, H', ⟨by have := HK1.out; have := HK2.out; omega⟩, ⟨by (with_reducible repeat (first | apply Kd.R_alloc | apply Kd.R_drewN | apply Kd.R_drew)); exact Kd.R_mono HO_42.out (fun _ hk => trivial)⟩, ⟨zG GE688.out⟩⟩
         ·rw [if_neg c24] at H
          have c24b0 : (t691 == 2) = false := beq_eq_false_iff_ne.mpr c24
          have c24b1 : (t691 != 2) = true := bne_iff_ne.mpr c24
          have H' := Aside0.mk H
          clear H
          have p687 : 0 ≤ (x44_2 : Int) := zA
          have q687 : x44_2 < (t684.length : Int) := zA
          obtain ⟨ad687, e687, hx687_0, hx687_1, hx687_2, hx687_3⟩ := at_T79 (Kd.R_reads' HO_42.out).2.2 x44_2 p687 q687
          cases e687
          replace p687 := eq_true p687
          replace q687 := eq_true q687
          go_wp2_with (first | ((with_reducible refine gate_dst (N := 9) rfl ?_); refine box_event ?hg (N := 9) ?hd (cs := #[.int .i64 0, .int .i64 0, .int .i64 0, .int .i64 0]) (t := 79) ?hr ?_; (case hd => rfl); (case hg => rfl); (case hr => first | (go_simp; done) | (go_simp; rfl)); intro gb688 hg w52 hbox hb; replace HO_42 := Aside0.mk (Kd.R_below (Kd.R_elderB (zR HO_42.out) gb688 (Nat.le_of_eq hg.symm)) hb); have BK688 := Aside0.mk (hbox); have GW688 := Aside0.mk ((by rw [hg]; exact (below_size zB) : w.heap.size ≤ gb688)); have GE688 := Aside0.mk ((by rw [hg]; exact (below_size zB) : w.heap.size ≤ gb688)); replace HB := Aside0.mk (below_step zB hb); clear hb hbox hg; have hcz53_0 : w52.cell? ⟨gb688, 0, none⟩ = some (.int .i64 0) := (blk_cell BK688.out 0).trans rfl; have hcz53_1 : w52.cell? ⟨gb688, 1, none⟩ = some (.int .i64 0) := (blk_cell BK688.out 1).trans rfl; have hcz53_2 : w52.cell? ⟨gb688, 2, none⟩ = some (.int .i64 0) := (blk_cell BK688.out 2).trans rfl; have hcz53_3 : w52.cell? ⟨gb688, 3, none⟩ = some (.int .i64 0) := (blk_cell BK688.out 3).trans rfl; have hfz53_0 := blk_frozen BK688.out 0; have hfz53_1 := blk_frozen BK688.out 1; have hfz53_2 := blk_frozen BK688.out 2; have hfz53_3 := blk_frozen BK688.out 3) | ((with_reducible refine gate_callee (f := 78) rfl ?_); refine goesL_ (some 58) rfl rfl Try.func78 (by kernel_rfl) rfl #[.pointer (some ⟨g0, 0, none⟩), .int .i64 ((rd_T79 t684 x44_2).f0), .int .i64 ((rd_T79 t684 x44_2).f1), .int .i64 ((rd_T79 t684 x44_2).f2), .int .i64 ((rd_T79 t684 x44_2).f3)] rfl zM ?_; (with_reducible refine (impl_chi_split.calls k2 _ l0 ((rd_T79 t684 x44_2).f0) ((rd_T79 t684 x44_2).f1) ((rd_T79 t684 x44_2).f2) ((rd_T79 t684 x44_2).f3) t689 t690 _ ?side1 ?side2 A22.out).mono ?_); (case side1 => exact Kd.C_below HR0.out (zG GE688.out)); (case side2 => exact HC0.out); rintro e w54 ⟨rfl, hb⟩; refine ⟨_, rfl, ?_⟩; replace HO_42 := Aside0.mk (Kd.R_below (by (with_reducible repeat (first | apply Kd.R_alloc | apply Kd.R_drewN | apply Kd.R_drew)); exact (Kd.R_mono (Kd.R_far (p := ⟨gb688, 3, none⟩) (Kd.R_far (p := ⟨gb688, 2, none⟩) (Kd.R_far (p := ⟨gb688, 1, none⟩) (Kd.R_far (p := ⟨gb688, 0, none⟩) (Kd.R_mono HO_42.out (fun k_ hk => (⟨hk, hk.2⟩ : _ ∧ k_ ≠ gb688))) (fun _ hk => hk.2) (.int .i64 ((rd_T79 t684 x44_2).f0))) (fun _ hk => hk.2) (.int .i64 ((rd_T79 t684 x44_2).f1))) (fun _ hk => hk.2) (.int .i64 ((rd_T79 t684 x44_2).f2))) (fun _ hk => hk.2) (.int .i64 ((rd_T79 t684 x44_2).f3))) (fun _ h_ => h_.1))) hb); replace BK688 := Aside0.mk (blk_below (g := gb688) (o := .cells #[.int .i64 ((rd_T79 t684 x44_2).f0), .int .i64 ((rd_T79 t684 x44_2).f1), .int .i64 ((rd_T79 t684 x44_2).f2), .int .i64 ((rd_T79 t684 x44_2).f3)] 79 (0, 0)) (by (with_reducible repeat (first | refine blk_drewN ?_ _ | refine blk_drew ?_ | refine blk_alloc ?_ _)); refine blk_put (cs := #[.int .i64 ((rd_T79 t684 x44_2).f0), .int .i64 ((rd_T79 t684 x44_2).f1), .int .i64 ((rd_T79 t684 x44_2).f2), .int .i64 0]) ?_ 3 _ rfl; (with_reducible repeat (first | refine blk_drewN ?_ _ | refine blk_drew ?_ | refine blk_alloc ?_ _)); refine blk_put (cs := #[.int .i64 ((rd_T79 t684 x44_2).f0), .int .i64 ((rd_T79 t684 x44_2).f1), .int .i64 0, .int .i64 0]) ?_ 2 _ rfl; (with_reducible repeat (first | refine blk_drewN ?_ _ | refine blk_drew ?_ | refine blk_alloc ?_ _)); refine blk_put (cs := #[.int .i64 ((rd_T79 t684 x44_2).f0), .int .i64 0, .int .i64 0, .int .i64 0]) ?_ 1 _ rfl; (with_reducible repeat (first | refine blk_drewN ?_ _ | refine blk_drew ?_ | refine blk_alloc ?_ _)); refine blk_put (cs := #[.int .i64 0, .int .i64 0, .int .i64 0, .int .i64 0]) ?_ 0 _ rfl; (with_reducible repeat (first | refine blk_drewN ?_ _ | refine blk_drew ?_ | refine blk_alloc ?_ _)); exact BK688.out) hb); replace HB := Aside0.mk (below_step (zG GE688.out) hb); (try clear hb)) | ((with_reducible refine gate_callee (f := 58) rfl ?_); refine goesL_ (some 63) rfl rfl Try.func58 (by kernel_rfl) rfl #[.int .u64 (IntKind.u64.wrap (t689))] rfl zM ?_; (with_reducible refine (bits_OnesCount.calls (IntKind.u64.wrap (t689)) t691 _ A23.out).mono ?_); rintro e w' ⟨rfl, ⟨nd, rfl⟩⟩; refine ⟨_, rfl, ?_⟩))
          go_roundg k2
          case measure => have := HK1.out; have := HK2.out; omega
          case rel => exact ⟨(wrap64 (x44_2 + 1)), zF, H', ⟨by have := HK1.out; have := HK2.out; omega⟩, ⟨by (with_reducible repeat (first | apply Kd.R_alloc | apply Kd.R_drewN | apply Kd.R_drew)); exact Kd.R_mono HO_42.out (fun _ hk => trivial)⟩, ⟨zG GE688.out⟩⟩
        ·rw [if_neg c21] at H
         exact absurd H (by simp)
       ·rw [if_neg c20] at H
        exact absurd H (by simp)
      ·rw [if_neg c19] at H
       have c19b0 : decide (x44_2 < (t684.length : Int)) = false := decide_eq_false c19
       clear c19
       obtain rfl := Option.some.inj H
       go_wp2
       go_ret
       exact ⟨zE, zB⟩
/-! ### impl_CutSets: function 37 -/
mutual
def impl_CutSets.j0 : Nat → Int → List Int → Bool → Int → ByteArray → Option (List Int)
 | 0, _, _, _, _, _ => none
 | k + 1, x1, x5, x25, x693000, x693001 => if x25 = true then (some ([] : List Int)) else (impl_CutSets.l0 k x1 x5 ([] : List Int) 0 x693000 x693001)
def impl_CutSets.l0 : Nat → Int → List Int → List Int → Int → Int → ByteArray → Option (List Int)
 | 0, _, _, _, _, _, _ => none
 | k + 1, x1, x5, x7, x8, x693000, x693001 => (impl_fullSet.f x693000).bind fun t697 => (if x8 ≤ t697 then ((bits_OnesCount.f (IntKind.u64.wrap (x8))).bind fun t698 => (if t698 = x1 then (if x5.length = 344 then ((impl_chi_isCut.f k x5 x8).bind fun t699 => (if t699 = true then (if x7.length < 17592186044416 then (impl_CutSets.l0 k x1 x5 (x7 ++ [x8]) (wrap64 (x8 + 1)) x693000 x693001) else (none)) else (impl_CutSets.l0 k x1 x5 x7 (wrap64 (x8 + 1)) x693000 x693001))) else (none)) else (impl_CutSets.l0 k x1 x5 x7 (wrap64 (x8 + 1)) x693000 x693001))) else (some x7))
end
def impl_CutSets.f (k : Nat) (a0_0 : Int) (a0_1 : ByteArray) (a1 : Int) : Option (List Int) := (impl_orderOf.f k a0_0 a0_1).bind fun bt693 => (if bt693.2 = true then (if a1 < 0 then (impl_CutSets.j0 k a1 bt693.1 true a0_0 a0_1) else (impl_CutSets.j0 k a1 bt693.1 (decide (a1 > a0_0)) a0_0 a0_1)) else (impl_CutSets.j0 k a1 bt693.1 true a0_0 a0_1))
theorem impl_CutSets.mono_l : ∀ k, (∀ y0 y1 y2 y3 y4, LeO (impl_CutSets.j0 k y0 y1 y2 y3 y4) (impl_CutSets.j0 (k + 1) y0 y1 y2 y3 y4)) ∧ (∀ y0 y1 y2 y3 y4 y5, LeO (impl_CutSets.l0 k y0 y1 y2 y3 y4 y5) (impl_CutSets.l0 (k + 1) y0 y1 y2 y3 y4 y5))
 | 0 => ⟨fun _ _ _ _ _ r h => by simp [impl_CutSets.j0] at h, fun _ _ _ _ _ _ r h => by simp [impl_CutSets.l0] at h⟩
 | k + 1 => by
  obtain ⟨ih0, ih1⟩ := impl_CutSets.mono_l k
  refine ⟨?_, ?_⟩ <;> intros <;> (first | unfold impl_CutSets.j0 | unfold impl_CutSets.l0) <;> repeat' first
  | (with_reducible exact ih0 _ _ _ _ _)
  | (with_reducible exact ih1 _ _ _ _ _ _)
  | (with_reducible exact impl_chi_isCut.mono _ _ _)
  | (with_reducible exact impl_orderOf.mono _ _ _)
  | (with_reducible exact LeO.refl _)
  | (with_reducible exact LeO.none _)
  | (with_reducible refine LeO.ite ?_ ?_)
  | (with_reducible refine LeO.bind ?_ (fun _ => ?_))
  | exact ih0 _ _ _ _ _
  | exact ih1 _ _ _ _ _ _
  | exact impl_chi_isCut.mono _ _ _
  | exact impl_orderOf.mono _ _ _
  | exact LeO.none _
  | refine LeO.ite ?_ ?_
  | refine LeO.bind ?_ (fun _ => ?_)
theorem impl_CutSets.mono : ∀ a0 a1 a2 k, LeO (impl_CutSets.f k a0 a1 a2) (impl_CutSets.f (k + 1) a0 a1 a2) := by
 intro a0 a1 a2 k
 obtain ⟨ih0, ih1⟩ := impl_CutSets.mono_l k
 unfold impl_CutSets.f
 repeat' first
   | (with_reducible exact ih0 _ _ _ _ _)
   | (with_reducible exact ih1 _ _ _ _ _ _)
   | (with_reducible exact impl_chi_isCut.mono _ _ _)
   | (with_reducible exact impl_orderOf.mono _ _ _)
   | (with_reducible exact LeO.refl _)
   | (with_reducible exact LeO.none _)
   | (with_reducible refine LeO.ite ?_ ?_)
   | (with_reducible refine LeO.bind ?_ (fun _ => ?_))
   | exact ih0 _ _ _ _ _
   | exact ih1 _ _ _ _ _ _
   | exact impl_chi_isCut.mono _ _ _
   | exact impl_orderOf.mono _ _ _
   | exact LeO.none _
   | refine LeO.ite ?_ ?_
   | refine LeO.bind ?_ (fun _ => ?_)
set_option maxHeartbeats 8000000 in
set_option maxRecDepth 100000 in
theorem impl_CutSets.calls (k : Nat) (a0_0 : Int) (a0_1 : ByteArray) (a1 : Int) (r : List Int) (w : World) (h : impl_CutSets.f k a0_0 a0_1 a1 = some r) :
  Calls Try.prog 37 #[.agg #[.int .i64 a0_0, .string a0_1], .int .i64 a1] w fun e w' => ∃ v0_ : Value, e = .returned (v0_) ∧ Kd.R (Kd.int .i64) 3 w' w.heap.size (fun _ => True) v0_ r ∧ Below w.heap.size w w' := by
 have hu26 := Try.underlying26
 have HB := Aside0.mk (Below.refl w.heap.size w)
 have H : ((impl_orderOf.f k a0_0 a0_1).bind fun bt693 => (if bt693.2 = true then (if a1 < 0 then (impl_CutSets.j0 k a1 bt693.1 true a0_0 a0_1) else (impl_CutSets.j0 k a1 bt693.1 (decide (a1 > a0_0)) a0_0 a0_1)) else (impl_CutSets.j0 k a1 bt693.1 true a0_0 a0_1))) = some r := h
 clear h
 replace H := Option.bind_eq_some_iff.mp H
 obtain ⟨⟨t693, t696⟩, A30, H⟩ := H
 replace H : (if t696 = true then (if a1 < 0 then (impl_CutSets.j0 k a1 t693 true a0_0 a0_1) else (impl_CutSets.j0 k a1 t693 (decide (a1 > a0_0)) a0_0 a0_1)) else (impl_CutSets.j0 k a1 t693 true a0_0 a0_1)) = some r := H
 have A3 := Aside0.mk A30
 clear A30
 have HC4 := Aside0.mk H
 clear H
 go_enter Try.func37, Try.ntmps37
 go_upto_region 2 with (first | ((with_reducible refine gate_dst (N := 2) rfl ?_); refine box_event ?hg (N := 2) ?hd (cs := #[.int .i64 a0_0, .string a0_1]) (t := 26) ?hr ?_; (case hd => rfl); (case hg => rfl); (case hr => first | (go_simp; done) | (go_simp; rfl)); intro gb692 hg w5 hbox hb; have BK692 := Aside0.mk (hbox); have GW692 := Aside0.mk ((by rw [hg]; exact (below_size zB) : w.heap.size ≤ gb692)); have GE692 := Aside0.mk ((by rw [hg]; exact (below_size zB) : w.heap.size ≤ gb692)); replace HB := Aside0.mk (below_step zB hb); clear hb hbox hg; have hcz6_0 : w5.cell? ⟨gb692, 0, none⟩ = some (.int .i64 a0_0) := (blk_cell BK692.out 0).trans rfl; have hcz6_1 : w5.cell? ⟨gb692, 1, none⟩ = some (.string a0_1) := (blk_cell BK692.out 1).trans rfl; have hfz6_0 := blk_frozen BK692.out 0; have hfz6_1 := blk_frozen BK692.out 1) | ((with_reducible refine gate_callee (f := 41) rfl ?_); refine goesL_ (some 11) rfl rfl Try.func41 (by kernel_rfl) rfl #[.agg #[.int .i64 a0_0, .string a0_1]] rfl zM ?_; (with_reducible refine (impl_orderOf.calls k a0_0 a0_1 t693 t696 _ A3.out).mono ?_); rintro e w7 ⟨v694, rfl, ho0, hb⟩; refine ⟨_, rfl, ?_⟩; have HO695 := Aside0.mk (Kd.R_lower ho0 (below_size (zG GE692.out))); replace BK692 := Aside0.mk (blk_below (g := gb692) (o := .cells #[.int .i64 a0_0, .string a0_1] 26 (0, 0)) (zK BK692.out) hb); replace HB := Aside0.mk (below_step (zG GE692.out) hb); (try clear hb); (try clear ho0)))
 (try simp only [Act.put, List.setIfInBounds_toArray, List.set_cons_zero, List.set_cons_succ])
 go_cut [25] (fun v25 wc => ∃ (kq : Nat) (x25_3 : Bool), v25 = .bool x25_3 ∧ Aside0 (impl_CutSets.j0 kq a1 t693 x25_3 a0_0 a0_1 = some r) ∧ Aside0 (kq ≤ k) ∧ Aside0 (Kd.R (Kd.int .i64) 68 wc w.heap.size (fun _ => True) v694 t693) ∧ Aside0 (wc.heap[gb692]? = some (.cells #[.int .i64 a0_0, .string a0_1] 26 (0, 0))) ∧ Aside0 (Below w.heap.size w wc))
 case first =>
  have H := HC4.out
  clear HC4
  by_cases c8 : t696 = true
  ·subst c8
   have H1 : (if a1 < 0 then (impl_CutSets.j0 k a1 t693 true a0_0 a0_1) else (impl_CutSets.j0 k a1 t693 (decide (a1 > a0_0)) a0_0 a0_1)) = some r := by rw [if_pos rfl] at H; exact H
   clear H
   have H := H1
   clear H1
   by_cases c9 : a1 < 0
   ·rw [if_pos c9] at H
    have c9b0 : decide (a1 < 0) = true := decide_eq_true c9
    clear c9
    (first | rw [c9b0] | (simp only [i64_w, i32_w]; rw [c9b0]) | skip)
    have H' := Aside0.mk H
    clear H
    go_wp2
    go_meet
    case rel => exact ⟨_, (true), zF, H', ⟨by first | omega | exact Nat.le_refl _⟩, ⟨zR HO695.out⟩, ⟨zK BK692.out⟩, ⟨zG GE692.out⟩⟩
   ·rw [if_neg c9] at H
    have c9b0 : decide (a1 < 0) = false := decide_eq_false c9
    clear c9
    (first | rw [c9b0] | (simp only [i64_w, i32_w]; rw [c9b0]) | skip)
    have H' := Aside0.mk H
    clear H
    have hcz10_0 : w7.cell? ⟨gb692, 0, none⟩ = some (.int .i64 a0_0) := (blk_cell BK692.out 0).trans rfl
    have hcz10_1 : w7.cell? ⟨gb692, 1, none⟩ = some (.string a0_1) := (blk_cell BK692.out 1).trans rfl
    have hfz10_0 := blk_frozen BK692.out 0
    have hfz10_1 := blk_frozen BK692.out 1
    go_wp2
    go_meet
    case rel => exact ⟨_, (decide (a1 > a0_0)), zF, H', ⟨by first | omega | exact Nat.le_refl _⟩, ⟨zR HO695.out⟩, ⟨zK BK692.out⟩, ⟨zG GE692.out⟩⟩
  ·replace c8 := Bool.eq_false_iff.mpr c8
   subst c8
   have H1 : (impl_CutSets.j0 k a1 t693 true a0_0 a0_1) = some r := by rw [if_neg (show ¬ (false = true) by decide)] at H; exact H
   clear H
   have H := H1
   clear H1
   have H' := Aside0.mk H
   clear H
   go_wp2
   go_meet
   case rel => exact ⟨_, (true), zF, H', ⟨by first | omega | exact Nat.le_refl _⟩, ⟨zR HO695.out⟩, ⟨zK BK692.out⟩, ⟨zG GE692.out⟩⟩
 case rest =>
  clear HC4
  try clear p2
  try clear c3
  try clear c4
  try clear c8
  try clear c9
  try clear c9b0
  try clear hcz10_0
  try clear hcz10_1
  try clear hcz6_0
  try clear hcz6_1
  try clear hfz10_0
  try clear hfz10_1
  try clear hfz6_0
  try clear hfz6_1
  obtain ⟨kq, x25_3, rfl, HA, HJ3, HO_5, BK692, HB⟩ := hcut
  cases kq with
  | zero => exact absurd HA.out (by simp [impl_CutSets.j0])
  | succ kj3 =>
   have H := HA.out
   clear HA
   simp only [impl_CutSets.j0] at H
   by_cases c11 : x25_3 = true
   ·subst c11
    have H1 : (some ([] : List Int)) = some r := by rw [if_pos rfl] at H; exact H
    clear H
    have H := H1
    clear H1
    obtain rfl := Option.some.inj H
    go_wp2
    go_ret
    exact ⟨_, zE, by first | exact Kd.R_nil _ _ _ _ _ | exact Kd.N_nil _ _ _ _ _ | exact Kd.V_nil _ _ _ _ _ | exact Kd.Q_nil _ _ _ _ _ | exact Kd.S_nil _ _ _ _ _, zG GE692.out⟩
   ·replace c11 := Bool.eq_false_iff.mpr c11
    subst c11
    have H1 : (impl_CutSets.l0 kj3 a1 t693 ([] : List Int) 0 a0_0 a0_1) = some r := by rw [if_neg (show ¬ (false = true) by decide)] at H; exact H
    clear H
    have H := H1
    clear H1
    have H' := Aside0.mk H
    clear H
    go_wp2
    go_loopg [7, 8] kj3 (fun kq v7 v8 w' => ∃ (x7_2 : List Int) (x8_2 : Int), v8 = .int .i64 x8_2 ∧ Aside0 (impl_CutSets.l0 kq a1 t693 x7_2 x8_2 a0_0 a0_1 = some r) ∧ Aside0 (kq ≤ kj3) ∧ Aside0 (Kd.R (Kd.int .i64) 68 w' w.heap.size (fun _ => True) v694 t693) ∧ Aside0 (Kd.R (Kd.int .i64) 3 w' w.heap.size (fun _ => True) v7 x7_2) ∧ Aside0 (w'.heap[gb692]? = some (.cells #[.int .i64 a0_0, .string a0_1] 26 (0, 0))) ∧ Aside0 (Below w.heap.size w w'))
    case atStart => exact ⟨(([] : List Int)), (0), zF, H', ⟨Nat.le_refl _⟩, ⟨zR HO_5.out⟩, ⟨by first | exact Kd.R_nil _ _ _ _ _ | exact Kd.N_nil _ _ _ _ _ | exact Kd.V_nil _ _ _ _ _ | exact Kd.Q_nil _ _ _ _ _ | exact Kd.S_nil _ _ _ _ _⟩, ⟨zK BK692.out⟩, ⟨zG GE692.out⟩⟩
    case round =>
     clear H'
     try clear c1
     try clear p2
     try clear c3
     try clear c4
     try clear c8
     try clear c9
     try clear c9b0
     try clear c11
     try clear hcz10_0
     try clear hcz10_1
     try clear hcz6_0
     try clear hcz6_1
     try clear hfz10_0
     try clear hfz10_1
     try clear hfz6_0
     try clear hfz6_1
     try clear p2
     obtain ⟨x7_2, x8_2, rfl, HA, HK2, HO_5, HO_7, BK692, HB⟩ := hrel
     cases gk with
     | zero => exact absurd HA.out (by simp [impl_CutSets.l0])
     | succ k2 =>
      have H := HA.out
      clear HA
      simp only [impl_CutSets.l0] at H
      replace H := Option.bind_eq_some_iff.mp H
      obtain ⟨t697, A120, H⟩ := H
      replace H : (if x8_2 ≤ t697 then ((bits_OnesCount.f (IntKind.u64.wrap (x8_2))).bind fun t698 => (if t698 = a1 then (if t693.length = 344 then ((impl_chi_isCut.f k2 t693 x8_2).bind fun t699 => (if t699 = true then (if x7_2.length < 17592186044416 then (impl_CutSets.l0 k2 a1 t693 (x7_2 ++ [x8_2]) (wrap64 (x8_2 + 1)) a0_0 a0_1) else (none)) else (impl_CutSets.l0 k2 a1 t693 x7_2 (wrap64 (x8_2 + 1)) a0_0 a0_1))) else (none)) else (impl_CutSets.l0 k2 a1 t693 x7_2 (wrap64 (x8_2 + 1)) a0_0 a0_1))) else (some x7_2)) = some r := H
      have A12 := Aside0.mk A120
      clear A120
      by_cases c13 : x8_2 ≤ t697
      ·rw [if_pos c13] at H
       have c13b0 : decide (x8_2 ≤ t697) = true := decide_eq_true c13
       clear c13
       replace H := Option.bind_eq_some_iff.mp H
       obtain ⟨t698, A140, H⟩ := H
       replace H : (if t698 = a1 then (if t693.length = 344 then ((impl_chi_isCut.f k2 t693 x8_2).bind fun t699 => (if t699 = true then (if x7_2.length < 17592186044416 then (impl_CutSets.l0 k2 a1 t693 (x7_2 ++ [x8_2]) (wrap64 (x8_2 + 1)) a0_0 a0_1) else (none)) else (impl_CutSets.l0 k2 a1 t693 x7_2 (wrap64 (x8_2 + 1)) a0_0 a0_1))) else (none)) else (impl_CutSets.l0 k2 a1 t693 x7_2 (wrap64 (x8_2 + 1)) a0_0 a0_1)) = some r := H
       have A14 := Aside0.mk A140
       clear A140
       by_cases c15 : t698 = a1
       ·rw [if_pos c15] at H
        have c15b0 : (t698 == a1) = true := beq_iff_eq.mpr c15
        have c15b1 : (t698 != a1) = false := bne_eq_false_iff_eq.mpr c15
        clear c15
        by_cases c16 : t693.length = 344
        ·rw [if_pos c16] at H
         have c16b0 := eq_true c16
         have c16b1 : decide (t693.length = 344) = true := decide_eq_true c16
         clear c16
         replace H := Option.bind_eq_some_iff.mp H
         obtain ⟨t699, A170, H⟩ := H
         replace H : (if t699 = true then (if x7_2.length < 17592186044416 then (impl_CutSets.l0 k2 a1 t693 (x7_2 ++ [x8_2]) (wrap64 (x8_2 + 1)) a0_0 a0_1) else (none)) else (impl_CutSets.l0 k2 a1 t693 x7_2 (wrap64 (x8_2 + 1)) a0_0 a0_1)) = some r := H
         have A17 := Aside0.mk A170
         clear A170
         by_cases c18 : t699 = true
         ·subst c18
          have H1 : (if x7_2.length < 17592186044416 then (impl_CutSets.l0 k2 a1 t693 (x7_2 ++ [x8_2]) (wrap64 (x8_2 + 1)) a0_0 a0_1) else (none)) = some r := by rw [if_pos rfl] at H; exact H
          clear H
          have H := H1
          clear H1
          by_cases c19 : x7_2.length < 17592186044416
          ·rw [if_pos c19] at H
           have LMc19 := Aside0.mk c19
           clear c19
           obtain ⟨y700, hy700⟩ : ∃ y_ : List Int, y_ = (x7_2 ++ [x8_2]) := ⟨_, rfl⟩
           replace H : (impl_CutSets.l0 k2 a1 t693 y700 (wrap64 (x8_2 + 1)) a0_0 a0_1) = some r := by first | (rw [hy700]; with_reducible exact H) | (have H2_ := (Option.bind_some _ _).symm.trans H; rw [hy700]; with_reducible exact H2_) | (have H2_ := (Option.bind_some _ _).symm.trans H; with_reducible exact H2_) | with_reducible exact H | (rw [hy700]; exact H) | exact H
           have Ny700 := Aside0.mk hy700
           clear hy700
           have H' := Aside0.mk H
           clear H
           have hcz20_0 : wr.cell? ⟨gb692, 0, none⟩ = some (.int .i64 a0_0) := (blk_cell BK692.out 0).trans rfl
           have hcz20_1 : wr.cell? ⟨gb692, 1, none⟩ = some (.string a0_1) := (blk_cell BK692.out 1).trans rfl
           have hfz20_0 := blk_frozen BK692.out 0
           have hfz20_1 := blk_frozen BK692.out 1
           go_wp2_with (first | ((with_reducible refine gate_callee (f := 48) rfl ?_); refine goesL_ (some 29) rfl rfl Try.func48 (by kernel_rfl) rfl #[.int .i64 a0_0] rfl zM ?_; (with_reducible refine (impl_fullSet.calls a0_0 t697 _ A12.out).mono ?_); rintro e w' ⟨rfl, ⟨nd, rfl⟩⟩; refine ⟨_, rfl, ?_⟩) | ((with_reducible refine gate_callee (f := 58) rfl ?_); refine goesL_ (some 35) rfl rfl Try.func58 (by kernel_rfl) rfl #[.int .u64 (IntKind.u64.wrap (x8_2))] rfl zM ?_; (with_reducible refine (bits_OnesCount.calls (IntKind.u64.wrap (x8_2)) t698 _ A14.out).mono ?_); rintro e w' ⟨rfl, ⟨nd, rfl⟩⟩; refine ⟨_, rfl, ?_⟩; obtain ⟨go21, co21, eo21, gb21, gl21, cl21, HG21⟩ := Kd.R_form HO_5.out (by have hl_ := Nat.le_of_eq (Eq.symm (zA : t693.length = 344)); omega); (first | cases eo21 | (injection eo21 with ea_ en_ ec_; (first | subst ea_ | (injection ea_ with ea_; subst ea_)); subst ec_; clear en_)); have GB21 := Aside0.mk gb21; have GG21 := Aside0.mk HG21; clear gb21 gl21 HG21) | (go_at_call 59; (with_reducible refine (impl_chi_isCut.calls k2 _ t693 x8_2 true _ ?side1 ?side2 A17.out).mono ?_); (case side1 => repeat (first | exact (Kd.R_reads' HO_5.out).2.2 | (with_reducible refine Kd.C_alloc ?_ _) | (with_reducible refine Kd.C_drewN ?_ _) | (with_reducible refine Kd.C_drew ?_))); (case side2 => exact (zA : t693.length = 344)); rintro e w22 ⟨rfl, hb⟩; replace HO_5 := Aside0.mk (Kd.R_below (zR HO_5.out) hb); replace HO_7 := Aside0.mk (Kd.R_below (zR HO_7.out) hb); replace BK692 := Aside0.mk (blk_below (g := gb692) (o := .cells #[.int .i64 a0_0, .string a0_1] 26 (0, 0)) (zK BK692.out) hb); replace HB := Aside0.mk (below_step (zG GE692.out) hb); (try clear hb); (try clear hb2); (try clear hk); (try clear hi)) | ((with_reducible refine gate_builtin (b := .append) (xs := #[.tmp 43, .tmp 45]) rfl ?_); at_builtin; refine Kd.R_append (Kd.int .i64) (w0 := w) w.heap.size rfl (.tmp 43) (.tmp 45) 34 3 (.int .i64 0) 8 rfl Try.underlying34 info3 rfl (by decide) (by omega) u7 x7_2 x8_2 [.int .i64 x8_2] (fun _ => True) (fun _ => False) rfl rfl ?aP (fun _ hk => hk.elim) ?aF ?aO ?aB ?aS ?aL ?_; (case aP => exact rfl); (case aB => exact (zG GE692.out)); (case aF => exact (fun _ _ => trivial)); (case aO => exact (zR HO_7.out)); (case aS => exact (below_size (zG GE692.out))); (case aL => have := LMc19.out; omega); intro v701 w23 ho hb hg hat; rw [← Ny700.out] at ho; have n0_ := Aside0.mk (Kd.R_over' (zR HO_5.out) (Kd.R_typed (zR HO_7.out)) (by decide) hg); have n1_ := Aside0.mk (blk_grown (g := gb692) (o := .cells #[.int .i64 a0_0, .string a0_1] 26 (0, 0)) (zK BK692.out) hg (Kd.R_ne HO_7.out BK692.out (by decide))); have n2_ := Aside0.mk (hb); have n3_ := Aside0.mk (ho); clear HO_5; clear BK692; clear HB; clear HO_7; have HO_5 := n0_; have BK692 := n1_; have HB := n2_; have HO702 := n3_; clear n0_ n1_ n2_ n3_; clear ho hb hg hat))
           go_roundg k2
           case measure => have := HJ3.out; have := HK2.out; omega
           case rel => exact ⟨(y700), (wrap64 (x8_2 + 1)), zF, H', ⟨by have := HJ3.out; have := HK2.out; omega⟩, ⟨zR HO_5.out⟩, ⟨zR HO702.out⟩, ⟨zK BK692.out⟩, ⟨zG GE692.out⟩⟩
          ·rw [if_neg c19] at H
           exact absurd H (by simp)
         ·replace c18 := Bool.eq_false_iff.mpr c18
          subst c18
          have H1 : (impl_CutSets.l0 k2 a1 t693 x7_2 (wrap64 (x8_2 + 1)) a0_0 a0_1) = some r := by rw [if_neg (show ¬ (false = true) by decide)] at H; exact H
          clear H
          have H := H1
          clear H1
          have H' := Aside0.mk H
          clear H
          have hcz24_0 : wr.cell? ⟨gb692, 0, none⟩ = some (.int .i64 a0_0) := (blk_cell BK692.out 0).trans rfl
          have hcz24_1 : wr.cell? ⟨gb692, 1, none⟩ = some (.string a0_1) := (blk_cell BK692.out 1).trans rfl
          have hfz24_0 := blk_frozen BK692.out 0
          have hfz24_1 := blk_frozen BK692.out 1
          go_wp2_with (first | ((with_reducible refine gate_callee (f := 48) rfl ?_); refine goesL_ (some 29) rfl rfl Try.func48 (by kernel_rfl) rfl #[.int .i64 a0_0] rfl zM ?_; (with_reducible refine (impl_fullSet.calls a0_0 t697 _ A12.out).mono ?_); rintro e w' ⟨rfl, ⟨nd, rfl⟩⟩; refine ⟨_, rfl, ?_⟩) | ((with_reducible refine gate_callee (f := 58) rfl ?_); refine goesL_ (some 35) rfl rfl Try.func58 (by kernel_rfl) rfl #[.int .u64 (IntKind.u64.wrap (x8_2))] rfl zM ?_; (with_reducible refine (bits_OnesCount.calls (IntKind.u64.wrap (x8_2)) t698 _ A14.out).mono ?_); rintro e w' ⟨rfl, ⟨nd, rfl⟩⟩; refine ⟨_, rfl, ?_⟩; obtain ⟨go25, co25, eo25, gb25, gl25, cl25, HG25⟩ := Kd.R_form HO_5.out (by have hl_ := Nat.le_of_eq (Eq.symm (zA : t693.length = 344)); omega); (first | cases eo25 | (injection eo25 with ea_ en_ ec_; (first | subst ea_ | (injection ea_ with ea_; subst ea_)); subst ec_; clear en_)); have GB25 := Aside0.mk gb25; have GG25 := Aside0.mk HG25; clear gb25 gl25 HG25) | (go_at_call 59; (with_reducible refine (impl_chi_isCut.calls k2 _ t693 x8_2 false _ ?side1 ?side2 A17.out).mono ?_); (case side1 => repeat (first | exact (Kd.R_reads' HO_5.out).2.2 | (with_reducible refine Kd.C_alloc ?_ _) | (with_reducible refine Kd.C_drewN ?_ _) | (with_reducible refine Kd.C_drew ?_))); (case side2 => exact (zA : t693.length = 344)); rintro e w26 ⟨rfl, hb⟩; replace HO_5 := Aside0.mk (Kd.R_below (zR HO_5.out) hb); replace HO_7 := Aside0.mk (Kd.R_below (zR HO_7.out) hb); replace BK692 := Aside0.mk (blk_below (g := gb692) (o := .cells #[.int .i64 a0_0, .string a0_1] 26 (0, 0)) (zK BK692.out) hb); replace HB := Aside0.mk (below_step (zG GE692.out) hb); (try clear hb); (try clear hb2); (try clear hk); (try clear hi)))
          go_roundg k2
          case measure => have := HJ3.out; have := HK2.out; omega
          case rel => exact ⟨(x7_2), (wrap64 (x8_2 + 1)), zF, H', ⟨by have := HJ3.out; have := HK2.out; omega⟩, ⟨zR HO_5.out⟩, ⟨zR HO_7.out⟩, ⟨zK BK692.out⟩, ⟨zG GE692.out⟩⟩
        ·rw [if_neg c16] at H
         exact absurd H (by simp)
       ·rw [if_neg c15] at H
        have c15b0 : (t698 == a1) = false := beq_eq_false_iff_ne.mpr c15
        have c15b1 : (t698 != a1) = true := bne_iff_ne.mpr c15
        have H' := Aside0.mk H
        clear H
        have hcz27_0 : wr.cell? ⟨gb692, 0, none⟩ = some (.int .i64 a0_0) := (blk_cell BK692.out 0).trans rfl
        have hcz27_1 : wr.cell? ⟨gb692, 1, none⟩ = some (.string a0_1) := (blk_cell BK692.out 1).trans rfl
        have hfz27_0 := blk_frozen BK692.out 0
        have hfz27_1 := blk_frozen BK692.out 1
        go_wp2_with (first | ((with_reducible refine gate_callee (f := 48) rfl ?_); refine goesL_ (some 29) rfl rfl Try.func48 (by kernel_rfl) rfl #[.int .i64 a0_0] rfl zM ?_; (with_reducible refine (impl_fullSet.calls a0_0 t697 _ A12.out).mono ?_); rintro e w' ⟨rfl, ⟨nd, rfl⟩⟩; refine ⟨_, rfl, ?_⟩) | ((with_reducible refine gate_callee (f := 58) rfl ?_); refine goesL_ (some 35) rfl rfl Try.func58 (by kernel_rfl) rfl #[.int .u64 (IntKind.u64.wrap (x8_2))] rfl zM ?_; (with_reducible refine (bits_OnesCount.calls (IntKind.u64.wrap (x8_2)) t698 _ A14.out).mono ?_); rintro e w' ⟨rfl, ⟨nd, rfl⟩⟩; refine ⟨_, rfl, ?_⟩))
        go_roundg k2
        case measure => have := HJ3.out; have := HK2.out; omega
        case rel => exact ⟨(x7_2), (wrap64 (x8_2 + 1)), zF, H', ⟨by have := HJ3.out; have := HK2.out; omega⟩, ⟨zR HO_5.out⟩, ⟨zR HO_7.out⟩, ⟨zK BK692.out⟩, ⟨zG GE692.out⟩⟩
      ·rw [if_neg c13] at H
       have c13b0 : decide (x8_2 ≤ t697) = false := decide_eq_false c13
       clear c13
       obtain rfl := Option.some.inj H
       have hcz28_0 : wr.cell? ⟨gb692, 0, none⟩ = some (.int .i64 a0_0) := (blk_cell BK692.out 0).trans rfl
       have hcz28_1 : wr.cell? ⟨gb692, 1, none⟩ = some (.string a0_1) := (blk_cell BK692.out 1).trans rfl
       have hfz28_0 := blk_frozen BK692.out 0
       have hfz28_1 := blk_frozen BK692.out 1
       go_wp2_with (first | ((with_reducible refine gate_callee (f := 48) rfl ?_); refine goesL_ (some 29) rfl rfl Try.func48 (by kernel_rfl) rfl #[.int .i64 a0_0] rfl zM ?_; (with_reducible refine (impl_fullSet.calls a0_0 t697 _ A12.out).mono ?_); rintro e w' ⟨rfl, ⟨nd, rfl⟩⟩; refine ⟨_, rfl, ?_⟩))
       go_ret
       exact ⟨_, zE, zR HO_7.out, zG GE692.out⟩
/-! ### laws_FnExactCutSets: function 11 -/
def laws_FnExactCutSets.f (k : Nat) (a0_0 : Int) (a0_1 : ByteArray) (a1 : Int) : Option (Bool) := (laws_szSigns.f a0_0 a0_1 1048576).bind fun t704 => (if t704 < 0 then (some true) else ((laws_toSigns.f a0_0 a0_1).bind fun bt705 => ((spec_CutSets.f k bt705.1 bt705.2 a1).bind fun t707 => ((laws_toSigns.f a0_0 a0_1).bind fun bt710 => ((impl_CutSets.f k bt710.1 bt710.2 a1).bind fun t712 => ((laws_eqIntS.f k t712 t707).bind fun t715 => (if t715 = true then ((laws_markIntS.f k t712 1).bind fun bt716 => ((laws_heldIntS.f k bt716.2 1).bind fun t718 => (if t718 < 0 then (some false) else (if t718 = bt716.1 then ((laws_toSigns.f a0_0 a0_1).bind fun bt719 => ((impl_CutSets.f k bt719.1 bt719.2 a1).bind fun t721 => ((laws_eqIntS.f k t721 t707).bind fun t724 => (if t724 = true then ((laws_heldIntS.f k bt716.2 1).bind fun t725 => (if t725 < 0 then (some false) else (if t725 = bt716.1 then (some true) else (some false)))) else (some false))))) else (some false))))) else (some false))))))))
theorem laws_FnExactCutSets.mono : ∀ a0 a1 a2 k, LeO (laws_FnExactCutSets.f k a0 a1 a2) (laws_FnExactCutSets.f (k + 1) a0 a1 a2) := by
 intro a0 a1 a2 k
 unfold laws_FnExactCutSets.f
 repeat' first
   | (with_reducible exact impl_CutSets.mono _ _ _ _)
   | (with_reducible exact laws_eqIntS.mono _ _ _)
   | (with_reducible exact laws_heldIntS.mono _ _ _)
   | (with_reducible exact laws_markIntS.mono _ _ _)
   | (with_reducible exact spec_CutSets.mono _ _ _ _)
   | (with_reducible exact LeO.refl _)
   | (with_reducible exact LeO.none _)
   | (with_reducible refine LeO.ite ?_ ?_)
   | (with_reducible refine LeO.bind ?_ (fun _ => ?_))
   | exact impl_CutSets.mono _ _ _ _
   | exact laws_eqIntS.mono _ _ _
   | exact laws_heldIntS.mono _ _ _
   | exact laws_markIntS.mono _ _ _
   | exact spec_CutSets.mono _ _ _ _
   | exact LeO.none _
   | refine LeO.ite ?_ ?_
   | refine LeO.bind ?_ (fun _ => ?_)
set_option maxHeartbeats 8000000 in
set_option maxRecDepth 100000 in
theorem laws_FnExactCutSets.calls (k : Nat) (a0_0 : Int) (a0_1 : ByteArray) (a1 : Int) (r : Bool) (w : World) (h : laws_FnExactCutSets.f k a0_0 a0_1 a1 = some r) (hr_ : r = true) :
  Calls Try.prog 11 #[.agg #[.int .i64 a0_0, .string a0_1], .int .i64 a1] w fun e w' => e = .returned (.bool r) ∧ Below w.heap.size w w' := by
 have hu23 := Try.underlying23
 have HB := Aside0.mk (Below.refl w.heap.size w)
 have H : ((laws_szSigns.f a0_0 a0_1 1048576).bind fun t704 => (if t704 < 0 then (some true) else ((laws_toSigns.f a0_0 a0_1).bind fun bt705 => ((spec_CutSets.f k bt705.1 bt705.2 a1).bind fun t707 => ((laws_toSigns.f a0_0 a0_1).bind fun bt710 => ((impl_CutSets.f k bt710.1 bt710.2 a1).bind fun t712 => ((laws_eqIntS.f k t712 t707).bind fun t715 => (if t715 = true then ((laws_markIntS.f k t712 1).bind fun bt716 => ((laws_heldIntS.f k bt716.2 1).bind fun t718 => (if t718 < 0 then (some false) else (if t718 = bt716.1 then ((laws_toSigns.f a0_0 a0_1).bind fun bt719 => ((impl_CutSets.f k bt719.1 bt719.2 a1).bind fun t721 => ((laws_eqIntS.f k t721 t707).bind fun t724 => (if t724 = true then ((laws_heldIntS.f k bt716.2 1).bind fun t725 => (if t725 < 0 then (some false) else (if t725 = bt716.1 then (some true) else (some false)))) else (some false))))) else (some false))))) else (some false))))))))) = some r := h
 clear h
 replace H := Option.bind_eq_some_iff.mp H
 obtain ⟨t704, A30, H⟩ := H
 replace H : (if t704 < 0 then (some true) else ((laws_toSigns.f a0_0 a0_1).bind fun bt705 => ((spec_CutSets.f k bt705.1 bt705.2 a1).bind fun t707 => ((laws_toSigns.f a0_0 a0_1).bind fun bt710 => ((impl_CutSets.f k bt710.1 bt710.2 a1).bind fun t712 => ((laws_eqIntS.f k t712 t707).bind fun t715 => (if t715 = true then ((laws_markIntS.f k t712 1).bind fun bt716 => ((laws_heldIntS.f k bt716.2 1).bind fun t718 => (if t718 < 0 then (some false) else (if t718 = bt716.1 then ((laws_toSigns.f a0_0 a0_1).bind fun bt719 => ((impl_CutSets.f k bt719.1 bt719.2 a1).bind fun t721 => ((laws_eqIntS.f k t721 t707).bind fun t724 => (if t724 = true then ((laws_heldIntS.f k bt716.2 1).bind fun t725 => (if t725 < 0 then (some false) else (if t725 = bt716.1 then (some true) else (some false)))) else (some false))))) else (some false))))) else (some false)))))))) = some r := H
 have A3 := Aside0.mk A30
 clear A30
 by_cases c4 : t704 < 0
 ·rw [if_pos c4] at H
  have c4b0 : decide (t704 < 0) = true := decide_eq_true c4
  clear c4
  obtain rfl := Option.some.inj H
  go_enter Try.func11, Try.ntmps11
  go_wp2_with (first | ((with_reducible refine gate_dst (N := 2) rfl ?_); refine box_event ?hg (N := 2) ?hd (cs := #[.int .i64 a0_0, .string a0_1]) (t := 23) ?hr ?_; (case hd => rfl); (case hg => rfl); (case hr => first | (go_simp; done) | (go_simp; rfl)); intro gb703 hg w5 hbox hb; have BK703 := Aside0.mk (hbox); have GW703 := Aside0.mk ((by rw [hg]; exact (below_size zB) : w.heap.size ≤ gb703)); have GE703 := Aside0.mk ((by rw [hg]; exact (below_size zB) : w.heap.size ≤ gb703)); replace HB := Aside0.mk (below_step zB hb); clear hb hbox hg; have hcz6_0 : w5.cell? ⟨gb703, 0, none⟩ = some (.int .i64 a0_0) := (blk_cell BK703.out 0).trans rfl; have hcz6_1 : w5.cell? ⟨gb703, 1, none⟩ = some (.string a0_1) := (blk_cell BK703.out 1).trans rfl; have hfz6_0 := blk_frozen BK703.out 0; have hfz6_1 := blk_frozen BK703.out 1) | ((with_reducible refine gate_callee (f := 12) rfl ?_); refine goesL_ (some 13) rfl rfl Try.func12 (by kernel_rfl) rfl #[.agg #[.int .i64 a0_0, .string a0_1], .int .i64 1048576] rfl zM ?_; (with_reducible refine (laws_szSigns.calls a0_0 a0_1 1048576 t704 _ A3.out).mono ?_); rintro e w7 ⟨rfl, hb⟩; refine ⟨_, rfl, ?_⟩; replace BK703 := Aside0.mk (blk_below (g := gb703) (o := .cells #[.int .i64 a0_0, .string a0_1] 23 (0, 0)) (zK BK703.out) hb); replace HB := Aside0.mk (below_step (zG GE703.out) hb); (try clear hb)))
  go_ret
  exact ⟨zE, zG GE703.out⟩
 ·rw [if_neg c4] at H
  have c4b0 : decide (t704 < 0) = false := decide_eq_false c4
  clear c4
  replace H := Option.bind_eq_some_iff.mp H
  obtain ⟨⟨t705, t706⟩, A80, H⟩ := H
  replace H : ((spec_CutSets.f k t705 t706 a1).bind fun t707 => ((laws_toSigns.f a0_0 a0_1).bind fun bt710 => ((impl_CutSets.f k bt710.1 bt710.2 a1).bind fun t712 => ((laws_eqIntS.f k t712 t707).bind fun t715 => (if t715 = true then ((laws_markIntS.f k t712 1).bind fun bt716 => ((laws_heldIntS.f k bt716.2 1).bind fun t718 => (if t718 < 0 then (some false) else (if t718 = bt716.1 then ((laws_toSigns.f a0_0 a0_1).bind fun bt719 => ((impl_CutSets.f k bt719.1 bt719.2 a1).bind fun t721 => ((laws_eqIntS.f k t721 t707).bind fun t724 => (if t724 = true then ((laws_heldIntS.f k bt716.2 1).bind fun t725 => (if t725 < 0 then (some false) else (if t725 = bt716.1 then (some true) else (some false)))) else (some false))))) else (some false))))) else (some false)))))) = some r := H
  have A8 := Aside0.mk A80
  clear A80
  replace H := Option.bind_eq_some_iff.mp H
  obtain ⟨t707, A90, H⟩ := H
  replace H : ((laws_toSigns.f a0_0 a0_1).bind fun bt710 => ((impl_CutSets.f k bt710.1 bt710.2 a1).bind fun t712 => ((laws_eqIntS.f k t712 t707).bind fun t715 => (if t715 = true then ((laws_markIntS.f k t712 1).bind fun bt716 => ((laws_heldIntS.f k bt716.2 1).bind fun t718 => (if t718 < 0 then (some false) else (if t718 = bt716.1 then ((laws_toSigns.f a0_0 a0_1).bind fun bt719 => ((impl_CutSets.f k bt719.1 bt719.2 a1).bind fun t721 => ((laws_eqIntS.f k t721 t707).bind fun t724 => (if t724 = true then ((laws_heldIntS.f k bt716.2 1).bind fun t725 => (if t725 < 0 then (some false) else (if t725 = bt716.1 then (some true) else (some false)))) else (some false))))) else (some false))))) else (some false))))) = some r := H
  have A9 := Aside0.mk A90
  clear A90
  replace H := Option.bind_eq_some_iff.mp H
  obtain ⟨⟨t710, t711⟩, A100, H⟩ := H
  replace H : ((impl_CutSets.f k t710 t711 a1).bind fun t712 => ((laws_eqIntS.f k t712 t707).bind fun t715 => (if t715 = true then ((laws_markIntS.f k t712 1).bind fun bt716 => ((laws_heldIntS.f k bt716.2 1).bind fun t718 => (if t718 < 0 then (some false) else (if t718 = bt716.1 then ((laws_toSigns.f a0_0 a0_1).bind fun bt719 => ((impl_CutSets.f k bt719.1 bt719.2 a1).bind fun t721 => ((laws_eqIntS.f k t721 t707).bind fun t724 => (if t724 = true then ((laws_heldIntS.f k bt716.2 1).bind fun t725 => (if t725 < 0 then (some false) else (if t725 = bt716.1 then (some true) else (some false)))) else (some false))))) else (some false))))) else (some false)))) = some r := H
  have A10 := Aside0.mk A100
  clear A100
  replace H := Option.bind_eq_some_iff.mp H
  obtain ⟨t712, A110, H⟩ := H
  replace H : ((laws_eqIntS.f k t712 t707).bind fun t715 => (if t715 = true then ((laws_markIntS.f k t712 1).bind fun bt716 => ((laws_heldIntS.f k bt716.2 1).bind fun t718 => (if t718 < 0 then (some false) else (if t718 = bt716.1 then ((laws_toSigns.f a0_0 a0_1).bind fun bt719 => ((impl_CutSets.f k bt719.1 bt719.2 a1).bind fun t721 => ((laws_eqIntS.f k t721 t707).bind fun t724 => (if t724 = true then ((laws_heldIntS.f k bt716.2 1).bind fun t725 => (if t725 < 0 then (some false) else (if t725 = bt716.1 then (some true) else (some false)))) else (some false))))) else (some false))))) else (some false))) = some r := H
  have A11 := Aside0.mk A110
  clear A110
  replace H := Option.bind_eq_some_iff.mp H
  obtain ⟨t715, A120, H⟩ := H
  replace H : (if t715 = true then ((laws_markIntS.f k t712 1).bind fun bt716 => ((laws_heldIntS.f k bt716.2 1).bind fun t718 => (if t718 < 0 then (some false) else (if t718 = bt716.1 then ((laws_toSigns.f a0_0 a0_1).bind fun bt719 => ((impl_CutSets.f k bt719.1 bt719.2 a1).bind fun t721 => ((laws_eqIntS.f k t721 t707).bind fun t724 => (if t724 = true then ((laws_heldIntS.f k bt716.2 1).bind fun t725 => (if t725 < 0 then (some false) else (if t725 = bt716.1 then (some true) else (some false)))) else (some false))))) else (some false))))) else (some false)) = some r := H
  have A12 := Aside0.mk A120
  clear A120
  by_cases c13 : t715 = true
  ·subst c13
   have H1 : ((laws_markIntS.f k t712 1).bind fun bt716 => ((laws_heldIntS.f k bt716.2 1).bind fun t718 => (if t718 < 0 then (some false) else (if t718 = bt716.1 then ((laws_toSigns.f a0_0 a0_1).bind fun bt719 => ((impl_CutSets.f k bt719.1 bt719.2 a1).bind fun t721 => ((laws_eqIntS.f k t721 t707).bind fun t724 => (if t724 = true then ((laws_heldIntS.f k bt716.2 1).bind fun t725 => (if t725 < 0 then (some false) else (if t725 = bt716.1 then (some true) else (some false)))) else (some false))))) else (some false))))) = some r := by rw [if_pos rfl] at H; exact H
   clear H
   have H := H1
   clear H1
   replace H := Option.bind_eq_some_iff.mp H
   obtain ⟨⟨t716, t717⟩, A140, H⟩ := H
   replace H : ((laws_heldIntS.f k t717 1).bind fun t718 => (if t718 < 0 then (some false) else (if t718 = t716 then ((laws_toSigns.f a0_0 a0_1).bind fun bt719 => ((impl_CutSets.f k bt719.1 bt719.2 a1).bind fun t721 => ((laws_eqIntS.f k t721 t707).bind fun t724 => (if t724 = true then ((laws_heldIntS.f k t717 1).bind fun t725 => (if t725 < 0 then (some false) else (if t725 = t716 then (some true) else (some false)))) else (some false))))) else (some false)))) = some r := H
   have A14 := Aside0.mk A140
   clear A140
   replace H := Option.bind_eq_some_iff.mp H
   obtain ⟨t718, A150, H⟩ := H
   replace H : (if t718 < 0 then (some false) else (if t718 = t716 then ((laws_toSigns.f a0_0 a0_1).bind fun bt719 => ((impl_CutSets.f k bt719.1 bt719.2 a1).bind fun t721 => ((laws_eqIntS.f k t721 t707).bind fun t724 => (if t724 = true then ((laws_heldIntS.f k t717 1).bind fun t725 => (if t725 < 0 then (some false) else (if t725 = t716 then (some true) else (some false)))) else (some false))))) else (some false))) = some r := H
   have A15 := Aside0.mk A150
   clear A150
   by_cases c16 : t718 < 0
   ·rw [if_pos c16] at H
    have c16b0 : decide (t718 < 0) = true := decide_eq_true c16
    clear c16
    obtain rfl := Option.some.inj H
    cases hr_
   ·rw [if_neg c16] at H
    have c16b0 : decide (t718 < 0) = false := decide_eq_false c16
    clear c16
    by_cases c29 : t718 = t716
    ·rw [if_pos c29] at H
     have c29b0 : (t718 == t716) = true := beq_iff_eq.mpr c29
     have c29b1 : (t718 != t716) = false := bne_eq_false_iff_eq.mpr c29
     clear c29
     replace H := Option.bind_eq_some_iff.mp H
     obtain ⟨⟨t719, t720⟩, A300, H⟩ := H
     replace H : ((impl_CutSets.f k t719 t720 a1).bind fun t721 => ((laws_eqIntS.f k t721 t707).bind fun t724 => (if t724 = true then ((laws_heldIntS.f k t717 1).bind fun t725 => (if t725 < 0 then (some false) else (if t725 = t716 then (some true) else (some false)))) else (some false)))) = some r := H
     have A30 := Aside0.mk A300
     clear A300
     replace H := Option.bind_eq_some_iff.mp H
     obtain ⟨t721, A310, H⟩ := H
     replace H : ((laws_eqIntS.f k t721 t707).bind fun t724 => (if t724 = true then ((laws_heldIntS.f k t717 1).bind fun t725 => (if t725 < 0 then (some false) else (if t725 = t716 then (some true) else (some false)))) else (some false))) = some r := H
     have A31 := Aside0.mk A310
     clear A310
     replace H := Option.bind_eq_some_iff.mp H
     obtain ⟨t724, A320, H⟩ := H
     replace H : (if t724 = true then ((laws_heldIntS.f k t717 1).bind fun t725 => (if t725 < 0 then (some false) else (if t725 = t716 then (some true) else (some false)))) else (some false)) = some r := H
     have A32 := Aside0.mk A320
     clear A320
     by_cases c33 : t724 = true
     ·subst c33
      have H1 : ((laws_heldIntS.f k t717 1).bind fun t725 => (if t725 < 0 then (some false) else (if t725 = t716 then (some true) else (some false)))) = some r := by rw [if_pos rfl] at H; exact H
      clear H
      have H := H1
      clear H1
      replace H := Option.bind_eq_some_iff.mp H
      obtain ⟨t725, A340, H⟩ := H
      replace H : (if t725 < 0 then (some false) else (if t725 = t716 then (some true) else (some false))) = some r := H
      have A34 := Aside0.mk A340
      clear A340
      by_cases c35 : t725 < 0
      ·rw [if_pos c35] at H
       have c35b0 : decide (t725 < 0) = true := decide_eq_true c35
       clear c35
       obtain rfl := Option.some.inj H
       cases hr_
      ·rw [if_neg c35] at H
       have c35b0 : decide (t725 < 0) = false := decide_eq_false c35
       clear c35
       by_cases c52 : t725 = t716
       ·rw [if_pos c52] at H
        have c52b0 : (t725 == t716) = true := beq_iff_eq.mpr c52
        have c52b1 : (t725 != t716) = false := bne_eq_false_iff_eq.mpr c52
        clear c52
        obtain rfl := Option.some.inj H
        go_enter Try.func11, Try.ntmps11
        go_wp2_with (first | ((with_reducible refine gate_dst (N := 2) rfl ?_); refine box_event ?hg (N := 2) ?hd (cs := #[.int .i64 a0_0, .string a0_1]) (t := 23) ?hr ?_; (case hd => rfl); (case hg => rfl); (case hr => first | (go_simp; done) | (go_simp; rfl)); intro gb703 hg w53 hbox hb; have BK703 := Aside0.mk (hbox); have GW703 := Aside0.mk ((by rw [hg]; exact (below_size zB) : w.heap.size ≤ gb703)); have GE703 := Aside0.mk ((by rw [hg]; exact (below_size zB) : w.heap.size ≤ gb703)); replace HB := Aside0.mk (below_step zB hb); clear hb hbox hg; have hcz54_0 : w53.cell? ⟨gb703, 0, none⟩ = some (.int .i64 a0_0) := (blk_cell BK703.out 0).trans rfl; have hcz54_1 : w53.cell? ⟨gb703, 1, none⟩ = some (.string a0_1) := (blk_cell BK703.out 1).trans rfl; have hfz54_0 := blk_frozen BK703.out 0; have hfz54_1 := blk_frozen BK703.out 1) | ((with_reducible refine gate_callee (f := 12) rfl ?_); refine goesL_ (some 13) rfl rfl Try.func12 (by kernel_rfl) rfl #[.agg #[.int .i64 a0_0, .string a0_1], .int .i64 1048576] rfl zM ?_; (with_reducible refine (laws_szSigns.calls a0_0 a0_1 1048576 t704 _ A3.out).mono ?_); rintro e w55 ⟨rfl, hb⟩; refine ⟨_, rfl, ?_⟩; replace BK703 := Aside0.mk (blk_below (g := gb703) (o := .cells #[.int .i64 a0_0, .string a0_1] 23 (0, 0)) (zK BK703.out) hb); replace HB := Aside0.mk (below_step (zG GE703.out) hb); (try clear hb); have hcz56_0 : w55.cell? ⟨gb703, 0, none⟩ = some (.int .i64 a0_0) := (blk_cell BK703.out 0).trans rfl; have hcz56_1 : w55.cell? ⟨gb703, 1, none⟩ = some (.string a0_1) := (blk_cell BK703.out 1).trans rfl; have hfz56_0 := blk_frozen BK703.out 0; have hfz56_1 := blk_frozen BK703.out 1) | ((with_reducible refine gate_callee (f := 14) rfl ?_); refine goesL_ (some 17) rfl rfl Try.func14 (by kernel_rfl) rfl #[.agg #[.int .i64 a0_0, .string a0_1]] rfl zM ?_; (with_reducible refine (laws_toSigns.calls a0_0 a0_1 t705 t706 _ A8.out).mono ?_); rintro e w57 ⟨rfl, hb⟩; refine ⟨_, rfl, ?_⟩; replace BK703 := Aside0.mk (blk_below (g := gb703) (o := .cells #[.int .i64 a0_0, .string a0_1] 23 (0, 0)) (zK BK703.out) hb); replace HB := Aside0.mk (below_step (zG GE703.out) hb); (try clear hb)) | ((with_reducible refine gate_callee (f := 36) rfl ?_); refine goesL_ (some 19) rfl rfl Try.func36 (by kernel_rfl) rfl #[.agg #[.int .i64 t705, .string t706], .int .i64 a1] rfl zM ?_; (with_reducible refine (spec_CutSets.calls k t705 t706 a1 t707 _ A9.out).mono ?_); rintro e w58 ⟨v708, rfl, ho0, hb⟩; refine ⟨_, rfl, ?_⟩; have HO709 := Aside0.mk (Kd.R_lower ho0 (below_size (zG GE703.out))); replace BK703 := Aside0.mk (blk_below (g := gb703) (o := .cells #[.int .i64 a0_0, .string a0_1] 23 (0, 0)) (zK BK703.out) hb); replace HB := Aside0.mk (below_step (zG GE703.out) hb); (try clear hb); (try clear ho0); have hcz59_0 : w58.cell? ⟨gb703, 0, none⟩ = some (.int .i64 a0_0) := (blk_cell BK703.out 0).trans rfl; have hcz59_1 : w58.cell? ⟨gb703, 1, none⟩ = some (.string a0_1) := (blk_cell BK703.out 1).trans rfl; have hfz59_0 := blk_frozen BK703.out 0; have hfz59_1 := blk_frozen BK703.out 1) | ((with_reducible refine gate_callee (f := 14) rfl ?_); refine goesL_ (some 21) rfl rfl Try.func14 (by kernel_rfl) rfl #[.agg #[.int .i64 a0_0, .string a0_1]] rfl zM ?_; (with_reducible refine (laws_toSigns.calls a0_0 a0_1 t710 t711 _ A10.out).mono ?_); rintro e w60 ⟨rfl, hb⟩; refine ⟨_, rfl, ?_⟩; replace HO709 := Aside0.mk (Kd.R_below (zR HO709.out) hb); replace BK703 := Aside0.mk (blk_below (g := gb703) (o := .cells #[.int .i64 a0_0, .string a0_1] 23 (0, 0)) (zK BK703.out) hb); replace HB := Aside0.mk (below_step (zG GE703.out) hb); (try clear hb)) | ((with_reducible refine gate_callee (f := 37) rfl ?_); refine goesL_ (some 23) rfl rfl Try.func37 (by kernel_rfl) rfl #[.agg #[.int .i64 t710, .string t711], .int .i64 a1] rfl zM ?_; (with_reducible refine (impl_CutSets.calls k t710 t711 a1 t712 _ A11.out).mono ?_); rintro e w61 ⟨v713, rfl, ho0, hb⟩; refine ⟨_, rfl, ?_⟩; have n0_ := Aside0.mk (Kd.R_elder' (zR HO709.out) (Kd.R_base ho0) hb); have n1_ := Aside0.mk (Kd.R_lower (Kd.R_new' ho0 (Kd.R_lt (zR HO709.out))) (below_size (zG GE703.out))); have n2_ := Aside0.mk (blk_below (g := gb703) (o := .cells #[.int .i64 a0_0, .string a0_1] 23 (0, 0)) (zK BK703.out) hb); have n3_ := Aside0.mk (below_step (zG GE703.out) hb); clear HO709; clear BK703; clear HB; have HO709 := n0_; have HO714 := n1_; have BK703 := n2_; have HB := n3_; clear n0_ n1_ n2_ n3_; (try clear hb); (try clear ho0); obtain ⟨Ao62, co62, eo62⟩ := Kd.R_slice HO714.out; subst eo62; obtain ⟨Ao63, co63, eo63⟩ := Kd.R_slice HO709.out; subst eo63) | ((with_reducible refine gate_callee (f := 23) rfl ?_); refine goesL_ (some 26) rfl rfl Try.func23 (by kernel_rfl) rfl #[.slice Ao62 t712.length co62, .slice Ao63 t707.length co63] rfl zM ?_; (with_reducible refine (laws_eqIntS.calls k _ _ t712 _ _ t707 true _ ?side1 ?side2 ?side3 ?side4 A12.out).mono ?_); (case side1 => repeat (first | exact (Kd.R_reads' HO714.out).2.2 | (with_reducible refine Kd.C_alloc ?_ _) | (with_reducible refine Kd.C_drewN ?_ _) | (with_reducible refine Kd.C_drew ?_))); (case side2 => exact (Kd.R_reads' HO714.out).2.1); (case side3 => repeat (first | exact (Kd.R_reads' HO709.out).2.2 | (with_reducible refine Kd.C_alloc ?_ _) | (with_reducible refine Kd.C_drewN ?_ _) | (with_reducible refine Kd.C_drew ?_))); (case side4 => exact (Kd.R_reads' HO709.out).2.1); rintro e w' ⟨rfl, ⟨nd, rfl⟩⟩; refine ⟨_, rfl, ?_⟩) | ((with_reducible refine gate_callee (f := 24) rfl ?_); refine goesL_ (some 30) rfl rfl Try.func24 (by kernel_rfl) rfl #[.slice Ao62 t712.length co62, .int .i64 1] rfl zM ?_; (with_reducible refine (laws_markIntS.calls k (fun k_ => some k_ = (.slice Ao62 t712.length co62 : Value).ownBlock) (.slice Ao62 t712.length co62) t712 1 t716 t717 w _ ?side1 ?side2 A14.out).mono ?_); (case side1 => repeat (first | (with_reducible first | exact HB.out | apply below_alloc | apply pw_below_drewN | apply below_drew1 | refine below_set ?_ GE703.out) | exact HB.out)); (case side2 => exact Kd.R_tight rfl HO714.out); rintro e w64 ⟨rfl, hy0, hb, hkp⟩; refine ⟨_, rfl, ?_⟩; replace BK703 := Aside0.mk (blk_kept (zK BK703.out) hkp (fun hs_ => (fun e_ => (Kd.R_ne HO714.out BK703.out (by decide)) e_) hs_)); replace HO709 := Aside0.mk (Kd.R_mono (ok' := fun k_ => some k_ ≠ (.slice Ao62 t712.length co62 : Value).ownBlock) (Kd.R_keptB (HO709.out) hkp (fun k_ hk_ hs_ => (hk_.2) hs_)) (fun k_ hk_ => hk_.1.2)); replace HO714 := Aside0.mk (Kd.R_reok rfl hy0 (fun k_ e_ => HO714.out.1 k_ e_)); replace HB := Aside0.mk (hb); (try clear hb); (try clear hkp); (try clear hy0)) | ((with_reducible refine gate_callee (f := 25) rfl ?_); refine goesL_ (some 33) rfl rfl Try.func25 (by kernel_rfl) rfl #[.slice Ao62 t717.length co62, .int .i64 1] rfl (by (try simp only [List.map_toArray, List.map_cons, List.map_nil]); first | done | (rw [show t717.length = t712.length from (Kd.R_reads' HO714.out).1.symm] <;> rfl) | rfl | (simp only [List.length_drop, List.length_take]; rfl)) ?_; (with_reducible refine (laws_heldIntS.calls k _ _ t717 1 t718 _ ?side1 ?side2 A15.out).mono ?_); (case side1 => repeat (first | exact (Kd.R_reads' HO714.out).2.2 | (with_reducible refine Kd.C_alloc ?_ _) | (with_reducible refine Kd.C_drewN ?_ _) | (with_reducible refine Kd.C_drew ?_))); (case side2 => rw [show t717.length = t712.length from (Kd.R_reads' HO714.out).1.symm]; exact (Kd.R_reads' HO714.out).2.1); rintro e w' ⟨rfl, ⟨nd, rfl⟩⟩; refine ⟨_, rfl, ?_⟩; have hcz65_0 : w64.cell? ⟨gb703, 0, none⟩ = some (.int .i64 a0_0) := (blk_cell BK703.out 0).trans rfl; have hcz65_1 : w64.cell? ⟨gb703, 1, none⟩ = some (.string a0_1) := (blk_cell BK703.out 1).trans rfl; have hfz65_0 := blk_frozen BK703.out 0; have hfz65_1 := blk_frozen BK703.out 1) | ((with_reducible refine gate_callee (f := 14) rfl ?_); refine goesL_ (some 40) rfl rfl Try.func14 (by kernel_rfl) rfl #[.agg #[.int .i64 a0_0, .string a0_1]] rfl zM ?_; (with_reducible refine (laws_toSigns.calls a0_0 a0_1 t719 t720 _ A30.out).mono ?_); rintro e w66 ⟨rfl, hb⟩; refine ⟨_, rfl, ?_⟩; replace HO709 := Aside0.mk (Kd.R_below (zR HO709.out) hb); replace HO714 := Aside0.mk (Kd.R_below (zR HO714.out) hb); replace BK703 := Aside0.mk (blk_below (g := gb703) (o := .cells #[.int .i64 a0_0, .string a0_1] 23 (0, 0)) (zK BK703.out) hb); replace HB := Aside0.mk (below_step (zG GE703.out) hb); (try clear hb)) | ((with_reducible refine gate_callee (f := 37) rfl ?_); refine goesL_ (some 42) rfl rfl Try.func37 (by kernel_rfl) rfl #[.agg #[.int .i64 t719, .string t720], .int .i64 a1] rfl zM ?_; (with_reducible refine (impl_CutSets.calls k t719 t720 a1 t721 _ A31.out).mono ?_); rintro e w67 ⟨v722, rfl, ho0, hb⟩; refine ⟨_, rfl, ?_⟩; have n0_ := Aside0.mk (Kd.R_elder' (zR HO709.out) (Kd.R_base ho0) hb); have n1_ := Aside0.mk (Kd.R_elder' (zR HO714.out) (Kd.R_base ho0) hb); have n2_ := Aside0.mk (Kd.R_lower (Kd.R_new' (Kd.R_new' ho0 (Kd.R_lt (zR HO709.out))) (Kd.R_lt (zR HO714.out))) (below_size (zG GE703.out))); have n3_ := Aside0.mk (blk_below (g := gb703) (o := .cells #[.int .i64 a0_0, .string a0_1] 23 (0, 0)) (zK BK703.out) hb); have n4_ := Aside0.mk (below_step (zG GE703.out) hb); clear HO709; clear HO714; clear BK703; clear HB; have HO709 := n0_; have HO714 := n1_; have HO723 := n2_; have BK703 := n3_; have HB := n4_; clear n0_ n1_ n2_ n3_ n4_; (try clear hb); (try clear ho0); obtain ⟨Ao68, co68, eo68⟩ := Kd.R_slice HO723.out; subst eo68) | ((with_reducible refine gate_callee (f := 23) rfl ?_); refine goesL_ (some 45) rfl rfl Try.func23 (by kernel_rfl) rfl #[.slice Ao68 t721.length co68, .slice Ao63 t707.length co63] rfl zM ?_; (with_reducible refine (laws_eqIntS.calls k _ _ t721 _ _ t707 true _ ?side1 ?side2 ?side3 ?side4 A32.out).mono ?_); (case side1 => repeat (first | exact (Kd.R_reads' HO723.out).2.2 | (with_reducible refine Kd.C_alloc ?_ _) | (with_reducible refine Kd.C_drewN ?_ _) | (with_reducible refine Kd.C_drew ?_))); (case side2 => exact (Kd.R_reads' HO723.out).2.1); (case side3 => repeat (first | exact (Kd.R_reads' HO709.out).2.2 | (with_reducible refine Kd.C_alloc ?_ _) | (with_reducible refine Kd.C_drewN ?_ _) | (with_reducible refine Kd.C_drew ?_))); (case side4 => exact (Kd.R_reads' HO709.out).2.1); rintro e w' ⟨rfl, ⟨nd, rfl⟩⟩; refine ⟨_, rfl, ?_⟩) | ((with_reducible refine gate_callee (f := 25) rfl ?_); refine goesL_ (some 49) rfl rfl Try.func25 (by kernel_rfl) rfl #[.slice Ao62 t717.length co62, .int .i64 1] rfl (by (try simp only [List.map_toArray, List.map_cons, List.map_nil]); first | done | (rw [show t717.length = t712.length from (Kd.R_reads' HO714.out).1.symm] <;> rfl) | rfl | (simp only [List.length_drop, List.length_take]; rfl)) ?_; (with_reducible refine (laws_heldIntS.calls k _ _ t717 1 t725 _ ?side1 ?side2 A34.out).mono ?_); (case side1 => repeat (first | exact (Kd.R_reads' HO714.out).2.2 | (with_reducible refine Kd.C_alloc ?_ _) | (with_reducible refine Kd.C_drewN ?_ _) | (with_reducible refine Kd.C_drew ?_))); (case side2 => rw [show t717.length = t712.length from (Kd.R_reads' HO714.out).1.symm]; exact (Kd.R_reads' HO714.out).2.1); rintro e w' ⟨rfl, ⟨nd, rfl⟩⟩; refine ⟨_, rfl, ?_⟩))
        go_ret
        exact ⟨zE, zG GE703.out⟩
       ·rw [if_neg c52] at H
        have c52b0 : (t725 == t716) = false := beq_eq_false_iff_ne.mpr c52
        have c52b1 : (t725 != t716) = true := bne_iff_ne.mpr c52
        obtain rfl := Option.some.inj H
        cases hr_
     ·replace c33 := Bool.eq_false_iff.mpr c33
      subst c33
      have H1 : (some false) = some r := by rw [if_neg (show ¬ (false = true) by decide)] at H; exact H
      clear H
      have H := H1
      clear H1
      obtain rfl := Option.some.inj H
      cases hr_
    ·rw [if_neg c29] at H
     have c29b0 : (t718 == t716) = false := beq_eq_false_iff_ne.mpr c29
     have c29b1 : (t718 != t716) = true := bne_iff_ne.mpr c29
     obtain rfl := Option.some.inj H
     cases hr_
  ·replace c13 := Bool.eq_false_iff.mpr c13
   subst c13
   have H1 : (some false) = some r := by rw [if_neg (show ¬ (false = true) by decide)] at H; exact H
   clear H
   have H := H1
   clear H1
   obtain rfl := Option.some.inj H
   cases hr_
end Go.Proofs.Ytbjncemaeagjjaa.PX
namespace Go.Proofs.Ytbjncemaeagjjaa.M
open Go.RowKit Go.Proofs.YtbjncemaeagjjaaW.PrintWords Go.Proofs.Ytbjncemaeagjjaa.PX Go.Proofs.Ytbjncemaeagjjaa.G Go.Proofs.YtbjncemaeagjjaaW.PrintMore
/-- The elements that are not in a set. -/
def restN (n s : Nat) : Nat := 2 ^ n - 1 - s
def restChk : Bool := (List.range 8).all fun n => (List.range (2 ^ n)).all fun s => decide (Go.bits .andNot .i64 ((2 ^ n - 1 : Nat) : Int) (s : Int) = (restN n s : Int)) && (List.range n).all fun j => (restN n s).testBit j == !s.testBit j
theorem restChk_ok : restChk = true := by decide +kernel
theorem rest_facts {n s : Nat} (hn : n ≤ 7) (hs : s < 2 ^ n) : Go.bits .andNot .i64 ((2 ^ n - 1 : Nat) : Int) (s : Int) = (restN n s : Int) ∧ ∀ j, j < n → (restN n s).testBit j = !s.testBit j := by
  have k := List.all_eq_true.1 (List.all_eq_true.1 restChk_ok n (List.mem_range.2 (by omega))) s (List.mem_range.2 hs)
  rw [Bool.and_eq_true, decide_eq_true_eq] at k
  exact ⟨k.1, fun j hj => beq_iff_eq.1 (List.all_eq_true.1 k.2 j (List.mem_range.2 hj))⟩
def subB (P s : Nat) : Bool := decide (Go.bits .and .i64 (P : Int) (s : Int) = (P : Int))
def pairChk : Bool := (List.range 7).all fun i => (List.range 7).all fun j => decide (i = j) || (List.range 128).all fun s => subB (2 ^ i + 2 ^ j) s == (s.testBit i && s.testBit j)
theorem pairChk_ok : pairChk = true := by decide +kernel
theorem sub_pair {i j s : Nat} (hi : i < 7) (hj : j < 7) (hij : i ≠ j) (hs : s < 128) : subB (2 ^ i + 2 ^ j) s = (s.testBit i && s.testBit j) := by
  have k := List.all_eq_true.1 (List.all_eq_true.1 pairChk_ok i (List.mem_range.2 hi)) j (List.mem_range.2 hj)
  rw [Bool.or_eq_true, decide_eq_true_eq] at k
  exact beq_iff_eq.1 (List.all_eq_true.1 (k.resolve_left hij) s (List.mem_range.2 hs))
def splChk : Bool := (List.range 7).all fun a => (List.range 7).all fun b => (List.range 7).all fun c => (List.range 7).all fun d => !dist4 a b c d || twos.all fun p => twos.all fun q => twos.all fun r =>
  (decide ((splitN p q r a b c d).1 = 2 ^ a + 2 ^ b) == (p && !q && !r)) && (decide (popN (splitN p q r a b c d).1 = 2) == ((p && !q && !r) || (q && !p && !r) || (r && !p && !q)))
theorem splChk_ok : splChk = true := by decide +kernel
theorem twos_mem (b : Bool) : b ∈ twos := by cases b <;> decide
theorem spl_facts {a b c d : Nat} (ha : a < 7) (hb : b < 7) (hc : c < 7) (hd : d < 7) (h : dist4 a b c d = true) (p q r : Bool) :
    decide ((splitN p q r a b c d).1 = 2 ^ a + 2 ^ b) = (p && !q && !r) ∧ decide (popN (splitN p q r a b c d).1 = 2) = ((p && !q && !r) || (q && !p && !r) || (r && !p && !q)) := by
  have g := List.all_eq_true.1 splChk_ok a (List.mem_range.2 ha)
  have g := List.all_eq_true.1 g b (List.mem_range.2 hb)
  have g := List.all_eq_true.1 g c (List.mem_range.2 hc)
  have g := List.all_eq_true.1 g d (List.mem_range.2 hd)
  rw [h, Bool.not_true, Bool.false_or] at g
  have g := List.all_eq_true.1 g p (twos_mem p)
  have g := List.all_eq_true.1 g q (twos_mem q)
  have g := List.all_eq_true.1 g r (twos_mem r)
  rw [Bool.and_eq_true, beq_iff_eq, beq_iff_eq] at g
  exact g
/-- Do the segments xy and zw cross? -/
def crossV (n : Nat) (t : ByteArray) (x y z w : Nat) : Bool := decide (-(chi n t y z w) * chi n t x z w > 0) && !decide (chi n t y z w * chi n t x y w > 0) && !decide (-(chi n t y z w) * chi n t x y z > 0)
/-- Is one of two pairs in a set, and the other out of it? -/
def sideB (s x y z w : Nat) : Bool := (s.testBit x && s.testBit y && !s.testBit z && !s.testBit w) || (s.testBit z && s.testBit w && !s.testBit x && !s.testBit y)
theorem side_swap (s x y z w : Nat) : sideB s x y z w = sideB s z w x y := by unfold sideB; rw [Bool.or_comm]
section
variable {n : Nat} (t : ByteArray) (h0 : 3 ≤ n) (h1 : n ≤ 7) {a b c d : Nat} (ha : a < n) (hb : b < n) (hc : c < n) (hd : d < n) (e1 : a ≠ b) (e2 : a ≠ c) (e3 : a ≠ d) (e4 : b ≠ c) (e5 : b ≠ d) (e6 : c ≠ d)
include h0 h1 ha hb hc hd e1 e2 e3 e4 e5 e6
theorem cross_swap : crossV n t c d a b = crossV n t a b c d := by
  have s1 := chi_swap1 t h0 h1 (show a < 7 by omega) (show d < 7 by omega) (show b < 7 by omega)
  have s2 := chi_swap2 t h0 h1 (show a < 7 by omega) (show b < 7 by omega) (show d < 7 by omega)
  have s3 := chi_swap1 t h0 h1 (show a < 7 by omega) (show c < 7 by omega) (show b < 7 by omega)
  have s4 := chi_swap2 t h0 h1 (show a < 7 by omega) (show b < 7 by omega) (show c < 7 by omega)
  have s5 := chi_swap2 t h0 h1 (show c < 7 by omega) (show b < 7 by omega) (show d < 7 by omega)
  have s6 := chi_swap1 t h0 h1 (show b < 7 by omega) (show c < 7 by omega) (show d < 7 by omega)
  have s7 := chi_swap2 t h0 h1 (show c < 7 by omega) (show a < 7 by omega) (show d < 7 by omega)
  have s8 := chi_swap1 t h0 h1 (show a < 7 by omega) (show c < 7 by omega) (show d < 7 by omega)
  unfold crossV
  rw [s1, s2, s3, s4, s5, s6, s7, s8]
  rcases chi_pm t h0 h1 ha hb hc e1 e4 e2 with w | w <;> rcases chi_pm t h0 h1 ha hb hd e1 e5 e3 with x | x <;> rcases chi_pm t h0 h1 ha hc hd e2 e6 e3 with y | y <;> rcases chi_pm t h0 h1 hb hc hd e4 e6 e5 with z | z <;> rw [w, x, y, z] <;> decide
theorem cross_q : crossV n t a c b d = (decide (chi n t b c d * chi n t a b d > 0) && !decide (-(chi n t b c d) * chi n t a c d > 0) && !decide (-(chi n t b c d) * chi n t a b c > 0)) := by
  have s4 := chi_swap2 t h0 h1 (show a < 7 by omega) (show b < 7 by omega) (show c < 7 by omega)
  have s6 := chi_swap1 t h0 h1 (show b < 7 by omega) (show c < 7 by omega) (show d < 7 by omega)
  unfold crossV
  rw [s4, s6]
  rcases chi_pm t h0 h1 ha hb hc e1 e4 e2 with w | w <;> rcases chi_pm t h0 h1 ha hb hd e1 e5 e3 with x | x <;> rcases chi_pm t h0 h1 ha hc hd e2 e6 e3 with y | y <;> rcases chi_pm t h0 h1 hb hc hd e4 e6 e5 with z | z <;> rw [w, x, y, z] <;> decide
theorem cross_r : crossV n t a d b c = (decide (-(chi n t b c d) * chi n t a b c > 0) && !decide (-(chi n t b c d) * chi n t a c d > 0) && !decide (chi n t b c d * chi n t a b d > 0)) := by
  have s1 := chi_swap1 t h0 h1 (show b < 7 by omega) (show d < 7 by omega) (show c < 7 by omega)
  have s2 := chi_swap2 t h0 h1 (show b < 7 by omega) (show c < 7 by omega) (show d < 7 by omega)
  have s3 := chi_swap2 t h0 h1 (show a < 7 by omega) (show c < 7 by omega) (show d < 7 by omega)
  have s4 := chi_swap2 t h0 h1 (show a < 7 by omega) (show b < 7 by omega) (show d < 7 by omega)
  unfold crossV
  rw [s1, s2, s3, s4]
  rcases chi_pm t h0 h1 ha hb hc e1 e4 e2 with w | w <;> rcases chi_pm t h0 h1 ha hb hd e1 e5 e3 with x | x <;> rcases chi_pm t h0 h1 ha hc hd e2 e6 e3 with y | y <;> rcases chi_pm t h0 h1 hb hc hd e4 e6 e5 with z | z <;> rw [w, x, y, z] <;> decide
end
/-- Does a four's circuit cut across a set and its rest? -/
def quadCut (n : Nat) (t : ByteArray) (s : Nat) (q : Nat × Nat × Nat × Nat) : Bool :=
  decide (popN (splitV n t q.1 q.2.1 q.2.2.1 q.2.2.2).1 = 2) && ((subB (splitV n t q.1 q.2.1 q.2.2.1 q.2.2.2).1 s && subB (splitV n t q.1 q.2.1 q.2.2.1 q.2.2.2).2 (restN n s)) || (subB (splitV n t q.1 q.2.1 q.2.2.1 q.2.2.2).2 s && subB (splitV n t q.1 q.2.1 q.2.2.1 q.2.2.2).1 (restN n s)))
def apartQ (n : Nat) (t : ByteArray) (s : Nat) (q r : Nat × Nat) : Bool :=
  (s.testBit q.1 && s.testBit q.2 && !s.testBit r.1 && !s.testBit r.2) && decide ((splitV n t q.1 q.2 r.1 r.2).1 = 2 ^ q.1 + 2 ^ q.2)
theorem quadCut_eq {n : Nat} (t : ByteArray) {s : Nat} (h0 : 3 ≤ n) (h1 : n ≤ 7) (hs : s < 2 ^ n) {a b c d : Nat} (hab : a < b) (hbc : b < c) (hcd : c < d) (hd : d < n) :
    quadCut n t s (a, b, c, d) = ((crossV n t a b c d && sideB s a b c d) || (crossV n t a c b d && sideB s a c b d) || (crossV n t a d b c && sideB s a d b c)) := by
  have hp := pow_128 (show n ≤ 7 by omega)
  have hr : restN n s < 128 := by unfold restN; omega
  have hbit := (rest_facts h1 hs).2
  rw [cross_q t h0 h1 (show a < n by omega) (show b < n by omega) (show c < n by omega) hd (by omega) (by omega) (by omega) (by omega) (by omega) (by omega), cross_r t h0 h1 (show a < n by omega) (show b < n by omega) (show c < n by omega) hd (by omega) (by omega) (by omega) (by omega) (by omega) (by omega)]
  unfold quadCut crossV splitV
  simp only
  generalize decide (-(chi n t b c d) * chi n t a c d > 0) = p
  generalize decide (chi n t b c d * chi n t a b d > 0) = q
  generalize decide (-(chi n t b c d) * chi n t a b c > 0) = r
  rw [(spl_facts (show a < 7 by omega) (show b < 7 by omega) (show c < 7 by omega) (show d < 7 by omega) (dist4_iff.2 (by omega)) p q r).2]
  have f : ∀ i j k l : Nat, i < n → j < n → k < n → l < n → i ≠ j → k ≠ l → (subB (2 ^ i + 2 ^ j) s && subB (2 ^ k + 2 ^ l) (restN n s) || subB (2 ^ k + 2 ^ l) s && subB (2 ^ i + 2 ^ j) (restN n s)) = sideB s i j k l := by
    intro i j k l hi hj hk hl hij hkl
    rw [sub_pair (by omega) (by omega) hij (by omega), sub_pair (by omega) (by omega) hkl hr, sub_pair (by omega) (by omega) hkl (by omega), sub_pair (by omega) (by omega) hij hr, hbit i hi, hbit j hj, hbit k hk, hbit l hl]
    unfold sideB
    rw [Bool.and_assoc, Bool.and_assoc, Bool.and_assoc, Bool.and_assoc, Bool.and_assoc, Bool.and_assoc]
  have f1 := f a b c d (by omega) (by omega) (by omega) hd (by omega) (by omega)
  have f2 := f a c b d (by omega) (by omega) (by omega) hd (by omega) (by omega)
  have f3 := f a d b c (by omega) hd (by omega) (by omega) (by omega) (by omega)
  cases p <;> cases q <;> cases r <;> simp only [splitN, if_true, if_false, Bool.false_eq_true, Nat.add_zero, Nat.zero_add, Bool.and_false, Bool.false_and, Bool.and_true, Bool.true_and, Bool.or_false, Bool.false_or, Bool.not_true, Bool.not_false, Bool.true_or, Bool.or_true] <;> first | rfl | exact f1 | exact f2 | exact f3
theorem apart_eq {n : Nat} (t : ByteArray) {s : Nat} (h1 : n ≤ 7) {x y z w : Nat} (hx : x < n) (hy : y < n) (hz : z < n) (hw : w < n) (e1 : x ≠ y) (e6 : z ≠ w) :
    apartQ n t s (x, y) (z, w) = true ↔ (s.testBit x = true ∧ s.testBit y = true ∧ s.testBit z = false ∧ s.testBit w = false) ∧ crossV n t x y z w = true := by
  unfold apartQ
  simp only [Bool.and_eq_true, Bool.not_eq_true']
  constructor
  · rintro ⟨⟨⟨⟨b1, b2⟩, b3⟩, b4⟩, g⟩
    have ne : ∀ i j : Nat, s.testBit i = true → s.testBit j = false → i ≠ j := fun i j hi hj e => by rw [e, hj] at hi; cases hi
    refine ⟨⟨b1, b2, b3, b4⟩, ?_⟩
    unfold splitV at g
    rw [(spl_facts (show x < 7 by omega) (show y < 7 by omega) (show z < 7 by omega) (show w < 7 by omega) (dist4_iff.2 ⟨e1, ne _ _ b1 b3, ne _ _ b1 b4, ne _ _ b2 b3, ne _ _ b2 b4, e6⟩) _ _ _).1] at g
    exact g
  · rintro ⟨⟨b1, b2, b3, b4⟩, g⟩
    have ne : ∀ i j : Nat, s.testBit i = true → s.testBit j = false → i ≠ j := fun i j hi hj e => by rw [e, hj] at hi; cases hi
    refine ⟨⟨⟨⟨b1, b2⟩, b3⟩, b4⟩, ?_⟩
    unfold splitV
    rw [(spl_facts (show x < 7 by omega) (show y < 7 by omega) (show z < 7 by omega) (show w < 7 by omega) (dist4_iff.2 ⟨e1, ne _ _ b1 b3, ne _ _ b1 b4, ne _ _ b2 b3, ne _ _ b2 b4, e6⟩) _ _ _).1]
    exact g
theorem side_iff (s x y z w : Nat) : sideB s x y z w = true ↔ (s.testBit x = true ∧ s.testBit y = true ∧ s.testBit z = false ∧ s.testBit w = false) ∨ (s.testBit z = true ∧ s.testBit w = true ∧ s.testBit x = false ∧ s.testBit y = false) := by
  simp only [sideB, Bool.or_eq_true, Bool.and_eq_true, Bool.not_eq_true', and_assoc]
theorem cut_eq {n : Nat} (t : ByteArray) {s : Nat} (h0 : 3 ≤ n) (h1 : n ≤ 7) (hs : s < 2 ^ n) : ((quadsL n).any (quadCut n t s)) = (pairsL n).any fun q => (pairsL n).any (apartQ n t s q) := by
  rw [Bool.eq_iff_iff]
  constructor
  · intro h
    obtain ⟨⟨a, b, c, d⟩, hm, hq⟩ := List.any_eq_true.1 h
    obtain ⟨hab, hbc, hcd, hd⟩ := mem_quads hm
    rw [quadCut_eq t h0 h1 hs hab hbc hcd hd] at hq
    have fin : ∀ x y z w : Nat, x < y → z < w → y < n → w < n → x ≠ z → x ≠ w → y ≠ z → y ≠ w → crossV n t x y z w = true → sideB s x y z w = true → ((pairsL n).any fun q => (pairsL n).any (apartQ n t s q)) = true := by
      intro x y z w hxy hzw hy hw d1 d2 d3 d4 g1 g2
      rcases (side_iff s x y z w).1 g2 with hb | hb
      · exact List.any_eq_true.2 ⟨(x, y), pairs_mem hxy hy, List.any_eq_true.2 ⟨(z, w), pairs_mem hzw hw, (apart_eq t h1 (by omega) hy (by omega) hw (by omega) (by omega)).2 ⟨hb, g1⟩⟩⟩
      · rw [← cross_swap t h0 h1 (show x < n by omega) hy (show z < n by omega) hw (by omega) d1 d2 d3 d4 (by omega)] at g1
        exact List.any_eq_true.2 ⟨(z, w), pairs_mem hzw hw, List.any_eq_true.2 ⟨(x, y), pairs_mem hxy hy, (apart_eq t h1 (by omega) hw (by omega) hy (by omega) (by omega)).2 ⟨hb, g1⟩⟩⟩
    simp only [Bool.or_eq_true, Bool.and_eq_true] at hq
    rcases hq with (⟨g1, g2⟩ | ⟨g1, g2⟩) | ⟨g1, g2⟩
    · exact fin a b c d hab hcd (by omega) hd (by omega) (by omega) (by omega) (by omega) g1 g2
    · exact fin a c b d (by omega) (by omega) (by omega) hd (by omega) (by omega) (by omega) (by omega) g1 g2
    · exact fin a d b c (by omega) hbc (by omega) (by omega) (by omega) (by omega) (by omega) (by omega) g1 g2
  · intro h
    obtain ⟨⟨x, y⟩, hm, hq⟩ := List.any_eq_true.1 h
    obtain ⟨⟨z, w⟩, hm', hq⟩ := List.any_eq_true.1 hq
    obtain ⟨hxy, hy⟩ := mem_pairs hm
    obtain ⟨hzw, hw⟩ := mem_pairs hm'
    obtain ⟨⟨b1, b2, b3, b4⟩, g⟩ := (apart_eq t h1 (by omega) hy (by omega) hw (by omega) (by omega)).1 hq
    have ne : ∀ i j : Nat, s.testBit i = true → s.testBit j = false → i ≠ j := fun i j hi hj e => by rw [e, hj] at hi; cases hi
    have d1 := ne _ _ b1 b3
    have d2 := ne _ _ b1 b4
    have d3 := ne _ _ b2 b3
    have d4 := ne _ _ b2 b4
    have fin : ∀ x y z w : Nat, x < y → z < w → y < n → w < n → x < z → x ≠ w → y ≠ z → y ≠ w → crossV n t x y z w = true → sideB s x y z w = true → ((quadsL n).any (quadCut n t s)) = true := by
      intro x y z w hxy hzw hy hw hxz d2 d3 d4 g1 g2
      by_cases o1 : y < z
      · refine List.any_eq_true.2 ⟨(x, y, z, w), quads_mem hxy o1 hzw hw, ?_⟩
        rw [quadCut_eq t h0 h1 hs hxy o1 hzw hw, g1, g2]
        rfl
      · by_cases o2 : y < w
        · refine List.any_eq_true.2 ⟨(x, z, y, w), quads_mem hxz (by omega) o2 hw, ?_⟩
          rw [quadCut_eq t h0 h1 hs hxz (by omega) o2 hw, g1, g2]
          simp only [Bool.and_self, Bool.or_true, Bool.true_or]
        · refine List.any_eq_true.2 ⟨(x, z, w, y), quads_mem hxz hzw (by omega) hy, ?_⟩
          rw [quadCut_eq t h0 h1 hs hxz hzw (by omega) hy, g1, g2]
          simp only [Bool.and_self, Bool.or_true]
    by_cases o : x < z
    · exact fin x y z w hxy hzw hy hw o d2 d3 d4 g ((side_iff _ _ _ _ _).2 (.inl ⟨b1, b2, b3, b4⟩))
    · rw [← cross_swap t h0 h1 (show x < n by omega) hy (show z < n by omega) hw (by omega) d1 d2 d3 d4 (by omega)] at g
      exact fin z w x y hzw hxy hw hy (by omega) (by omega) (by omega) (by omega) g ((side_iff _ _ _ _ _).2 (.inr ⟨b1, b2, b3, b4⟩))
end Go.Proofs.Ytbjncemaeagjjaa.M
namespace Go.Proofs.Ytbjncemaeagjjaa.M
open Go.RowKit Go.Proofs.YtbjncemaeagjjaaW.PrintWords Go.Proofs.Ytbjncemaeagjjaa.PX Go.Proofs.Ytbjncemaeagjjaa.G Go.Proofs.YtbjncemaeagjjaaW.PrintMore
/-- Is an element within the other side's hull? -/
def nearQ (n : Nat) (t : ByteArray) (s x : Nat) : Bool := if s.testBit x = true then inB n t (restN n s) x else inB n t s x
def cutB (n : Nat) (t : ByteArray) (s : Nat) : Bool := !((List.range' 0 (n - 0)).any (nearQ n t s)) && !((quadsL n).any (quadCut n t s))
section
variable {n : Nat} {t : ByteArray} (h : areOk n t = true)
include h
theorem impl_cut {s : Nat} (hs : s < 2 ^ n) : Ev (fun k => impl_chi_isCut.f k (tblL n t) (s : Int)) (cutB n t s) := by
  obtain ⟨⟨h0, h1⟩, _, _⟩ := (areOk_iff _ _).1 h
  have h0 : 3 ≤ n := by omega
  have h1 : n ≤ 7 := by omega
  have hp := pow_128 h1
  obtain ⟨hr, hbit⟩ := rest_facts h1 hs
  have hr7 : restN n s < 128 := by unfold restN; omega
  obtain ⟨hq, hq35⟩ := quadQ_L h0 h1
  unfold impl_chi_isCut.f
  rw [tbl_n]
  refine ev_call (fullSet_f h1) ?_
  rw [hr]
  have quads : Ev (fun k => impl_chi_isCut.l1 k (tblL n t) (s : Int) (restN n s : Int) ((quadsL n).map toS4) (((quadsL n).map toS4).length : Int) 0) (!((quadsL n).any (quadCut n t s))) := by
    have hl : ((quadsL n).map toS4).length = (quadsL n).length := List.length_map ..
    have key := loop_up (σ := Unit) (ρ := Bool) (lo := 0) (n := (quadsL n).length) (K := fun _ _ => some true) (L := fun i _ k => impl_chi_isCut.l1 k (tblL n t) (s : Int) (restN n s : Int) ((quadsL n).map toS4) (((quadsL n).map toS4).length : Int) i)
      (fun _ i => if quadCut n t s ((quadsL n).getD i (0, 0, 0, 0)) then .error false else .ok ()) (fun u => ?_) (fun i _ hi u => ?_) (by omega) ()
    · rw [foldlM_index (0, 0, 0, 0) (fun (_ : Unit) (q : Nat × Nat × Nat × Nat) => (if quadCut n t s q then .error false else .ok () : Except Bool Unit)), foldlM_any (quadCut n t s)] at key
      cases hq : (quadsL n).any (quadCut n t s) with
      | true => rw [hq] at key; exact key
      | false => rw [hq] at key; exact key _ (Ev.now _)
    · refine Goes.step ?_
      simp only [impl_chi_isCut.l1]
      exact Goes.neg (by omega) (Goes.ok (K := fun _ _ => some true) u)
    · have hg : (quadsL n).getD i (0, 0, 0, 0) = (quadsL n)[i] := by rw [List.getD_eq_getElem?_getD, List.getElem?_eq_getElem hi]; rfl
      have hm := List.getElem_mem hi
      rw [hg]
      refine Goes.step ?_
      simp only [impl_chi_isCut.l1, rd_toS4 hi]
      generalize (quadsL n)[i] = q at *
      obtain ⟨a, b, c, d⟩ := q
      obtain ⟨hab, hbc, hcd, hd⟩ := mem_quads hm
      simp only [toS4]
      have hlt := splitV_lt (n := n) t (show a < 7 by omega) (show b < 7 by omega) (show c < 7 by omega) (show d < 7 by omega) (dist4_iff.2 (by omega))
      refine Goes.pos (by omega) (Goes.pos (by omega) (Goes.pos (by omega) (Goes.ev (impl_split h (by omega) (by omega) (by omega) hd (dist4_iff.2 (by omega))) (Goes.call (ones_f hlt.1) ?_))))
      rw [wrap_id (by omega) (by omega)]
      have nx : Goes (.ok ()) (fun (_ : Unit) k => impl_chi_isCut.l1 k (tblL n t) (s : Int) (restN n s : Int) ((quadsL n).map toS4) (((quadsL n).map toS4).length : Int) ((i + 1 : Nat) : Int)) (fun k => impl_chi_isCut.l1 k (tblL n t) (s : Int) (restN n s : Int) ((quadsL n).map toS4) (((quadsL n).map toS4).length : Int) ((i + 1 : Nat) : Int)) := Goes.ok (K := fun (_ : Unit) k => impl_chi_isCut.l1 k (tblL n t) (s : Int) (restN n s : Int) ((quadsL n).map toS4) (((quadsL n).map toS4).length : Int) ((i + 1 : Nat) : Int)) ()
      unfold quadCut subB
      simp only
      by_cases g0 : popN (splitV n t a b c d).1 = 2
      · rw [decide_eq_true g0, Bool.true_and]
        refine Goes.pos (by omega) ?_
        by_cases g1 : Go.bits .and .i64 ((splitV n t a b c d).1 : Int) (s : Int) = ((splitV n t a b c d).1 : Int)
        · rw [decide_eq_true g1, Bool.true_and]
          refine Goes.pos g1 ?_
          by_cases g2 : Go.bits .and .i64 ((splitV n t a b c d).2 : Int) (restN n s : Int) = ((splitV n t a b c d).2 : Int)
          · rw [decide_eq_true g2, Bool.true_or]
            exact Goes.pos g2 (Goes.ret _)
          · rw [decide_eq_false g2, Bool.false_or]
            refine Goes.neg g2 ?_
            by_cases g3 : Go.bits .and .i64 ((splitV n t a b c d).2 : Int) (s : Int) = ((splitV n t a b c d).2 : Int)
            · rw [decide_eq_true g3, Bool.true_and]
              refine Goes.pos g3 ?_
              by_cases g4 : Go.bits .and .i64 ((splitV n t a b c d).1 : Int) (restN n s : Int) = ((splitV n t a b c d).1 : Int)
              · rw [decide_eq_true g4]
                exact Goes.pos g4 (Goes.ret _)
              · rw [decide_eq_false g4]
                exact Goes.neg g4 nx
            · rw [decide_eq_false g3, Bool.false_and]
              exact Goes.neg g3 nx
        · rw [decide_eq_false g1, Bool.false_and, Bool.false_or]
          refine Goes.neg g1 ?_
          by_cases g3 : Go.bits .and .i64 ((splitV n t a b c d).2 : Int) (s : Int) = ((splitV n t a b c d).2 : Int)
          · rw [decide_eq_true g3, Bool.true_and]
            refine Goes.pos g3 ?_
            by_cases g4 : Go.bits .and .i64 ((splitV n t a b c d).1 : Int) (restN n s : Int) = ((splitV n t a b c d).1 : Int)
            · rw [decide_eq_true g4]
              exact Goes.pos g4 (Goes.ret _)
            · rw [decide_eq_false g4]
              exact Goes.neg g4 nx
          · rw [decide_eq_false g3, Bool.false_and]
            exact Goes.neg g3 nx
      · rw [decide_eq_false g0, Bool.false_and]
        exact Goes.neg (by omega) nx
  have key := loop_up (σ := Unit) (ρ := Bool) (lo := 0) (n := n) (K := fun _ k => (impl_quadsOf.f k (n : Int)).bind fun t684 => impl_chi_isCut.l1 k (tblL n t) (s : Int) (restN n s : Int) t684 (t684.length : Int) 0) (L := fun x _ k => impl_chi_isCut.l0 k (tblL n t) (s : Int) (restN n s : Int) x)
    (fun _ x => if nearQ n t s x then .error false else .ok ()) (fun u => ?_) (fun x _ hx u => ?_) (by omega) ()
  · rw [foldlM_any (nearQ n t s)] at key
    unfold cutB
    cases hn : (List.range' 0 (n - 0)).any (nearQ n t s) with
    | true => rw [hn] at key; exact key
    | false =>
      rw [hn] at key
      rw [Bool.not_false, Bool.true_and]
      refine key _ (Ev.bind (quads_ev h0 h1) ?_)
      rw [hq]
      exact quads
  · refine Goes.step ?_
    simp only [impl_chi_isCut.l0, tbl_n]
    exact Goes.neg (by omega) (Goes.ok (K := fun (_ : Unit) k => (impl_quadsOf.f k (n : Int)).bind fun t684 => impl_chi_isCut.l1 k (tblL n t) (s : Int) (restN n s : Int) t684 (t684.length : Int) 0) u)
  · have eb := bitQ_eq (s := s) (k := x) (by omega) (by omega)
    unfold bitQ at eb
    refine Goes.step ?_
    simp only [impl_chi_isCut.l0, tbl_n]
    rw [eb, wrap_id (x := (x : Int) + 1) (by omega) (by omega)]
    refine Goes.pos (by omega) (Goes.pos (by omega) ?_)
    cases hb : s.testBit x with
    | true =>
      have e : nearQ n t s x = inB n t (restN n s) x := by unfold nearQ; rw [hb]; rfl
      rw [e]
      refine Goes.pos (by rfl) (Goes.ev (impl_inHull h hr7 hx (by rw [hbit x hx, hb]; rfl)) ?_)
      cases inB n t (restN n s) x with
      | true => exact Goes.pos rfl (Goes.ret _)
      | false => exact Goes.neg (by decide) (Goes.ok (K := fun (_ : Unit) k => impl_chi_isCut.l0 k (tblL n t) (s : Int) (restN n s : Int) ((x + 1 : Nat) : Int)) u)
    | false =>
      have e : nearQ n t s x = inB n t s x := by unfold nearQ; rw [hb]; rfl
      rw [e]
      refine Goes.neg (by decide) (Goes.ev (impl_inHull h (show s < 128 by omega) hx hb) ?_)
      cases inB n t s x with
      | true => exact Goes.pos rfl (Goes.ret _)
      | false => exact Goes.neg (by decide) (Goes.ok (K := fun (_ : Unit) k => impl_chi_isCut.l0 k (tblL n t) (s : Int) (restN n s : Int) ((x + 1 : Nat) : Int)) u)
end
end Go.Proofs.Ytbjncemaeagjjaa.M
namespace Go.Proofs.Ytbjncemaeagjjaa.M
open Go.RowKit Go.Proofs.YtbjncemaeagjjaaW.PrintWords Go.Proofs.Ytbjncemaeagjjaa.PX Go.Proofs.Ytbjncemaeagjjaa.G Go.Proofs.YtbjncemaeagjjaaW.PrintMore
section
variable {n : Nat} {t : ByteArray} (h : areOk n t = true)
include h
theorem spec_cut {s : Nat} (hs : s < 2 ^ n) : Ev (fun k => spec_l7Apart.f k (n : Int) t (s : Int)) (cutB n t s) := by
  obtain ⟨⟨h0, h1⟩, _, _⟩ := (areOk_iff _ _).1 h
  have h0 : 3 ≤ n := by omega
  have h1 : n ≤ 7 := by omega
  have hp := pow_128 h1
  have hpos : 0 < 2 ^ n := Nat.pow_pos (by omega)
  obtain ⟨hr, hbit⟩ := rest_facts h1 hs
  have hr7 : restN n s < 128 := by unfold restN; omega
  unfold spec_l7Apart.f
  rw [u64_id h1, full_ev h1, wrap_id (by omega) (by omega), show ((2 ^ n - 1 : Nat) : Int) - (s : Int) = (restN n s : Int) by unfold restN; omega]
  refine ev_pos (by omega) ?_
  have quads : Ev (fun k => spec_l7Apart.l1 k (s : Int) 0 (n : Int) t) (!((quadsL n).any (quadCut n t s))) := by
    rw [cut_eq t h0 h1 hs]
    have key := loops2 (n := n) (σ := Unit) (ρ := Bool) (K := fun _ _ => some true) (L0 := fun a _ k => spec_l7Apart.l1 k (s : Int) a (n : Int) t) (L1 := fun a b _ k => spec_l7Apart.l2 k (s : Int) a b (n : Int) t)
      (fun _ q => if (pairsL n).any (apartQ n t s q) then .error false else .ok ()) (fun u => ?_) (fun a hn u => ?_) (fun a hn u => ?_) (fun a b hab hb u => ?_) ()
    · rw [foldlM_any (fun q => (pairsL n).any (apartQ n t s q))] at key
      cases hq : (pairsL n).any fun q => (pairsL n).any (apartQ n t s q) with
      | true => rw [hq] at key; exact key
      | false => rw [hq] at key; exact key _ (Ev.now _)
    · refine Goes.step ?_
      simp only [spec_l7Apart.l1]
      exact Goes.neg (by omega) (Goes.ok (K := fun _ _ => some true) u)
    · refine Goes.step ?_
      simp only [spec_l7Apart.l1]
      rw [wrap_id (x := (a : Int) + 1) (by omega) (by omega)]
      exact Goes.pos (by omega) (Goes.ok (K := fun (_ : Unit) k => spec_l7Apart.l2 k (s : Int) (a : Int) ((a + 1 : Nat) : Int) (n : Int) t) u)
    · refine Goes.step ?_
      simp only [spec_l7Apart.l2]
      rw [wrap_id (x := (a : Int) + 1) (by omega) (by omega)]
      exact Goes.neg (by omega) (Goes.ok (K := fun (_ : Unit) k => spec_l7Apart.l1 k (s : Int) ((a + 1 : Nat) : Int) (n : Int) t) u)
    · refine Goes.step ?_
      simp only [spec_l7Apart.l2]
      refine Goes.pos (by omega) ?_
      have inner := loops2 (n := n) (σ := Unit) (ρ := Bool) (K := fun _ k => spec_l7Apart.l2 k (s : Int) (a : Int) ((b + 1 : Nat) : Int) (n : Int) t) (L0 := fun c _ k => spec_l7Apart.l3 k (s : Int) (a : Int) (b : Int) c (n : Int) t) (L1 := fun c d _ k => spec_l7Apart.l4 k (s : Int) (a : Int) (b : Int) c d (n : Int) t)
        (fun _ q => if apartQ n t s (a, b) q then .error false else .ok ()) (fun u => ?_) (fun c hn u => ?_) (fun c hn u => ?_) (fun c d hcd hd u => ?_) ()
      · rw [foldlM_any (apartQ n t s (a, b))] at inner
        exact inner
      · refine Goes.step ?_
        simp only [spec_l7Apart.l3]
        rw [wrap_id (x := (b : Int) + 1) (by omega) (by omega)]
        exact Goes.neg (by omega) (Goes.ok (K := fun (_ : Unit) k => spec_l7Apart.l2 k (s : Int) (a : Int) ((b + 1 : Nat) : Int) (n : Int) t) u)
      · refine Goes.step ?_
        simp only [spec_l7Apart.l3]
        rw [wrap_id (x := (c : Int) + 1) (by omega) (by omega)]
        exact Goes.pos (by omega) (Goes.ok (K := fun (_ : Unit) k => spec_l7Apart.l4 k (s : Int) (a : Int) (b : Int) (c : Int) ((c + 1 : Nat) : Int) (n : Int) t) u)
      · refine Goes.step ?_
        simp only [spec_l7Apart.l4]
        rw [wrap_id (x := (c : Int) + 1) (by omega) (by omega)]
        exact Goes.neg (by omega) (Goes.ok (K := fun (_ : Unit) k => spec_l7Apart.l3 k (s : Int) (a : Int) (b : Int) ((c + 1 : Nat) : Int) (n : Int) t) u)
      · have nx : Goes (.ok ()) (fun (_ : Unit) k => spec_l7Apart.l4 k (s : Int) (a : Int) (b : Int) (c : Int) ((d + 1 : Nat) : Int) (n : Int) t) (fun k => spec_l7Apart.j5 k (s : Int) (a : Int) (b : Int) (c : Int) (d : Int) true (n : Int) t) := by
          refine Goes.step ?_
          simp only [spec_l7Apart.j5]
          rw [wrap_id (x := (d : Int) + 1) (by omega) (by omega)]
          exact Goes.pos (by first | rfl | trivial) (Goes.ok (K := fun (_ : Unit) k => spec_l7Apart.l4 k (s : Int) (a : Int) (b : Int) (c : Int) ((d + 1 : Nat) : Int) (n : Int) t) ())
        refine Goes.step ?_
        simp only [spec_l7Apart.l4]
        refine Goes.pos (by omega) (Goes.call (has_ev (by omega) (by omega)) ?_)
        unfold apartQ
        simp only
        cases g1 : s.testBit a with
        | false => exact Goes.neg (by decide) nx
        | true =>
          refine Goes.pos rfl (Goes.call (has_ev (by omega) (by omega)) ?_)
          cases g2 : s.testBit b with
          | false => exact Goes.neg (by decide) nx
          | true =>
            refine Goes.pos rfl (Goes.call (has_ev (by omega) (by omega)) ?_)
            cases g3 : s.testBit c with
            | true => exact Goes.pos rfl nx
            | false =>
              refine Goes.neg (by decide) (Goes.call (has_ev (by omega) (by omega)) ?_)
              cases g4 : s.testBit d with
              | true => exact nx
              | false =>
                have ne : ∀ i j : Nat, s.testBit i = true → s.testBit j = false → i ≠ j := fun i j hi hj e => by rw [e, hj] at hi; cases hi
                have d1 := ne _ _ g1 g3
                have d2 := ne _ _ g1 g4
                have d3 := ne _ _ g2 g3
                have d4 := ne _ _ g2 g4
                refine Goes.step ?_
                simp only [spec_l7Apart.j5]
                have p1 := pow_128 (show a ≤ 7 by omega)
                have p2 := pow_128 (show b ≤ 7 by omega)
                have p3 : 0 < 2 ^ a := Nat.pow_pos (by omega)
                have p4 : 0 < 2 ^ b := Nat.pow_pos (by omega)
                rw [u64_id (show a ≤ 7 by omega), u64_id (show b ≤ 7 by omega), shl_id (show a ≤ 7 by omega), shl_id (show b ≤ 7 by omega), wrap_id (x := ((2 ^ a : Nat) : Int) + ((2 ^ b : Nat) : Int)) (by omega) (by omega), wrap_id (x := (d : Int) + 1) (by omega) (by omega)]
                refine Goes.neg (by decide) (Goes.ev (spec_split h (by omega) hb (by omega) hd (dist4_iff.2 (by omega))) (Goes.pos (by omega) (Goes.pos (by omega) ?_)))
                by_cases g5 : (splitV n t a b c d).1 = 2 ^ a + 2 ^ b
                · rw [decide_eq_true g5]
                  exact Goes.pos (by rw [g5]; omega) (Goes.ret _)
                · rw [decide_eq_false g5]
                  exact Goes.neg (by omega) (Goes.ok (K := fun (_ : Unit) k => spec_l7Apart.l4 k (s : Int) (a : Int) (b : Int) (c : Int) ((d + 1 : Nat) : Int) (n : Int) t) u)
  have key := loop_up (σ := Unit) (ρ := Bool) (lo := 0) (n := n) (K := fun _ k => spec_l7Apart.l1 k (s : Int) 0 (n : Int) t) (L := fun x _ k => spec_l7Apart.l0 k (s : Int) (restN n s : Int) x (n : Int) t)
    (fun _ x => if nearQ n t s x then .error false else .ok ()) (fun u => ?_) (fun x _ hx u => ?_) (by omega) ()
  · rw [foldlM_any (nearQ n t s)] at key
    unfold cutB
    cases hn : (List.range' 0 (n - 0)).any (nearQ n t s) with
    | true => rw [hn] at key; exact key
    | false =>
      rw [hn] at key
      rw [Bool.not_false, Bool.true_and]
      exact key _ quads
  · refine Goes.step ?_
    simp only [spec_l7Apart.l0]
    exact Goes.neg (by omega) (Goes.ok (K := fun (_ : Unit) k => spec_l7Apart.l1 k (s : Int) 0 (n : Int) t) u)
  · have hbr := hbit x hx
    refine Goes.step ?_
    simp only [spec_l7Apart.l0]
    rw [wrap_id (x := (x : Int) + 1) (by omega) (by omega)]
    refine Goes.pos (by omega) (Goes.call (has_ev (by omega) (by omega)) ?_)
    cases hb : s.testBit x with
    | true =>
      have e : nearQ n t s x = inB n t (restN n s) x := by unfold nearQ; rw [hb]; rfl
      rw [hb] at hbr
      rw [e]
      refine Goes.pos rfl (Goes.ev (spec_in6 h hr7 hx) ?_)
      cases inB n t (restN n s) x with
      | true => exact Goes.pos rfl (Goes.ret _)
      | false =>
        refine Goes.neg (by decide) (Goes.call (has_ev hr7 (by omega)) ?_)
        rw [hbr]
        exact Goes.neg (by decide) (Goes.ok (K := fun (_ : Unit) k => spec_l7Apart.l0 k (s : Int) (restN n s : Int) ((x + 1 : Nat) : Int) (n : Int) t) u)
    | false =>
      have e : nearQ n t s x = inB n t s x := by unfold nearQ; rw [hb]; rfl
      rw [hb] at hbr
      rw [e]
      refine Goes.neg (by decide) (Goes.call (has_ev hr7 (by omega)) ?_)
      rw [hbr]
      refine Goes.pos rfl (Goes.ev (spec_in6 h (show s < 128 by omega) hx) ?_)
      cases inB n t s x with
      | true => exact Goes.pos rfl (Goes.ret _)
      | false => exact Goes.neg (by decide) (Goes.ok (K := fun (_ : Unit) k => spec_l7Apart.l0 k (s : Int) (restN n s : Int) ((x + 1 : Nat) : Int) (n : Int) t) u)
end
end Go.Proofs.Ytbjncemaeagjjaa.M
namespace Go.Proofs.Ytbjncemaeagjjaa.M
open Go.RowKit Go.Proofs.YtbjncemaeagjjaaW.PrintWords Go.Proofs.Ytbjncemaeagjjaa.PX Go.Proofs.Ytbjncemaeagjjaa.G Go.Proofs.YtbjncemaeagjjaaW.PrintMore
/-- What CutSets answers. -/
def cutA (n : Int) (t : ByteArray) (q : Int) : List Int := if acyOk n t = true ∧ 0 ≤ q ∧ q ≤ n then pickL n.toNat (cutB n.toNat t) q else []
theorem cutA_length (n : Int) (t : ByteArray) (q : Int) : (cutA n t q).length ≤ 128 := by
  unfold cutA
  by_cases h : acyOk n t = true ∧ 0 ≤ q ∧ q ≤ n
  · rw [if_pos h]
    obtain ⟨N, rfl, _, h3, h7⟩ := acy_are h.1
    exact pickL_length (by omega) _ _
  · rw [if_neg h]
    exact Nat.zero_le _
theorem impl_cutSets (n : Int) (t : ByteArray) (q : Int) (hs : t.size ≤ 9223372036854775807) : Ev (fun k => impl_CutSets.f k n t q) (cutA n t q) := by
  unfold impl_CutSets.f cutA
  refine Ev.bind (order_ev n t hs) ?_
  by_cases ho : acyOk n t = true
  · rw [if_pos ho]
    obtain ⟨N, rfl, h, h0, h1⟩ := acy_are ho
    simp only [Int.toNat_natCast]
    refine ev_pos (by first | rfl | trivial) ?_
    by_cases q0 : q < 0
    · rw [if_neg (fun e => by omega)]
      refine ev_pos q0 (ev_step ?_)
      simp only [impl_CutSets.j0]
      exact ev_pos (by first | rfl | trivial) (Ev.now _)
    · refine ev_neg q0 (ev_step ?_)
      simp only [impl_CutSets.j0]
      by_cases q1 : q > (N : Int)
      · rw [if_neg (fun e => by omega)]
        exact ev_pos (decide_eq_true q1) (Ev.now _)
      · rw [if_pos ⟨ho, by omega, by omega⟩]
        refine ev_neg (by simpa using q1) ?_
        have hp := pow_128 h1
        have hpos : 0 < 2 ^ N := Nat.pow_pos (by omega)
        have key := loop_up' (σ := List Int) (ρ := List Int) (lo := 0) (n := 2 ^ N) (K := fun s _ => some s) (L := fun x s k => impl_CutSets.l0 k q (tblL N t) s x (N : Int) t) (fun x s => s.length ≤ x)
          (fun u s => .ok (if pickQ (cutB N t) q s then u ++ [(s : Int)] else u)) (fun s _ => ?_) (fun x _ hx s hs => ?_) (fun x _ hx s hs s' e => ?_) (by omega) [] (Nat.le_refl _)
        · rw [pick_fold] at key
          exact key _ (Ev.now _)
        · refine Goes.step ?_
          simp only [impl_CutSets.l0]
          exact Goes.call (fullSet_f (by omega)) (Goes.neg (by omega) (Goes.ok (K := fun s _ => some s) s))
        · refine Goes.step ?_
          simp only [impl_CutSets.l0]
          rw [wrap_id (x := (x : Int) + 1) (by omega) (by omega)]
          refine Goes.call (fullSet_f (by omega)) (Goes.pos (by omega) (Goes.call (ones_f (by omega)) ?_))
          unfold pickQ
          by_cases g : (popN x : Int) = q
          · rw [decide_eq_true g, Bool.true_and]
            refine Goes.pos g (Goes.pos (tblL_length _ _) (Goes.ev (impl_cut h hx) ?_))
            cases cutB N t x with
            | true => exact Goes.pos rfl (Goes.pos (by omega) (Goes.ok (K := fun s k => impl_CutSets.l0 k q (tblL N t) s ((x + 1 : Nat) : Int) (N : Int) t) _))
            | false => exact Goes.neg (by decide) (Goes.ok (K := fun s k => impl_CutSets.l0 k q (tblL N t) s ((x + 1 : Nat) : Int) (N : Int) t) _)
          · rw [decide_eq_false g, Bool.false_and]
            exact Goes.neg g (Goes.ok (K := fun s k => impl_CutSets.l0 k q (tblL N t) s ((x + 1 : Nat) : Int) (N : Int) t) _)
        · cases e
          split
          · rw [List.length_append, List.length_singleton]; omega
          · omega
  · rw [if_neg ho, if_neg (fun e => ho e.1)]
    refine ev_neg (by decide) (ev_step ?_)
    simp only [impl_CutSets.j0]
    exact ev_pos (by first | rfl | trivial) (Ev.now _)
theorem spec_cutSets (n : Int) (t : ByteArray) (q : Int) (hs : t.size ≤ 9223372036854775807) : Ev (fun k => spec_CutSets.f k n t q) (cutA n t q) := by
  unfold spec_CutSets.f cutA
  refine ev_call rfl (Ev.bind (spec_isA n t hs) ?_)
  by_cases ho : acyOk n t = true
  · obtain ⟨N, rfl, h, h0, h1⟩ := acy_are ho
    simp only [Int.toNat_natCast]
    refine ev_pos ho (ev_call (spec_in _ _ _) (ev_step ?_))
    simp only [spec_CutSets.j0]
    by_cases g : 0 ≤ q ∧ q ≤ (N : Int)
    · rw [if_pos ⟨ho, g⟩, decide_eq_true g.1, decide_eq_true g.2]
      refine ev_neg (by decide) ?_
      have hp := pow_128 h1
      have hpos : 0 < 2 ^ N := Nat.pow_pos (by omega)
      have key := loop_up' (σ := List Int) (ρ := List Int) (lo := 0) (n := 2 ^ N) (K := fun s _ => some s) (L := fun x s k => spec_CutSets.l0 k q s x (N : Int) t) (fun x s => s.length ≤ x)
        (fun u s => .ok (if pickQ (cutB N t) q s then u ++ [(s : Int)] else u)) (fun s _ => ?_) (fun x _ hx s hs => ?_) (fun x _ hx s hs s' e => ?_) (by omega) [] (Nat.le_refl _)
      · rw [pick_fold] at key
        exact key _ (Ev.now _)
      · refine Goes.step ?_
        simp only [spec_CutSets.l0]
        rw [u64_id h1, shl_id h1]
        exact Goes.pos (by omega) (Goes.neg (by omega) (Goes.ok (K := fun s _ => some s) s))
      · refine Goes.step ?_
        simp only [spec_CutSets.l0]
        rw [u64_id h1, shl_id h1, wrap_id (x := (x : Int) + 1) (by omega) (by omega)]
        refine Goes.pos (by omega) (Goes.pos (by omega) (Goes.ev (bits_ev (by omega)) ?_))
        unfold pickQ
        by_cases g : (popN x : Int) = q
        · rw [decide_eq_true g, Bool.true_and]
          refine Goes.pos g (Goes.ev (spec_cut h hx) ?_)
          cases cutB N t x with
          | true => exact Goes.pos rfl (Goes.pos (by omega) (Goes.ok (K := fun s k => spec_CutSets.l0 k q s ((x + 1 : Nat) : Int) (N : Int) t) _))
          | false => exact Goes.neg (by decide) (Goes.ok (K := fun s k => spec_CutSets.l0 k q s ((x + 1 : Nat) : Int) (N : Int) t) _)
        · rw [decide_eq_false g, Bool.false_and]
          exact Goes.neg g (Goes.ok (K := fun s k => spec_CutSets.l0 k q s ((x + 1 : Nat) : Int) (N : Int) t) _)
      · cases e
        split
        · rw [List.length_append, List.length_singleton]; omega
        · omega
    · rw [if_neg (fun e => g e.2)]
      refine ev_pos ?_ (Ev.now _)
      cases e : decide (0 ≤ q) && decide (q ≤ (N : Int)) with
      | false => rfl
      | true => exact absurd (by simpa using e) g
  · rw [if_neg (fun e => ho e.1)]
    refine ev_neg ho (ev_step ?_)
    simp only [spec_CutSets.j0]
    exact ev_pos (by first | rfl | trivial) (Ev.now _)
end Go.Proofs.Ytbjncemaeagjjaa.M
namespace Go.Proofs.Ytbjncemaeagjjaa.Pure
open Go.RowKit Go.Proofs.YtbjncemaeagjjaaW.PrintWords Go.Proofs.Ytbjncemaeagjjaa.PX Go.Proofs.Ytbjncemaeagjjaa.M
theorem FnExactCutSets (n : Int) (t : ByteArray) (q : Int) (_ : (Lit.int .i64 n).wf = true) (hs : t.size ≤ 9223372036854775807) (_ : (Lit.int .i64 q).wf = true) :
    ∃ k, laws_FnExactCutSets.f k n t q = some true := by
  refine Ev.rounds (r := true) ?_
  unfold laws_FnExactCutSets.f
  obtain ⟨r, hr⟩ := sz_signs n t
  refine ev_call hr ?_
  by_cases h : r < 0
  · exact ev_pos h (Ev.now _)
  have hl := cutA_length n t q
  have hsp := spec_cutSets n t q hs
  have him := impl_cutSets n t q hs
  generalize cutA n t q = V at hl hsp him
  refine ev_neg h (ev_call (a := (n, t)) rfl (Ev.bind hsp (ev_call (a := (n, t)) rfl (Ev.bind him (Ev.bind (eqIntS_self _ (by omega)) (ev_pos rfl ?_))))))
  refine Ev.bind (mark_ev _ (by omega)) (Ev.bind (held_ev _ (by omega)) (ev_neg (by omega) (ev_pos rfl ?_)))
  refine ev_call (a := (n, t)) rfl (Ev.bind him (Ev.bind (eqIntS_self _ (by omega)) (ev_pos rfl ?_)))
  exact Ev.bind (held_ev _ (by omega)) (ev_neg (by omega) (ev_pos rfl (Ev.now _)))
end Go.Proofs.Ytbjncemaeagjjaa.Pure
namespace Go.Proofs.Ytbjncemaeagjjaa.fnExactCutSets
open Go.ChangeShapes Go.WideShapes Go.ChangeAt Go.RowKit Go.Joins
open Go.ChangeMaps (open_string shut_string)
set_option linter.unusedVariables false
theorem own : ownKnob Try.prog.godebug = none := by kernel_rfl
theorem str_mk {H : Type} {enc : TypeId × Value → H} {P : Program} {w : World} {base : Nat} {spare : Nat → Bool} {held : Bool} {t : TypeId} {s : ByteArray} (ht : P.underlying t = some .string) (hs : s.size ≤ maxLen) : DataW.trod enc P w base spare held 1 t [.string s] = some (.lit (.string s.data.toList), []) := by
  simp [DataW.trod, ht, hs]
set_option maxRecDepth 100000 in
theorem lifted (os : Os) (started : os.Started) (H : Type) (enc : TypeId × Value → H) :
    ReturnsInHanded {} Try.checked os 11 .any (Rows.fnExactCutSetsSpec.pre6 enc Try.prog Try.f11 Rows.fnExactCutSetsRow.domain false) (Rows.fnExactCutSetsSpec.post enc Try.prog Try.f11 false true false false) := by
  refine returnsInHanded_of_change_sized (C := Try.checked) own started (by kernel_rfl) Try.func11
    (ChangeSpec.witness6 (enc := enc) (C := Try.checked) false ⟨#[], #[.agg #[.int .i64 0, .string ByteArray.empty], .int .i64 0], []⟩ 8 (by kernel_rfl) (by kernel_rfl) (by kernel_rfl) (by kernel_rfl)) ?_
  intro W base args ds gs before hval0 hW hcnd hsz0 _
  have hsz : (DataW.weightsEach Try.prog (Try.f11.params.toList ++ Rows.fnExactCutSetsSpec.plain.varTypes Try.prog) (ds ++ gs)).all (· ≤ reachBytes) = true := hsz0
  have hval : ∀ (j : Nat) t v, Try.f11.params[j]? = some t → args[j]? = some v → Value.okWide Try.prog W .any base t v := hval0
  have hW' := hW
  obtain ⟨p, q, hA0, hV, rfl, hfz, hnd⟩ := hW
  have hA : DataW.TrodAll enc Try.prog W 0 (fun _ => true) true Try.f11.params.toList args.toList ds p := hA0
  rw [Try.params11] at hA hval hsz
  obtain ⟨v0, vs0, d0, ds0, p0, q0, hargs, rfl, rfl, h0, r0⟩ := trodAll_cons hA
  obtain ⟨v1, vs1, d1, ds1, p1, q1, rfl, rfl, rfl, h1, r1⟩ := trodAll_cons r0
  obtain ⟨rfl, rfl, rfl⟩ := trodAll_nil r1
  obtain rfl : args = #[v0, v1] := by cases args; simp_all
  obtain ⟨rfl, rfl⟩ := trodVars_none hV
  obtain ⟨c0_0, c0_1, y0_0, y0_1, m0, rfl, rfl, rfl, hy0_0, hy0_1⟩ := open_agg2 Try.underlying23 (by kernel_rfl) (by kernel_rfl) (hval 0 23 v0 rfl rfl) h0
  obtain ⟨a0_0, e0_0, rfl, wa0⟩ := DataW.trod_int Try.underlying3 hy0_0
  obtain ⟨a0_1, e0_1, rfl, ws0⟩ := DataW.trod_string Try.underlying9 hy0_1
  simp only [List.cons.injEq, and_true] at e0_0 e0_1
  subst e0_0 e0_1
  obtain ⟨a1, rfl, rfl, rfl, w1⟩ := open_int Try.underlying3 (hval 1 3 v1 rfl rfl) h1
  clear hA0 hval0 hsz0 hsz
  obtain ⟨k, hP⟩ := Pure.FnExactCutSets a0_0 a0_1 a1 wa0 ws0 w1
  refine (PX.laws_FnExactCutSets.calls k a0_0 a0_1 a1 true W hP rfl).mono fun e W' ⟨he, bel⟩ => ?_
  subst he
  exact ⟨_, rfl, _, _, _, [], _, [], hW', trodAll_mk1 (shut_bool Try.underlying4 _), (trodAll_cons_mk (shut_agg2 Try.underlying23 (by kernel_rfl) (by kernel_rfl) ⟨_, trod_int_mk 0 Try.underlying3 wa0⟩ ⟨_, str_mk Try.underlying9 ws0⟩) (trodAll_cons_mk (shut_int Try.underlying3 w1) trodAll_mk0)), rfl, bel.frame _, fun h => by cases h⟩
theorem over : Rows.fnExactCutSetsRow.holds Try.pinned (OpenSpec.ofChange Rows.fnExactCutSetsSpec) :=
  OpenClaim.holds_of_wide 11 Try.f11 rfl rfl rfl rfl rfl rfl rfl ⟨rfl, rfl, rfl, rfl, rfl⟩ rfl rfl rfl rfl rfl (by kernel_rfl) Try.func11 (by kernel_rfl)
    (of_decide_eq_true (by kernel_rfl)) (by unfold Func.isWrapper; first | (rw [if_pos (by decide +kernel)]; kernel_rfl) | (rw [if_neg (by decide +kernel)]; exact ⟨rfl, rfl⟩))
    (fun os started H enc _ => lifted os started H enc)
theorem proved : Rows.FnExactCutSetsSaid := over
#print axioms proved
end Go.Proofs.Ytbjncemaeagjjaa.fnExactCutSets
namespace Go.Proofs.Ytbjncemaeagjjaa
/-- The row, under a short name, for the claim. -/
theorem fnExactCutSets_holds : Rows.FnExactCutSetsSaid := fnExactCutSets.proved
end Go.Proofs.Ytbjncemaeagjjaa
