/- FnExactLeftTable returns true for all arguments and leaves them as they were. No condition. -/
import Derived.Test.YtbjncemaeagjjaaProg
import Derived.Test.YtbjncemaeagjjaaRows
import Derived.WalkKit
import Derived.ProofKit
import Derived.OpenShut
import Derived.ShutString
import Derived.ChangeOld
import Derived.Below
import Derived.SizedLaws
import Derived.Lib.SmallJoins
import Derived.ChangeSame
import Derived.Test.YtbjncemaeagjjaaV1
import Derived.Test.YtbjncemaeagjjaaBuzpdmf1
import Derived.Test.YtbjncemaeagjjaaBuzpdmf2
import Derived.Test.YtbjncemaeagjjaaBzhecwb1
import Derived.Test.YtbjncemaeagjjaaBuzpdmf3
set_option linter.unusedVariables false
set_option linter.unusedSimpArgs false
namespace Go.Proofs.Ytbjncemaeagjjaa.PX
open Go.RowKit Go.Proofs.Ytbjncemaeagjjaa.G Go.Proofs.YtbjncemaeagjjaaW.PrintWords Go.Proofs.YtbjncemaeagjjaaW.PrintLast Go.Proofs.YtbjncemaeagjjaaW.PrintMore
attribute [local go_sem] max2_int min2_int max_two min_two max_three min_three max_four min_four   -- for this text's walks alone
set_option linter.unusedVariables false
set_option linter.unusedSimpArgs false
/-! ### spec_LeftTable: function 16 -/
mutual
def spec_LeftTable.l0 : Nat → List (List Int) → Int → Int → ByteArray → Option ((List (List Int)))
 | 0, _, _, _, _ => none
 | k + 1, x3, x4, x286000, x286001 => if x4 < x286000 then ((spec_IsAcyclic.f k x286000 x286001).bind fun t289 => (spec_LeftTable.j1 k x3 x4 t289 x286000 x286001)) else (spec_LeftTable.j1 k x3 x4 false x286000 x286001)
def spec_LeftTable.j1 : Nat → List (List Int) → Int → Bool → Int → ByteArray → Option ((List (List Int)))
 | 0, _, _, _, _, _ => none
 | k + 1, x3, x4, x16, x286000, x286001 => if x16 = true then (spec_LeftTable.l1 k x3 x4 (([] : List Int)) 0 x286000 x286001) else (some x3)
def spec_LeftTable.l1 : Nat → List (List Int) → Int → List Int → Int → Int → ByteArray → Option ((List (List Int)))
 | 0, _, _, _, _, _, _ => none
 | k + 1, x3, x4, x5, x6, x286000, x286001 => if x6 < x286000 then (if x4 = x6 then (if x5.length < 17592186044416 then (spec_LeftTable.l1 k x3 x4 (x5 ++ [0]) (wrap64 (x6 + 1)) x286000 x286001) else (none)) else ((spec_l7Left.f k x286000 x286001 x4 x6).bind fun t296 => (if x5.length < 17592186044416 then (spec_LeftTable.l1 k x3 x4 (x5 ++ [t296]) (wrap64 (x6 + 1)) x286000 x286001) else (none)))) else (if x3.length < 5864062014805 then (spec_LeftTable.l0 k (x3 ++ [x5]) (wrap64 (x4 + 1)) x286000 x286001) else (none))
end
def spec_LeftTable.f (k : Nat) (a0_0 : Int) (a0_1 : ByteArray) : Option ((List (List Int))) := spec_LeftTable.l0 k (([] : List (List Int))) 0 a0_0 a0_1
theorem spec_LeftTable.mono_l : ∀ k, (∀ y0 y1 y2 y3, LeO (spec_LeftTable.l0 k y0 y1 y2 y3) (spec_LeftTable.l0 (k + 1) y0 y1 y2 y3)) ∧ (∀ y0 y1 y2 y3 y4, LeO (spec_LeftTable.j1 k y0 y1 y2 y3 y4) (spec_LeftTable.j1 (k + 1) y0 y1 y2 y3 y4)) ∧ (∀ y0 y1 y2 y3 y4 y5, LeO (spec_LeftTable.l1 k y0 y1 y2 y3 y4 y5) (spec_LeftTable.l1 (k + 1) y0 y1 y2 y3 y4 y5))
 | 0 => ⟨fun _ _ _ _ r h => by simp [spec_LeftTable.l0] at h, fun _ _ _ _ _ r h => by simp [spec_LeftTable.j1] at h, fun _ _ _ _ _ _ r h => by simp [spec_LeftTable.l1] at h⟩
 | k + 1 => by
  obtain ⟨ih0, ih1, ih2⟩ := spec_LeftTable.mono_l k
  refine ⟨?_, ?_, ?_⟩ <;> intros <;> (first | unfold spec_LeftTable.l0 | unfold spec_LeftTable.j1 | unfold spec_LeftTable.l1) <;> repeat' first
  | (with_reducible exact ih0 _ _ _ _)
  | (with_reducible exact ih1 _ _ _ _ _)
  | (with_reducible exact ih2 _ _ _ _ _ _)
  | (with_reducible exact spec_IsAcyclic.mono _ _ _)
  | (with_reducible exact spec_l7Left.mono _ _ _ _ _)
  | (with_reducible exact LeO.refl _)
  | (with_reducible exact LeO.none _)
  | (with_reducible refine LeO.ite ?_ ?_)
  | (with_reducible refine LeO.bind ?_ (fun _ => ?_))
  | exact ih0 _ _ _ _
  | exact ih1 _ _ _ _ _
  | exact ih2 _ _ _ _ _ _
  | exact spec_IsAcyclic.mono _ _ _
  | exact spec_l7Left.mono _ _ _ _ _
  | exact LeO.none _
  | refine LeO.ite ?_ ?_
  | refine LeO.bind ?_ (fun _ => ?_)
theorem spec_LeftTable.mono : ∀ a0 a1 k, LeO (spec_LeftTable.f k a0 a1) (spec_LeftTable.f (k + 1) a0 a1) := by
 intro a0 a1 k
 obtain ⟨ih0, ih1, ih2⟩ := spec_LeftTable.mono_l k
 unfold spec_LeftTable.f
 repeat' first
   | (with_reducible exact ih0 _ _ _ _)
   | (with_reducible exact ih1 _ _ _ _ _)
   | (with_reducible exact ih2 _ _ _ _ _ _)
   | (with_reducible exact spec_IsAcyclic.mono _ _ _)
   | (with_reducible exact spec_l7Left.mono _ _ _ _ _)
   | (with_reducible exact LeO.refl _)
   | (with_reducible exact LeO.none _)
   | (with_reducible refine LeO.ite ?_ ?_)
   | (with_reducible refine LeO.bind ?_ (fun _ => ?_))
   | exact ih0 _ _ _ _
   | exact ih1 _ _ _ _ _
   | exact ih2 _ _ _ _ _ _
   | exact spec_IsAcyclic.mono _ _ _
   | exact spec_l7Left.mono _ _ _ _ _
   | exact LeO.none _
   | refine LeO.ite ?_ ?_
   | refine LeO.bind ?_ (fun _ => ?_)
set_option maxHeartbeats 8000000 in
set_option maxRecDepth 100000 in
theorem spec_LeftTable.calls (k : Nat) (a0_0 : Int) (a0_1 : ByteArray) (r : List (List Int)) (w : World) (h : spec_LeftTable.f k a0_0 a0_1 = some r) :
  Calls Try.prog 16 #[.agg #[.int .i64 a0_0, .string a0_1]] w fun e w' => ∃ v0_ : Value, e = .returned (v0_) ∧ Kd.S (Kd.slice 3 (Kd.int .i64)) 34 w' w.heap.size (fun _ => True) v0_ r ∧ Below w.heap.size w w' := by
 have hu26 := Try.underlying26
 have HB := Aside0.mk (Below.refl w.heap.size w)
 have H : (spec_LeftTable.l0 k (([] : List (List Int))) 0 a0_0 a0_1) = some r := h
 clear h
 obtain ⟨y286, hy286⟩ : ∃ y_ : List (List Int), y_ = (([] : List (List Int))) := ⟨_, rfl⟩
 replace H : (spec_LeftTable.l0 k y286 0 a0_0 a0_1) = some r := by first | (rw [hy286]; with_reducible exact H) | (have H2_ := (Option.bind_some _ _).symm.trans H; rw [hy286]; with_reducible exact H2_) | (have H2_ := (Option.bind_some _ _).symm.trans H; with_reducible exact H2_) | with_reducible exact H | (rw [hy286]; exact H) | exact H
 have Ny286 := Aside0.mk hy286
 clear hy286
 have H' := Aside0.mk H
 clear H
 go_enter Try.func16, Try.ntmps16
 go_wp2_with (first | ((with_reducible refine gate_dst (N := 1) rfl ?_); refine box_event ?hg (N := 1) ?hd (cs := #[.int .i64 a0_0, .string a0_1]) (t := 26) ?hr ?_; (case hd => rfl); (case hg => rfl); (case hr => first | (go_simp; done) | (go_simp; rfl)); intro gb285 hg w2 hbox hb; have BK285 := Aside0.mk (hbox); have GW285 := Aside0.mk ((by rw [hg]; exact (below_size zB) : w.heap.size ≤ gb285)); have GE285 := Aside0.mk ((by rw [hg]; exact (below_size zB) : w.heap.size ≤ gb285)); replace HB := Aside0.mk (below_step zB hb); clear hb hbox hg) | ((with_reducible refine gate_dst (N := 8) rfl ?_); refine Kd.S_lit (Kd.slice 3 (Kd.int .i64)) _ 34 ?hg (N := 8) ?hd (xs := ([] : List (List Int))) (inner := []) (ok := fun _ => True) (okp := fun _ => True) ?hr ?hp (fun _ hk => hk) trivial (Below.refl _ _) (Nat.le_refl _) (by simp) ?_; (case hd => rfl); (case hg => rfl); (case hr => first | (go_simp; done) | (go_simp; rfl)); (case hp => exact (Reps.none _ _)); intro v287 w3 ho4 hb hg_ hnew_; clear hg_ hnew_; (first | rw [← Ny286.out] at ho4 | (simp only [Int.reduceToNat] at ho4; rw [← Ny286.out] at ho4)); have HO288 := Aside0.mk (Kd.S_lower ho4 (below_size (zG GE285.out))); replace BK285 := Aside0.mk (blk_below (g := gb285) (o := .cells #[.int .i64 a0_0, .string a0_1] 26 (0, 0)) (zK BK285.out) hb); replace HB := Aside0.mk (below_step (zG GE285.out) hb); clear hb ho4))
 go_loopg [3, 4] k (fun kq v3 v4 w' => ∃ (x3_1 : List (List Int)) (x4_1 : Int), v4 = .int .i64 x4_1 ∧ Aside0 (spec_LeftTable.l0 kq x3_1 x4_1 a0_0 a0_1 = some r) ∧ Aside0 (kq ≤ k) ∧ Aside0 (Kd.S (Kd.slice 3 (Kd.int .i64)) 34 w' w.heap.size (fun _ => True) v3 x3_1) ∧ Aside0 (w'.heap[gb285]? = some (.cells #[.int .i64 a0_0, .string a0_1] 26 (0, 0))) ∧ Aside0 (Below w.heap.size w w'))
 case atStart => exact ⟨(y286), (0), zF, H', ⟨Nat.le_refl _⟩, ⟨by (with_reducible repeat (first | apply Kd.S_alloc | apply Kd.S_drewN | apply Kd.S_drew)); exact HO288.out⟩, ⟨zK BK285.out⟩, ⟨zG GE285.out⟩⟩
 case round =>
  clear H'
  try clear c1
  try clear p2
  obtain ⟨x3_1, x4_1, rfl, HA, HK1, HO_3, BK285, HB⟩ := hrel
  cases gk with
  | zero => exact absurd HA.out (by simp [spec_LeftTable.l0])
  | succ k1 =>
   have H := HA.out
   clear HA
   simp only [spec_LeftTable.l0] at H
   have HC5 := Aside0.mk H
   clear H
   go_upto_region 3 with (fail)
   go_cut [16] (fun v16 wc => ∃ (kq : Nat) (x16_4 : Bool), v16 = .bool x16_4 ∧ Aside0 (spec_LeftTable.j1 kq x3_1 x4_1 x16_4 a0_0 a0_1 = some r) ∧ Aside0 (kq ≤ k1) ∧ Aside0 (Kd.S (Kd.slice 3 (Kd.int .i64)) 34 wc w.heap.size (fun _ => True) u3 x3_1) ∧ Aside0 (wc.heap[gb285]? = some (.cells #[.int .i64 a0_0, .string a0_1] 26 (0, 0))) ∧ Aside0 (Below w.heap.size w wc))
   case first =>
    have H := HC5.out
    clear HC5
    by_cases c6 : x4_1 < a0_0
    ·rw [if_pos c6] at H
     have c6b0 : decide (x4_1 < a0_0) = true := decide_eq_true c6
     clear c6
     (first | rw [c6b0] | (simp only [i64_w, i32_w]; rw [c6b0]) | skip)
     replace H := Option.bind_eq_some_iff.mp H
     obtain ⟨t289, A70, H⟩ := H
     replace H : (spec_LeftTable.j1 k1 x3_1 x4_1 t289 a0_0 a0_1) = some r := H
     have A7 := Aside0.mk A70
     clear A70
     have H' := Aside0.mk H
     clear H
     have hcz8_0 : wr.cell? ⟨gb285, 0, none⟩ = some (.int .i64 a0_0) := (blk_cell BK285.out 0).trans rfl
     have hcz8_1 : wr.cell? ⟨gb285, 1, none⟩ = some (.string a0_1) := (blk_cell BK285.out 1).trans rfl
     have hfz8_0 := blk_frozen BK285.out 0
     have hfz8_1 := blk_frozen BK285.out 1
     go_wp2_with (first | (go_at_call 38; (with_reducible refine (spec_IsAcyclic.calls k1 a0_0 a0_1 t289 _ A7.out).mono ?_); rintro e w9 ⟨rfl, hb⟩; replace HO_3 := Aside0.mk (Kd.S_below (by (with_reducible repeat (first | apply Kd.S_alloc | apply Kd.S_drewN | apply Kd.S_drew)); exact HO_3.out) hb); replace BK285 := Aside0.mk (blk_below (g := gb285) (o := .cells #[.int .i64 a0_0, .string a0_1] 26 (0, 0)) (zK BK285.out) hb); replace HB := Aside0.mk (below_step (zG GE285.out) hb); (try clear hb); (try clear hb2); (try clear hk); (try clear hi)))
     go_meet
     case rel => exact ⟨_, (t289), zF, H', ⟨by have := HK1.out; first | omega | exact Nat.le_refl _⟩, ⟨by (with_reducible repeat (first | apply Kd.S_alloc | apply Kd.S_drewN | apply Kd.S_drew)); exact HO_3.out⟩, ⟨zK BK285.out⟩, ⟨zG GE285.out⟩⟩
    ·rw [if_neg c6] at H
     have c6b0 : decide (x4_1 < a0_0) = false := decide_eq_false c6
     clear c6
     (first | rw [c6b0] | (simp only [i64_w, i32_w]; rw [c6b0]) | skip)
     have H' := Aside0.mk H
     clear H
     have hcz10_0 : wr.cell? ⟨gb285, 0, none⟩ = some (.int .i64 a0_0) := (blk_cell BK285.out 0).trans rfl
     have hcz10_1 : wr.cell? ⟨gb285, 1, none⟩ = some (.string a0_1) := (blk_cell BK285.out 1).trans rfl
     have hfz10_0 := blk_frozen BK285.out 0
     have hfz10_1 := blk_frozen BK285.out 1
     go_wp2
     go_meet
     case rel => exact ⟨_, (false), zF, H', ⟨by have := HK1.out; first | omega | exact Nat.le_refl _⟩, ⟨by (with_reducible repeat (first | apply Kd.S_alloc | apply Kd.S_drewN | apply Kd.S_drew)); exact HO_3.out⟩, ⟨zK BK285.out⟩, ⟨zG GE285.out⟩⟩
   case rest =>
    clear HC5
    try clear c1
    try clear p2
    try clear c6
    try clear c6b0
    try clear hcz10_0
    try clear hcz10_1
    try clear hcz8_0
    try clear hcz8_1
    try clear hfz10_0
    try clear hfz10_1
    try clear hfz8_0
    try clear hfz8_1
    try clear p2
    obtain ⟨kq, x16_4, rfl, HA, HJ4, HO_3, BK285, HB⟩ := hcut
    cases kq with
    | zero => exact absurd HA.out (by simp [spec_LeftTable.j1])
    | succ kj4 =>
     have H := HA.out
     clear HA
     simp only [spec_LeftTable.j1] at H
     by_cases c11 : x16_4 = true
     ·subst c11
      have H1 : (spec_LeftTable.l1 kj4 x3_1 x4_1 (([] : List Int)) 0 a0_0 a0_1) = some r := by rw [if_pos rfl] at H; exact H
      clear H
      have H := H1
      clear H1
      obtain ⟨y290, hy290⟩ : ∃ y_ : List Int, y_ = (([] : List Int)) := ⟨_, rfl⟩
      replace H : (spec_LeftTable.l1 kj4 x3_1 x4_1 y290 0 a0_0 a0_1) = some r := by first | (rw [hy290]; with_reducible exact H) | (have H2_ := (Option.bind_some _ _).symm.trans H; rw [hy290]; with_reducible exact H2_) | (have H2_ := (Option.bind_some _ _).symm.trans H; with_reducible exact H2_) | with_reducible exact H | (rw [hy290]; exact H) | exact H
      have Ny290 := Aside0.mk hy290
      clear hy290
      have H' := Aside0.mk H
      clear H
      go_wp2_with (first | ((with_reducible refine gate_dst (N := 19) rfl ?_); refine Kd.R_lit (Kd.int .i64) _ 3 ?hg (N := 19) ?hd (xs := ([] : List Int)) (inner := []) (ok := fun _ => True) (okp := fun _ => True) ?hr ?hp (fun _ hk => hk) trivial (Below.refl _ _) (Nat.le_refl _) (by simp) ?_; (case hd => rfl); (case hg => rfl); (case hr => first | (go_simp; done) | (go_simp; rfl)); (case hp => exact (Reps.none _ _)); intro v291 w12 ho13 hb hg_ hnew_; clear hg_ hnew_; (first | rw [← Ny290.out] at ho13 | (simp only [Int.reduceToNat] at ho13; rw [← Ny290.out] at ho13)); replace HO_3 := Aside0.mk (Kd.S_elder' (by (with_reducible repeat (first | apply Kd.S_alloc | apply Kd.S_drewN | apply Kd.S_drew)); exact HO_3.out) (Kd.R_base ho13) hb); have HO292 := Aside0.mk (Kd.R_lower ho13 (below_size (zG GE285.out))); replace BK285 := Aside0.mk (blk_below (g := gb285) (o := .cells #[.int .i64 a0_0, .string a0_1] 26 (0, 0)) (zK BK285.out) hb); replace HB := Aside0.mk (below_step (zG GE285.out) hb); clear hb ho13))
      go_loopg [5, 6] kj4 (fun kq v5 v6 w' => ∃ (x5_3 : List Int) (x6_3 : Int), v6 = .int .i64 x6_3 ∧ Aside0 (spec_LeftTable.l1 kq x3_1 x4_1 x5_3 x6_3 a0_0 a0_1 = some r) ∧ Aside0 (kq ≤ kj4) ∧ Aside0 (Kd.S (Kd.slice 3 (Kd.int .i64)) 34 w' w.heap.size (fun k_ => some k_ ≠ (v5 : Value).ownBlock) u3 x3_1) ∧ Aside0 (Kd.R (Kd.int .i64) 3 w' w.heap.size (fun _ => True) v5 x5_3) ∧ Aside0 (w'.heap[gb285]? = some (.cells #[.int .i64 a0_0, .string a0_1] 26 (0, 0))) ∧ Aside0 (Below w.heap.size w w'))
      case atStart => exact ⟨(y290), (0), zF, H', ⟨Nat.le_refl _⟩, ⟨by (with_reducible repeat (first | apply Kd.S_alloc | apply Kd.S_drewN | apply Kd.S_drew)); exact Kd.S_mono HO_3.out (fun _ hk => hk.2)⟩, ⟨zR HO292.out⟩, ⟨zK BK285.out⟩, ⟨zG GE285.out⟩⟩
      case round =>
       clear H'
       try clear c1
       try clear p2
       try clear c6
       try clear c6b0
       try clear c11
       try clear hcz10_0
       try clear hcz10_1
       try clear hcz8_0
       try clear hcz8_1
       try clear hfz10_0
       try clear hfz10_1
       try clear hfz8_0
       try clear hfz8_1
       try clear p2
       obtain ⟨x5_3, x6_3, rfl, HA, HK3, HO_3, HO_5, BK285, HB⟩ := hrel
       cases gk with
       | zero => exact absurd HA.out (by simp [spec_LeftTable.l1])
       | succ k3 =>
        have H := HA.out
        clear HA
        simp only [spec_LeftTable.l1] at H
        by_cases c14 : x6_3 < a0_0
        ·rw [if_pos c14] at H
         have c14b0 : decide (x6_3 < a0_0) = true := decide_eq_true c14
         clear c14
         by_cases c15 : x4_1 = x6_3
         ·rw [if_pos c15] at H
          have c15b0 : (x4_1 == x6_3) = true := beq_iff_eq.mpr c15
          have c15b1 : (x4_1 != x6_3) = false := bne_eq_false_iff_eq.mpr c15
          clear c15
          by_cases c16 : x5_3.length < 17592186044416
          ·rw [if_pos c16] at H
           have LMc16 := Aside0.mk c16
           clear c16
           obtain ⟨y293, hy293⟩ : ∃ y_ : List Int, y_ = (x5_3 ++ [0]) := ⟨_, rfl⟩
           replace H : (spec_LeftTable.l1 k3 x3_1 x4_1 y293 (wrap64 (x6_3 + 1)) a0_0 a0_1) = some r := by first | (rw [hy293]; with_reducible exact H) | (have H2_ := (Option.bind_some _ _).symm.trans H; rw [hy293]; with_reducible exact H2_) | (have H2_ := (Option.bind_some _ _).symm.trans H; with_reducible exact H2_) | with_reducible exact H | (rw [hy293]; exact H) | exact H
           have Ny293 := Aside0.mk hy293
           clear hy293
           have H' := Aside0.mk H
           clear H
           have hcz17_0 : wr.cell? ⟨gb285, 0, none⟩ = some (.int .i64 a0_0) := (blk_cell BK285.out 0).trans rfl
           have hcz17_1 : wr.cell? ⟨gb285, 1, none⟩ = some (.string a0_1) := (blk_cell BK285.out 1).trans rfl
           have hfz17_0 := blk_frozen BK285.out 0
           have hfz17_1 := blk_frozen BK285.out 1
           go_wp2_with (first | ((with_reducible refine gate_builtin (b := .append) (xs := #[.tmp 33, .tmp 35]) rfl ?_); at_builtin; refine Kd.R_append (Kd.int .i64) (w0 := w) w.heap.size rfl (.tmp 33) (.tmp 35) 34 3 (.int .i64 0) 8 rfl Try.underlying34 info3 rfl (by decide) (by omega) u5 x5_3 0 [.int .i64 0] (fun _ => True) (fun _ => False) rfl rfl ?aP (fun _ hk => hk.elim) ?aF ?aO ?aB ?aS ?aL ?_; (case aP => exact rfl); (case aB => exact (zG GE285.out)); (case aF => exact (fun _ _ => trivial)); (case aO => exact (zR HO_5.out)); (case aS => exact (below_size (zG GE285.out))); (case aL => have := LMc16.out; omega); intro v294 w18 ho hb hg hat; rw [← Ny293.out] at ho; have n0_ := Aside0.mk (Kd.S_after (ok := (fun _ => True)) (by (with_reducible repeat (first | apply Kd.S_alloc | apply Kd.S_drewN | apply Kd.S_drew)); exact Kd.S_mono HO_3.out (fun _ hk => ⟨trivial, hk⟩)) hg hat); have n1_ := Aside0.mk (blk_grown (g := gb285) (o := .cells #[.int .i64 a0_0, .string a0_1] 26 (0, 0)) (zK BK285.out) hg (Kd.R_ne HO_5.out BK285.out (by decide))); have n2_ := Aside0.mk (hb); have n3_ := Aside0.mk (ho); clear HO_3; clear BK285; clear HB; clear HO_5; have HO_3 := n0_; have BK285 := n1_; have HB := n2_; have HO295 := n3_; clear n0_ n1_ n2_ n3_; clear ho hb hg hat))
           go_roundg k3
           case measure => have := HK1.out; have := HJ4.out; have := HK3.out; omega
           case rel => exact ⟨(y293), (wrap64 (x6_3 + 1)), zF, H', ⟨by have := HK1.out; have := HJ4.out; have := HK3.out; omega⟩, ⟨by (with_reducible repeat (first | apply Kd.S_alloc | apply Kd.S_drewN | apply Kd.S_drew)); exact Kd.S_mono HO_3.out (fun _ hk => hk.2)⟩, ⟨zR HO295.out⟩, ⟨zK BK285.out⟩, ⟨zG GE285.out⟩⟩
          ·rw [if_neg c16] at H
           exact absurd H (by simp)
         ·rw [if_neg c15] at H
          have c15b0 : (x4_1 == x6_3) = false := beq_eq_false_iff_ne.mpr c15
          have c15b1 : (x4_1 != x6_3) = true := bne_iff_ne.mpr c15
          replace H := Option.bind_eq_some_iff.mp H
          obtain ⟨t296, A190, H⟩ := H
          replace H : (if x5_3.length < 17592186044416 then (spec_LeftTable.l1 k3 x3_1 x4_1 (x5_3 ++ [t296]) (wrap64 (x6_3 + 1)) a0_0 a0_1) else (none)) = some r := H
          have A19 := Aside0.mk A190
          clear A190
          by_cases c20 : x5_3.length < 17592186044416
          ·rw [if_pos c20] at H
           have LMc20 := Aside0.mk c20
           clear c20
           obtain ⟨y297, hy297⟩ : ∃ y_ : List Int, y_ = (x5_3 ++ [t296]) := ⟨_, rfl⟩
           replace H : (spec_LeftTable.l1 k3 x3_1 x4_1 y297 (wrap64 (x6_3 + 1)) a0_0 a0_1) = some r := by first | (rw [hy297]; with_reducible exact H) | (have H2_ := (Option.bind_some _ _).symm.trans H; rw [hy297]; with_reducible exact H2_) | (have H2_ := (Option.bind_some _ _).symm.trans H; with_reducible exact H2_) | with_reducible exact H | (rw [hy297]; exact H) | exact H
           have Ny297 := Aside0.mk hy297
           clear hy297
           have H' := Aside0.mk H
           clear H
           have hcz21_0 : wr.cell? ⟨gb285, 0, none⟩ = some (.int .i64 a0_0) := (blk_cell BK285.out 0).trans rfl
           have hcz21_1 : wr.cell? ⟨gb285, 1, none⟩ = some (.string a0_1) := (blk_cell BK285.out 1).trans rfl
           have hfz21_0 := blk_frozen BK285.out 0
           have hfz21_1 := blk_frozen BK285.out 1
           go_wp2_with (first | ((with_reducible refine gate_callee (f := 40) rfl ?_); refine goesL_ (some 32) rfl rfl Try.func40 (by kernel_rfl) rfl #[.agg #[.int .i64 a0_0, .string a0_1], .int .i64 x4_1, .int .i64 x6_3] rfl zM ?_; (with_reducible refine (spec_l7Left.calls k3 a0_0 a0_1 x4_1 x6_3 t296 _ A19.out).mono ?_); rintro e w22 ⟨rfl, hb⟩; refine ⟨_, rfl, ?_⟩; replace HO_3 := Aside0.mk (Kd.S_below (by (with_reducible repeat (first | apply Kd.S_alloc | apply Kd.S_drewN | apply Kd.S_drew)); exact HO_3.out) hb); replace HO_5 := Aside0.mk (Kd.R_below (zR HO_5.out) hb); replace BK285 := Aside0.mk (blk_below (g := gb285) (o := .cells #[.int .i64 a0_0, .string a0_1] 26 (0, 0)) (zK BK285.out) hb); replace HB := Aside0.mk (below_step (zG GE285.out) hb); (try clear hb)) | ((with_reducible refine gate_builtin (b := .append) (xs := #[.tmp 33, .tmp 35]) rfl ?_); at_builtin; refine Kd.R_append (Kd.int .i64) (w0 := w) w.heap.size rfl (.tmp 33) (.tmp 35) 34 3 (.int .i64 0) 8 rfl Try.underlying34 info3 rfl (by decide) (by omega) u5 x5_3 t296 [.int .i64 t296] (fun _ => True) (fun _ => False) rfl rfl ?aP (fun _ hk => hk.elim) ?aF ?aO ?aB ?aS ?aL ?_; (case aP => exact rfl); (case aB => exact (zG GE285.out)); (case aF => exact (fun _ _ => trivial)); (case aO => exact (zR HO_5.out)); (case aS => exact (below_size (zG GE285.out))); (case aL => have := LMc20.out; omega); intro v298 w23 ho hb hg hat; rw [← Ny297.out] at ho; have n0_ := Aside0.mk (Kd.S_after (ok := (fun _ => True)) (by (with_reducible repeat (first | apply Kd.S_alloc | apply Kd.S_drewN | apply Kd.S_drew)); exact Kd.S_mono HO_3.out (fun _ hk => ⟨trivial, hk⟩)) hg hat); have n1_ := Aside0.mk (blk_grown (g := gb285) (o := .cells #[.int .i64 a0_0, .string a0_1] 26 (0, 0)) (zK BK285.out) hg (Kd.R_ne HO_5.out BK285.out (by decide))); have n2_ := Aside0.mk (hb); have n3_ := Aside0.mk (ho); clear HO_3; clear BK285; clear HB; clear HO_5; have HO_3 := n0_; have BK285 := n1_; have HB := n2_; have HO299 := n3_; clear n0_ n1_ n2_ n3_; clear ho hb hg hat))
           go_roundg k3
           case measure => have := HK1.out; have := HJ4.out; have := HK3.out; omega
           case rel => exact ⟨(y297), (wrap64 (x6_3 + 1)), zF, H', ⟨by have := HK1.out; have := HJ4.out; have := HK3.out; omega⟩, ⟨by (with_reducible repeat (first | apply Kd.S_alloc | apply Kd.S_drewN | apply Kd.S_drew)); exact Kd.S_mono HO_3.out (fun _ hk => hk.2)⟩, ⟨zR HO299.out⟩, ⟨zK BK285.out⟩, ⟨zG GE285.out⟩⟩
          ·rw [if_neg c20] at H
           exact absurd H (by simp)
        ·rw [if_neg c14] at H
         have c14b0 : decide (x6_3 < a0_0) = false := decide_eq_false c14
         clear c14
         by_cases c24 : x3_1.length < 5864062014805
         ·rw [if_pos c24] at H
          have LMc24 := Aside0.mk c24
          clear c24
          obtain ⟨y300, hy300⟩ : ∃ y_ : List (List Int), y_ = (x3_1 ++ [x5_3]) := ⟨_, rfl⟩
          replace H : (spec_LeftTable.l0 k3 y300 (wrap64 (x4_1 + 1)) a0_0 a0_1) = some r := by first | (rw [hy300]; with_reducible exact H) | (have H2_ := (Option.bind_some _ _).symm.trans H; rw [hy300]; with_reducible exact H2_) | (have H2_ := (Option.bind_some _ _).symm.trans H; with_reducible exact H2_) | with_reducible exact H | (rw [hy300]; exact H) | exact H
          have Ny300 := Aside0.mk hy300
          clear hy300
          have H' := Aside0.mk H
          clear H
          have hcz25_0 : wr.cell? ⟨gb285, 0, none⟩ = some (.int .i64 a0_0) := (blk_cell BK285.out 0).trans rfl
          have hcz25_1 : wr.cell? ⟨gb285, 1, none⟩ = some (.string a0_1) := (blk_cell BK285.out 1).trans rfl
          have hfz25_0 := blk_frozen BK285.out 0
          have hfz25_1 := blk_frozen BK285.out 1
          obtain ⟨Ao27, co27, eo27⟩ := Kd.R_slice HO_5.out
          subst eo27
          go_wp2_with (first | ((with_reducible refine gate_builtin (b := .append) (xs := #[.tmp 37, .tmp 39]) rfl ?_); at_builtin; refine Kd.S_append (Kd.slice 3 (Kd.int .i64)) (w0 := w) w.heap.size rfl (.tmp 37) (.tmp 39) 29 34 (.slice none 0 0) 24 rfl Try.underlying29 info34 rfl (by decide) (by omega) u3 x3_1 x5_3 [.slice Ao27 x5_3.length co27] (fun _ => True) (fun k_ => some k_ = (.slice Ao27 x5_3.length co27 : Value).ownBlock) rfl rfl ?aP (fun k_ hk_ => ((Kd.R_mono (ok' := fun k_ => ((fun _ => True)) k_ ∧ some k_ ≠ (u3 : Value).ownBlock) (Kd.R_apart' (HO_5.out) (Kd.S_typed HO_3.out) (by decide)) (fun k_ hk => ⟨trivial, hk.2⟩))).1 k_ hk_.symm) ?aF ?aO ?aB ?aS ?aL ?_; (case aP => exact Kd.M_row (Kd.R_mono (Kd.R_tight rfl (Kd.R_mono (ok' := fun k_ => ((fun _ => True)) k_ ∧ some k_ ≠ (u3 : Value).ownBlock) (Kd.R_apart' (HO_5.out) (Kd.S_typed HO_3.out) (by decide)) (fun k_ hk => ⟨trivial, hk.2⟩))) (fun _ h_ => h_))); (case aB => exact (zG GE285.out)); (case aF => exact (fun _ _ => trivial)); (case aO => exact (by (with_reducible repeat (first | apply Kd.S_alloc | apply Kd.S_drewN | apply Kd.S_drew)); exact Kd.S_mono HO_3.out (fun k_ hk => ⟨trivial, fun e_ => hk e_⟩))); (case aS => exact (below_size (zG GE285.out))); (case aL => have := LMc24.out; omega); intro v301 w26 ho hb hg hat; rw [← Ny300.out] at ho; have n0_ := Aside0.mk (blk_grown (g := gb285) (o := .cells #[.int .i64 a0_0, .string a0_1] 26 (0, 0)) (zK BK285.out) hg (Kd.S_ne HO_3.out BK285.out (by decide))); have n1_ := Aside0.mk (hb); have n2_ := Aside0.mk (ho); clear BK285; clear HB; clear HO_3; clear HO_5; have BK285 := n0_; have HB := n1_; have HO302 := n2_; clear n0_ n1_ n2_; clear ho hb hg hat))
          go_roundg k3
          case measure => have := HK1.out; have := HJ4.out; have := HK3.out; omega
          case rel => exact ⟨(y300), (wrap64 (x4_1 + 1)), zF, H', ⟨by have := HK1.out; have := HJ4.out; have := HK3.out; omega⟩, ⟨by (with_reducible repeat (first | apply Kd.S_alloc | apply Kd.S_drewN | apply Kd.S_drew)); exact HO302.out⟩, ⟨zK BK285.out⟩, ⟨zG GE285.out⟩⟩
         ·rw [if_neg c24] at H
          exact absurd H (by simp)
     ·replace c11 := Bool.eq_false_iff.mpr c11
      subst c11
      have H1 : (some x3_1) = some r := by rw [if_neg (show ¬ (false = true) by decide)] at H; exact H
      clear H
      have H := H1
      clear H1
      obtain rfl := Option.some.inj H
      go_wp2
      go_ret
      exact ⟨_, zE, by (with_reducible repeat (first | apply Kd.S_alloc | apply Kd.S_drewN | apply Kd.S_drew)); exact HO_3.out, zG GE285.out⟩
/-! ### impl_LeftTable: function 17 -/
mutual
def impl_LeftTable.l0 : Nat → List Int → List (List Int) → Int → Int → ByteArray → Option ((List (List Int)))
 | 0, _, _, _, _, _ => none
 | k + 1, x3, x5, x6, x304000, x304001 => if x6 < x304000 then (if 0 ≤ x304000 then (if (x304000 : Int).toNat ≤ 35184372088832 then ((some (List.replicate (x304000 : Int).toNat 0 : List Int)).bind fun y308 => (impl_LeftTable.l1 k x3 x5 x6 y308 (y308.length : Int) 0 x304000 x304001)) else (none)) else (none)) else (some x5)
def impl_LeftTable.l1 : Nat → List Int → List (List Int) → Int → List Int → Int → Int → Int → ByteArray → Option ((List (List Int)))
 | 0, _, _, _, _, _, _, _, _ => none
 | k + 1, x3, x5, x6, x7, x26, x27, x304000, x304001 => if x27 < x26 then (if x6 = x27 then (impl_LeftTable.l1 k x3 x5 x6 x7 x26 (wrap64 (x27 + 1)) x304000 x304001) else (if x3.length = 344 then ((impl_chi_left.f k x3 x6 x27).bind fun t311 => (if 0 ≤ x27 then (if x27 < (x7.length : Int) then (impl_LeftTable.l1 k x3 x5 x6 (x7.set (x27 : Int).toNat t311) x26 (wrap64 (x27 + 1)) x304000 x304001) else (none)) else (none))) else (none))) else (if x5.length < 5864062014805 then (impl_LeftTable.l0 k x3 (x5 ++ [x7]) (wrap64 (x6 + 1)) x304000 x304001) else (none))
end
def impl_LeftTable.f (k : Nat) (a0_0 : Int) (a0_1 : ByteArray) : Option ((List (List Int))) := (impl_orderOf.f k a0_0 a0_1).bind fun bt304 => (if bt304.2 = true then (impl_LeftTable.l0 k bt304.1 ([] : List (List Int)) 0 a0_0 a0_1) else (some ([] : List (List Int))))
theorem impl_LeftTable.mono_l : ∀ k, (∀ y0 y1 y2 y3 y4, LeO (impl_LeftTable.l0 k y0 y1 y2 y3 y4) (impl_LeftTable.l0 (k + 1) y0 y1 y2 y3 y4)) ∧ (∀ y0 y1 y2 y3 y4 y5 y6 y7, LeO (impl_LeftTable.l1 k y0 y1 y2 y3 y4 y5 y6 y7) (impl_LeftTable.l1 (k + 1) y0 y1 y2 y3 y4 y5 y6 y7))
 | 0 => ⟨fun _ _ _ _ _ r h => by simp [impl_LeftTable.l0] at h, fun _ _ _ _ _ _ _ _ r h => by simp [impl_LeftTable.l1] at h⟩
 | k + 1 => by
  obtain ⟨ih0, ih1⟩ := impl_LeftTable.mono_l k
  refine ⟨?_, ?_⟩ <;> intros <;> (first | unfold impl_LeftTable.l0 | unfold impl_LeftTable.l1) <;> repeat' first
  | (with_reducible exact ih0 _ _ _ _ _)
  | (with_reducible exact ih1 _ _ _ _ _ _ _ _)
  | (with_reducible exact impl_chi_left.mono _ _ _ _)
  | (with_reducible exact impl_orderOf.mono _ _ _)
  | (with_reducible exact LeO.refl _)
  | (with_reducible exact LeO.none _)
  | (with_reducible refine LeO.ite ?_ ?_)
  | (with_reducible refine LeO.bind ?_ (fun _ => ?_))
  | exact ih0 _ _ _ _ _
  | exact ih1 _ _ _ _ _ _ _ _
  | exact impl_chi_left.mono _ _ _ _
  | exact impl_orderOf.mono _ _ _
  | exact LeO.none _
  | refine LeO.ite ?_ ?_
  | refine LeO.bind ?_ (fun _ => ?_)
theorem impl_LeftTable.mono : ∀ a0 a1 k, LeO (impl_LeftTable.f k a0 a1) (impl_LeftTable.f (k + 1) a0 a1) := by
 intro a0 a1 k
 obtain ⟨ih0, ih1⟩ := impl_LeftTable.mono_l k
 unfold impl_LeftTable.f
 repeat' first
   | (with_reducible exact ih0 _ _ _ _ _)
   | (with_reducible exact ih1 _ _ _ _ _ _ _ _)
   | (with_reducible exact impl_chi_left.mono _ _ _ _)
   | (with_reducible exact impl_orderOf.mono _ _ _)
   | (with_reducible exact LeO.refl _)
   | (with_reducible exact LeO.none _)
   | (with_reducible refine LeO.ite ?_ ?_)
   | (with_reducible refine LeO.bind ?_ (fun _ => ?_))
   | exact ih0 _ _ _ _ _
   | exact ih1 _ _ _ _ _ _ _ _
   | exact impl_chi_left.mono _ _ _ _
   | exact impl_orderOf.mono _ _ _
   | exact LeO.none _
   | refine LeO.ite ?_ ?_
   | refine LeO.bind ?_ (fun _ => ?_)
set_option maxHeartbeats 8000000 in
set_option maxRecDepth 100000 in
theorem impl_LeftTable.calls (k : Nat) (a0_0 : Int) (a0_1 : ByteArray) (r : List (List Int)) (w : World) (h : impl_LeftTable.f k a0_0 a0_1 = some r) :
  Calls Try.prog 17 #[.agg #[.int .i64 a0_0, .string a0_1]] w fun e w' => ∃ v0_ : Value, e = .returned (v0_) ∧ Kd.S (Kd.slice 3 (Kd.int .i64)) 34 w' w.heap.size (fun _ => True) v0_ r ∧ Below w.heap.size w w' := by
 have hu26 := Try.underlying26
 have HB := Aside0.mk (Below.refl w.heap.size w)
 have H : ((impl_orderOf.f k a0_0 a0_1).bind fun bt304 => (if bt304.2 = true then (impl_LeftTable.l0 k bt304.1 ([] : List (List Int)) 0 a0_0 a0_1) else (some ([] : List (List Int))))) = some r := h
 clear h
 replace H := Option.bind_eq_some_iff.mp H
 obtain ⟨⟨t304, t307⟩, A20, H⟩ := H
 replace H : (if t307 = true then (impl_LeftTable.l0 k t304 ([] : List (List Int)) 0 a0_0 a0_1) else (some ([] : List (List Int)))) = some r := H
 have A2 := Aside0.mk A20
 clear A20
 by_cases c3 : t307 = true
 ·subst c3
  have H1 : (impl_LeftTable.l0 k t304 ([] : List (List Int)) 0 a0_0 a0_1) = some r := by rw [if_pos rfl] at H; exact H
  clear H
  have H := H1
  clear H1
  have H' := Aside0.mk H
  clear H
  go_enter Try.func17, Try.ntmps17
  go_wp2_with (first | ((with_reducible refine gate_dst (N := 1) rfl ?_); refine box_event ?hg (N := 1) ?hd (cs := #[.int .i64 a0_0, .string a0_1]) (t := 26) ?hr ?_; (case hd => rfl); (case hg => rfl); (case hr => first | (go_simp; done) | (go_simp; rfl)); intro gb303 hg w4 hbox hb; have BK303 := Aside0.mk (hbox); have GW303 := Aside0.mk ((by rw [hg]; exact (below_size zB) : w.heap.size ≤ gb303)); have GE303 := Aside0.mk ((by rw [hg]; exact (below_size zB) : w.heap.size ≤ gb303)); replace HB := Aside0.mk (below_step zB hb); clear hb hbox hg; have hcz5_0 : w4.cell? ⟨gb303, 0, none⟩ = some (.int .i64 a0_0) := (blk_cell BK303.out 0).trans rfl; have hcz5_1 : w4.cell? ⟨gb303, 1, none⟩ = some (.string a0_1) := (blk_cell BK303.out 1).trans rfl; have hfz5_0 := blk_frozen BK303.out 0; have hfz5_1 := blk_frozen BK303.out 1) | ((with_reducible refine gate_callee (f := 41) rfl ?_); refine goesL_ (some 11) rfl rfl Try.func41 (by kernel_rfl) rfl #[.agg #[.int .i64 a0_0, .string a0_1]] rfl zM ?_; (with_reducible refine (impl_orderOf.calls k a0_0 a0_1 t304 true _ A2.out).mono ?_); rintro e w6 ⟨v305, rfl, ho0, hb⟩; refine ⟨_, rfl, ?_⟩; have HO306 := Aside0.mk (Kd.R_lower ho0 (below_size (zG GE303.out))); replace BK303 := Aside0.mk (blk_below (g := gb303) (o := .cells #[.int .i64 a0_0, .string a0_1] 26 (0, 0)) (zK BK303.out) hb); replace HB := Aside0.mk (below_step (zG GE303.out) hb); (try clear hb); (try clear ho0)))
  go_loopg [5, 6] k (fun kq v5 v6 w' => ∃ (x5_1 : List (List Int)) (x6_1 : Int), v6 = .int .i64 x6_1 ∧ Aside0 (impl_LeftTable.l0 kq t304 x5_1 x6_1 a0_0 a0_1 = some r) ∧ Aside0 (kq ≤ k) ∧ Aside0 (Kd.R (Kd.int .i64) 68 w' w.heap.size (fun _ => True) v305 t304) ∧ Aside0 (Kd.S (Kd.slice 3 (Kd.int .i64)) 34 w' w.heap.size (fun _ => True) v5 x5_1) ∧ Aside0 (w'.heap[gb303]? = some (.cells #[.int .i64 a0_0, .string a0_1] 26 (0, 0))) ∧ Aside0 (Below w.heap.size w w'))
  case atStart => exact ⟨(([] : List (List Int))), (0), zF, H', ⟨Nat.le_refl _⟩, ⟨zR HO306.out⟩, ⟨by first | exact Kd.S_nil _ _ _ _ _ | exact Kd.N_nil _ _ _ _ _ | exact Kd.V_nil _ _ _ _ _ | exact Kd.Q_nil _ _ _ _ _ | exact Kd.R_nil _ _ _ _ _⟩, ⟨zK BK303.out⟩, ⟨zG GE303.out⟩⟩
  case round =>
   clear H'
   try clear c1
   try clear p2
   try clear c3
   try clear c4
   try clear hcz5_0
   try clear hcz5_1
   try clear hfz5_0
   try clear hfz5_1
   obtain ⟨x5_1, x6_1, rfl, HA, HK1, HO_3, HO_5, BK303, HB⟩ := hrel
   cases gk with
   | zero => exact absurd HA.out (by simp [impl_LeftTable.l0])
   | succ k1 =>
    have H := HA.out
    clear HA
    simp only [impl_LeftTable.l0] at H
    by_cases c7 : x6_1 < a0_0
    ·rw [if_pos c7] at H
     have c7b0 : decide (x6_1 < a0_0) = true := decide_eq_true c7
     clear c7
     by_cases c8 : 0 ≤ a0_0
     ·rw [if_pos c8] at H
      have c8b0 := eq_true c8
      have c8b1 : decide (0 ≤ a0_0) = true := decide_eq_true c8
      clear c8
      by_cases c9 : (a0_0 : Int).toNat ≤ 35184372088832
      ·rw [if_pos c9] at H
       have c9b0 := eq_true c9
       have c9b1 : decide ((a0_0 : Int).toNat ≤ 35184372088832) = true := decide_eq_true c9
       clear c9
       obtain ⟨y308, hy308⟩ : ∃ y_ : List Int, y_ = (List.replicate (a0_0 : Int).toNat 0) := ⟨_, rfl⟩
       replace H : (impl_LeftTable.l1 k1 t304 x5_1 x6_1 y308 (y308.length : Int) 0 a0_0 a0_1) = some r := by first | (rw [hy308]; with_reducible exact H) | (have H2_ := (Option.bind_some _ _).symm.trans H; rw [hy308]; with_reducible exact H2_) | (have H2_ := (Option.bind_some _ _).symm.trans H; with_reducible exact H2_) | with_reducible exact H | (rw [hy308]; exact H) | exact H
       have Ny308 := Aside0.mk hy308
       clear hy308
       have H' := Aside0.mk H
       clear H
       have hcz10_0 : wr.cell? ⟨gb303, 0, none⟩ = some (.int .i64 a0_0) := (blk_cell BK303.out 0).trans rfl
       have hcz10_1 : wr.cell? ⟨gb303, 1, none⟩ = some (.string a0_1) := (blk_cell BK303.out 1).trans rfl
       have hfz10_0 := blk_frozen BK303.out 0
       have hfz10_1 := blk_frozen BK303.out 1
       go_wp2_with (first | ((with_reducible refine gate_dst (N := 24) rfl ?_); refine Kd.R_make (Kd.int .i64) _ 3 rfl (N := 24) rfl 34 _ _ rfl a0_0 rfl rfl Try.underlying34 (.int .i64 0) 8 info3 rfl (by decide) (by omega) 0 (ok := fun _ => True) (okp := fun _ => True) rfl (fun _ hk => hk) trivial (zA) (Nat.le_trans (Nat.mul_le_mul_right _ (zA : a0_0.toNat ≤ 35184372088832)) (by omega)) (Below.refl _ _) (Nat.le_refl _) ?_; intro v309 w11 ho12 hb hg_ hnew_; clear hg_ hnew_; (first | rw [← Ny308.out] at ho12 | (simp only [Int.reduceToNat] at ho12; rw [← Ny308.out] at ho12)); replace HO_3 := Aside0.mk (Kd.R_below (zR HO_3.out) hb); replace HO_5 := Aside0.mk (Kd.S_elder' (by (with_reducible repeat (first | apply Kd.S_alloc | apply Kd.S_drewN | apply Kd.S_drew)); exact HO_5.out) (Kd.R_base ho12) hb); have HO310 := Aside0.mk (Kd.R_lower ho12 (below_size (zG GE303.out))); replace BK303 := Aside0.mk (blk_below (g := gb303) (o := .cells #[.int .i64 a0_0, .string a0_1] 26 (0, 0)) (zK BK303.out) hb); replace HB := Aside0.mk (below_step (zG GE303.out) hb); clear hb ho12; obtain ⟨Ao13, co13, eo13⟩ := Kd.R_slice HO310.out; subst eo13))
       go_loopg [27] k1 (fun kq v27 w' => ∃ (x7_2 : List Int) (x27_2 : Int), v27 = .int .i64 x27_2 ∧ Aside0 (impl_LeftTable.l1 kq t304 x5_1 x6_1 x7_2 (y308.length : Int) x27_2 a0_0 a0_1 = some r) ∧ Aside0 (kq ≤ k1) ∧ Aside0 (Kd.R (Kd.int .i64) 68 w' w.heap.size (fun _ => True) v305 t304) ∧ Aside0 (Kd.S (Kd.slice 3 (Kd.int .i64)) 34 w' w.heap.size (fun k_ => some k_ ≠ ((.slice Ao13 y308.length co13) : Value).ownBlock) u5 x5_1) ∧ Aside0 (Kd.R (Kd.int .i64) 3 w' w.heap.size (fun _ => True) (.slice Ao13 y308.length co13) x7_2) ∧ Aside0 (w'.heap[gb303]? = some (.cells #[.int .i64 a0_0, .string a0_1] 26 (0, 0))) ∧ Aside0 (Below w.heap.size w w'))
       case atStart => exact ⟨(y308), (0), zF, H', ⟨Nat.le_refl _⟩, ⟨zR HO_3.out⟩, ⟨by (with_reducible repeat (first | apply Kd.S_alloc | apply Kd.S_drewN | apply Kd.S_drew)); exact Kd.S_mono HO_5.out (fun _ hk => hk.2)⟩, ⟨zR HO310.out⟩, ⟨zK BK303.out⟩, ⟨zG GE303.out⟩⟩
       case round =>
        clear H'
        try clear c1
        try clear p2
        try clear c3
        try clear c4
        try clear c7
        try clear c7b0
        try clear c8
        try clear c8b0
        try clear c8b1
        try clear c9
        try clear c9b0
        try clear c9b1
        try clear hcz10_0
        try clear hcz10_1
        try clear hcz5_0
        try clear hcz5_1
        try clear hfz10_0
        try clear hfz10_1
        try clear hfz5_0
        try clear hfz5_1
        try clear p2
        obtain ⟨x7_2, x27_2, rfl, HA, HK2, HO_3, HO_5, HO_7, BK303, HB⟩ := hrel
        have hl7_2 := (Kd.R_reads' HO_7.out).1
        rw [hl7_2] at HO_7
        (try simp only [hl7_2])
        (try simp only [hl7_2] at BK303)
        (try simp only [hl7_2] at HO_3)
        (try simp only [hl7_2] at HO_5)
        cases gk with
        | zero => exact absurd HA.out (by simp [impl_LeftTable.l1])
        | succ k2 =>
         have H := HA.out
         clear HA
         simp only [impl_LeftTable.l1] at H
         by_cases c14 : x27_2 < (y308.length : Int)
         ·rw [if_pos c14] at H
          have c14b0 : decide (x27_2 < (y308.length : Int)) = true := decide_eq_true c14
          (try simp only [hl7_2] at c14b0)
          clear c14
          by_cases c15 : x6_1 = x27_2
          ·rw [if_pos c15] at H
           have c15b0 : (x6_1 == x27_2) = true := beq_iff_eq.mpr c15
           have c15b1 : (x6_1 != x27_2) = false := bne_eq_false_iff_eq.mpr c15
           clear c15
           have H' := Aside0.mk H
           clear H
           go_wp2
           (try simp only [← hl7_2])
           go_roundg k2
           case measure => have := HK1.out; have := HK2.out; omega
           case rel => exact ⟨(x7_2), (wrap64 (x27_2 + 1)), zF, H', ⟨by have := HK1.out; have := HK2.out; omega⟩, ⟨by (try simp only [hl7_2]); (with_reducible repeat (first | apply Kd.R_alloc | apply Kd.R_drewN | apply Kd.R_drew)); exact HO_3.out⟩, ⟨by (try simp only [hl7_2]); (with_reducible repeat (first | apply Kd.S_alloc | apply Kd.S_drewN | apply Kd.S_drew)); exact HO_5.out⟩, ⟨by (try simp only [hl7_2]); (with_reducible repeat (first | apply Kd.R_alloc | apply Kd.R_drewN | apply Kd.R_drew)); exact HO_7.out⟩, ⟨by (try simp only [hl7_2]); (with_reducible repeat (first | refine blk_drewN ?_ _ | refine blk_drew ?_ | refine blk_alloc ?_ _)); exact BK303.out⟩, ⟨zG GE303.out⟩⟩
          ·rw [if_neg c15] at H
           have c15b0 : (x6_1 == x27_2) = false := beq_eq_false_iff_ne.mpr c15
           have c15b1 : (x6_1 != x27_2) = true := bne_iff_ne.mpr c15
           by_cases c16 : t304.length = 344
           ·rw [if_pos c16] at H
            have c16b0 := eq_true c16
            have c16b1 : decide (t304.length = 344) = true := decide_eq_true c16
            clear c16
            replace H := Option.bind_eq_some_iff.mp H
            obtain ⟨t311, A170, H⟩ := H
            replace H : (if 0 ≤ x27_2 then (if x27_2 < (x7_2.length : Int) then (impl_LeftTable.l1 k2 t304 x5_1 x6_1 (x7_2.set (x27_2 : Int).toNat t311) (y308.length : Int) (wrap64 (x27_2 + 1)) a0_0 a0_1) else (none)) else (none)) = some r := H
            have A17 := Aside0.mk A170
            clear A170
            by_cases c18 : 0 ≤ x27_2
            ·rw [if_pos c18] at H
             have c18b0 : decide (0 ≤ x27_2) = true := decide_eq_true c18
             clear c18
             by_cases c19 : x27_2 < (x7_2.length : Int)
             ·rw [if_pos c19] at H
              have c19b0 : decide (x27_2 < (x7_2.length : Int)) = true := decide_eq_true c19
              clear c19
              obtain ⟨y312, hy312⟩ : ∃ y_ : List Int, y_ = (x7_2.set (x27_2 : Int).toNat t311) := ⟨_, rfl⟩
              replace H : (impl_LeftTable.l1 k2 t304 x5_1 x6_1 y312 (y308.length : Int) (wrap64 (x27_2 + 1)) a0_0 a0_1) = some r := by first | (rw [hy312]; with_reducible exact H) | (have H2_ := (Option.bind_some _ _).symm.trans H; rw [hy312]; with_reducible exact H2_) | (have H2_ := (Option.bind_some _ _).symm.trans H; with_reducible exact H2_) | with_reducible exact H | (rw [hy312]; exact H) | exact H
              have Ny312 := Aside0.mk hy312
              clear hy312
              have H' := Aside0.mk H
              clear H
              obtain ⟨go21, co21, eo21, gb21, gl21, cl21, HG21⟩ := Kd.R_form HO_3.out (by have hl_ := Nat.le_of_eq (Eq.symm (zA : t304.length = 344)); omega)
              (first | cases eo21 | (injection eo21 with ea_ en_ ec_; (first | subst ea_ | (injection ea_ with ea_; subst ea_)); subst ec_; clear en_))
              have GB21 := Aside0.mk gb21
              have GG21 := Aside0.mk HG21
              clear gb21 gl21 HG21
              go_wp2_with (first | ((with_reducible refine gate_callee (f := 43) rfl ?_); refine goesL_ (some 38) rfl rfl Try.func43 (by kernel_rfl) rfl #[.pointer (some ⟨go21, 0, none⟩), .int .i64 x6_1, .int .i64 x27_2] rfl zM ?_; (with_reducible refine (impl_chi_left.calls k2 _ t304 x6_1 x27_2 t311 _ ?side1 ?side2 A17.out).mono ?_); (case side1 => repeat (first | exact (Kd.R_reads' HO_3.out).2.2 | (with_reducible refine Kd.C_alloc ?_ _) | (with_reducible refine Kd.C_drewN ?_ _) | (with_reducible refine Kd.C_drew ?_))); (case side2 => exact (zA : t304.length = 344)); rintro e w' ⟨rfl, ⟨nd, rfl⟩⟩; refine ⟨_, rfl, ?_⟩; (try (rw [drewN_self wr]; generalize hq_ : World.drewN wr _ = wr; have n0_ : Aside0 (Kd.R (Kd.int .i64) 68 wr w.heap.size (fun _ => True) (.slice (some ⟨go21, 0, none⟩) t304.length co21) t304) := ⟨by rw [← hq_]; exact (zR HO_3.out)⟩; have n1_ : Aside0 (Kd.S (Kd.slice 3 (Kd.int .i64)) 34 wr w.heap.size (fun k_ => some k_ ≠ (.slice Ao13 x7_2.length co13 : Value).ownBlock) u5 x5_1) := ⟨by rw [← hq_]; exact (by (with_reducible repeat (first | apply Kd.S_alloc | apply Kd.S_drewN | apply Kd.S_drew)); exact HO_5.out)⟩; have n2_ : Aside0 (Kd.R (Kd.int .i64) 3 wr w.heap.size (fun _ => True) (.slice Ao13 x7_2.length co13) x7_2) := ⟨by rw [← hq_]; exact (zR HO_7.out)⟩; have n3_ : Aside0 (wr.heap[gb303]? = some (.cells #[.int .i64 a0_0, .string a0_1] 26 (0, 0))) := ⟨by rw [← hq_]; exact (zK BK303.out)⟩; have n4_ : Aside0 (Below w.heap.size w wr) := ⟨by rw [← hq_]; exact (zG GE303.out)⟩; clear HO_3 HO_5 HO_7 BK303 HB hq_; have HO_3 := n0_; have HO_5 := n1_; have HO_7 := n2_; have BK303 := n3_; have HB := n4_; clear n0_ n1_ n2_ n3_ n4_)); have p20 : 0 ≤ (x27_2 : Int) := zA; have q20 : (x27_2 : Int) < ((x7_2.length : Int) : Int) := zA; obtain ⟨go20, co20, eo20, gb20, gl20, cl20, HG20⟩ := Kd.R_form HO_7.out (by omega); (first | cases eo20 | (injection eo20 with ea_ en_ ec_; (first | subst ea_ | (injection ea_ with ea_; subst ea_)); subst ec_; clear en_)); have GB20 := Aside0.mk gb20; have GG20 := Aside0.mk HG20; clear gb20 gl20 HG20; obtain ⟨hx20_0, hf20_0⟩ := Kd.R_celln 0 HO_7.out (x27_2 : Int) p20 q20; replace p20 := eq_true p20; replace q20 := eq_true q20; obtain ⟨hy22_, hz22_⟩ := Kd.R_celln 0 HO_7.out (x27_2 : Int) (zA) (zA); have HP22 := Kd.R_putg HO_7.out (x27_2 : Int) t311) | ((with_reducible refine gate_store (t := 3) (p := 39) rfl ?_); refine store_event (t := 3) (p := 39) (v := ?vo_w23) (w1 := (wr.setCell ⟨go20, (x27_2 : Int).toNat, none⟩ (.int .i64 t311))) ?hg ?ho ?hn ?hr ?_; (case ho => rfl); (case hg => rfl); (case hn => rfl); (case hr => first | (go_simp; done) | (go_simp; rfl)); intro w23 hw; have hg : wr.grownBy w23 (some go20) := (by rw [hw]; exact HP22.2); have hp_ : Kd.R (Kd.int .i64) 3 w23 w.heap.size (fun _ => True) (.slice (some ⟨go20, 0, none⟩) x7_2.length co13) y312 := (by rw [hw, Ny312.out]; exact HP22.1); clear HP22; have n0_ := Aside0.mk (Kd.R_over' (v := (.slice (some ⟨go20, 0, none⟩) x7_2.length co13)) (zR HO_3.out) (Kd.R_typed HO_7.out) (by decide) hg); have n1_ := Aside0.mk (Kd.S_after (v := (.slice (some ⟨go20, 0, none⟩) x7_2.length co13)) (v1 := (.slice (some ⟨go20, 0, none⟩) x7_2.length co13)) (ok := (fun _ => True)) (by (with_reducible repeat (first | apply Kd.S_alloc | apply Kd.S_drewN | apply Kd.S_drew)); exact Kd.S_mono HO_5.out (fun _ hk => ⟨trivial, hk⟩)) hg (.inl rfl)); have n2_ := Aside0.mk (hp_); have n3_ := Aside0.mk (blk_grown (g := gb303) (o := .cells #[.int .i64 a0_0, .string a0_1] 26 (0, 0)) (zK BK303.out) hg (Kd.R_ne HO_7.out BK303.out (by decide))); have n4_ := Aside0.mk ((by rw [hw]; exact below_set (HB.out) GB20.out : Below w.heap.size w w23)); clear HO_3; clear HO_5; clear HO_7; clear BK303; clear HB; have HO_3 := n0_; have HO_5 := n1_; have HO_7 := n2_; have BK303 := n3_; have HB := n4_; clear n0_ n1_ n2_ n3_ n4_; clear hg hw hp_))
              (try simp only [← hl7_2])
              go_roundg k2
              case measure => have := HK1.out; have := HK2.out; omega
              case rel => exact ⟨(y312), (wrap64 (x27_2 + 1)), zF, H', ⟨by have := HK1.out; have := HK2.out; omega⟩, ⟨by (try simp only [hl7_2]); (with_reducible repeat (first | apply Kd.R_alloc | apply Kd.R_drewN | apply Kd.R_drew)); exact HO_3.out⟩, ⟨by (try simp only [hl7_2]); (with_reducible repeat (first | apply Kd.S_alloc | apply Kd.S_drewN | apply Kd.S_drew)); exact Kd.S_mono HO_5.out (fun _ hk => hk.2)⟩, ⟨by (try simp only [hl7_2]); (with_reducible repeat (first | apply Kd.R_alloc | apply Kd.R_drewN | apply Kd.R_drew)); exact HO_7.out⟩, ⟨by (try simp only [hl7_2]); (with_reducible repeat (first | refine blk_drewN ?_ _ | refine blk_drew ?_ | refine blk_alloc ?_ _)); exact BK303.out⟩, ⟨zG GE303.out⟩⟩
             ·rw [if_neg c19] at H
              exact absurd H (by simp)
            ·rw [if_neg c18] at H
             exact absurd H (by simp)
           ·rw [if_neg c16] at H
            exact absurd H (by simp)
         ·rw [if_neg c14] at H
          have c14b0 : decide (x27_2 < (y308.length : Int)) = false := decide_eq_false c14
          (try simp only [hl7_2] at c14b0)
          clear c14
          by_cases c24 : x5_1.length < 5864062014805
          ·rw [if_pos c24] at H
           have LMc24 := Aside0.mk c24
           clear c24
           obtain ⟨y313, hy313⟩ : ∃ y_ : List (List Int), y_ = (x5_1 ++ [x7_2]) := ⟨_, rfl⟩
           replace H : (impl_LeftTable.l0 k2 t304 y313 (wrap64 (x6_1 + 1)) a0_0 a0_1) = some r := by first | (rw [hy313]; with_reducible exact H) | (have H2_ := (Option.bind_some _ _).symm.trans H; rw [hy313]; with_reducible exact H2_) | (have H2_ := (Option.bind_some _ _).symm.trans H; with_reducible exact H2_) | with_reducible exact H | (rw [hy313]; exact H) | exact H
           have Ny313 := Aside0.mk hy313
           clear hy313
           have H' := Aside0.mk H
           clear H
           go_wp2_with (first | ((with_reducible refine gate_builtin (b := .append) (xs := #[.tmp 41, .tmp 43]) rfl ?_); at_builtin; refine Kd.S_append (Kd.slice 3 (Kd.int .i64)) (w0 := w) w.heap.size rfl (.tmp 41) (.tmp 43) 29 34 (.slice none 0 0) 24 rfl Try.underlying29 info34 rfl (by decide) (by omega) u5 x5_1 x7_2 [.slice Ao13 x7_2.length co13] (fun _ => True) (fun k_ => some k_ = (.slice Ao13 x7_2.length co13 : Value).ownBlock) rfl rfl ?aP (fun k_ hk_ => ((Kd.R_mono (ok' := fun k_ => ((fun _ => True)) k_ ∧ some k_ ≠ (u5 : Value).ownBlock) (Kd.R_apart' (HO_7.out) (Kd.S_typed HO_5.out) (by decide)) (fun k_ hk => ⟨trivial, hk.2⟩))).1 k_ hk_.symm) ?aF ?aO ?aB ?aS ?aL ?_; (case aP => exact Kd.M_row (Kd.R_mono (Kd.R_tight rfl (Kd.R_mono (ok' := fun k_ => ((fun _ => True)) k_ ∧ some k_ ≠ (u5 : Value).ownBlock) (Kd.R_apart' (HO_7.out) (Kd.S_typed HO_5.out) (by decide)) (fun k_ hk => ⟨trivial, hk.2⟩))) (fun _ h_ => h_))); (case aB => exact (zG GE303.out)); (case aF => exact (fun _ _ => trivial)); (case aO => exact (by (with_reducible repeat (first | apply Kd.S_alloc | apply Kd.S_drewN | apply Kd.S_drew)); exact Kd.S_mono HO_5.out (fun k_ hk => ⟨trivial, fun e_ => hk e_⟩))); (case aS => exact (below_size (zG GE303.out))); (case aL => have := LMc24.out; omega); intro v314 w25 ho hb hg hat; rw [← Ny313.out] at ho; have n0_ := Aside0.mk (Kd.R_over' (zR HO_3.out) (Kd.S_typed (by (with_reducible repeat (first | apply Kd.S_alloc | apply Kd.S_drewN | apply Kd.S_drew)); exact HO_5.out)) (by decide) hg); have n1_ := Aside0.mk (blk_grown (g := gb303) (o := .cells #[.int .i64 a0_0, .string a0_1] 26 (0, 0)) (zK BK303.out) hg (Kd.S_ne HO_5.out BK303.out (by decide))); have n2_ := Aside0.mk (hb); have n3_ := Aside0.mk (ho); clear HO_3; clear BK303; clear HB; clear HO_5; clear HO_7; have HO_3 := n0_; have BK303 := n1_; have HB := n2_; have HO315 := n3_; clear n0_ n1_ n2_ n3_; clear ho hb hg hat))
           (try simp only [← hl7_2])
           go_roundg k2
           case measure => have := HK1.out; have := HK2.out; omega
           case rel => exact ⟨(y313), (wrap64 (x6_1 + 1)), zF, H', ⟨by have := HK1.out; have := HK2.out; omega⟩, ⟨by (try simp only [hl7_2]); (with_reducible repeat (first | apply Kd.R_alloc | apply Kd.R_drewN | apply Kd.R_drew)); exact HO_3.out⟩, ⟨by (try simp only [hl7_2]); (with_reducible repeat (first | apply Kd.S_alloc | apply Kd.S_drewN | apply Kd.S_drew)); exact HO315.out⟩, ⟨by (try simp only [hl7_2]); (with_reducible repeat (first | refine blk_drewN ?_ _ | refine blk_drew ?_ | refine blk_alloc ?_ _)); exact BK303.out⟩, ⟨zG GE303.out⟩⟩
          ·rw [if_neg c24] at H
           exact absurd H (by simp)
      ·rw [if_neg c9] at H
       exact absurd H (by simp)
     ·rw [if_neg c8] at H
      exact absurd H (by simp)
    ·rw [if_neg c7] at H
     have c7b0 : decide (x6_1 < a0_0) = false := decide_eq_false c7
     clear c7
     obtain rfl := Option.some.inj H
     have hcz26_0 : wr.cell? ⟨gb303, 0, none⟩ = some (.int .i64 a0_0) := (blk_cell BK303.out 0).trans rfl
     have hcz26_1 : wr.cell? ⟨gb303, 1, none⟩ = some (.string a0_1) := (blk_cell BK303.out 1).trans rfl
     have hfz26_0 := blk_frozen BK303.out 0
     have hfz26_1 := blk_frozen BK303.out 1
     go_wp2
     go_ret
     exact ⟨_, zE, by (with_reducible repeat (first | apply Kd.S_alloc | apply Kd.S_drewN | apply Kd.S_drew)); exact HO_5.out, zG GE303.out⟩
 ·replace c3 := Bool.eq_false_iff.mpr c3
  subst c3
  have H1 : (some ([] : List (List Int))) = some r := by rw [if_neg (show ¬ (false = true) by decide)] at H; exact H
  clear H
  have H := H1
  clear H1
  obtain rfl := Option.some.inj H
  go_enter Try.func17, Try.ntmps17
  go_wp2_with (first | ((with_reducible refine gate_dst (N := 1) rfl ?_); refine box_event ?hg (N := 1) ?hd (cs := #[.int .i64 a0_0, .string a0_1]) (t := 26) ?hr ?_; (case hd => rfl); (case hg => rfl); (case hr => first | (go_simp; done) | (go_simp; rfl)); intro gb303 hg w27 hbox hb; have BK303 := Aside0.mk (hbox); have GW303 := Aside0.mk ((by rw [hg]; exact (below_size zB) : w.heap.size ≤ gb303)); have GE303 := Aside0.mk ((by rw [hg]; exact (below_size zB) : w.heap.size ≤ gb303)); replace HB := Aside0.mk (below_step zB hb); clear hb hbox hg; have hcz28_0 : w27.cell? ⟨gb303, 0, none⟩ = some (.int .i64 a0_0) := (blk_cell BK303.out 0).trans rfl; have hcz28_1 : w27.cell? ⟨gb303, 1, none⟩ = some (.string a0_1) := (blk_cell BK303.out 1).trans rfl; have hfz28_0 := blk_frozen BK303.out 0; have hfz28_1 := blk_frozen BK303.out 1) | ((with_reducible refine gate_callee (f := 41) rfl ?_); refine goesL_ (some 11) rfl rfl Try.func41 (by kernel_rfl) rfl #[.agg #[.int .i64 a0_0, .string a0_1]] rfl zM ?_; (with_reducible refine (impl_orderOf.calls k a0_0 a0_1 t304 false _ A2.out).mono ?_); rintro e w29 ⟨v305, rfl, ho0, hb⟩; refine ⟨_, rfl, ?_⟩; have HO306 := Aside0.mk (Kd.R_lower ho0 (below_size (zG GE303.out))); replace BK303 := Aside0.mk (blk_below (g := gb303) (o := .cells #[.int .i64 a0_0, .string a0_1] 26 (0, 0)) (zK BK303.out) hb); replace HB := Aside0.mk (below_step (zG GE303.out) hb); (try clear hb); (try clear ho0)))
  go_ret
  exact ⟨_, zE, by first | exact Kd.S_nil _ _ _ _ _ | exact Kd.N_nil _ _ _ _ _ | exact Kd.V_nil _ _ _ _ _ | exact Kd.Q_nil _ _ _ _ _ | exact Kd.R_nil _ _ _ _ _, zG GE303.out⟩
/-! ### laws_FnExactLeftTable: function 4 -/
def laws_FnExactLeftTable.f (k : Nat) (a0_0 : Int) (a0_1 : ByteArray) : Option (Bool) := (laws_szSigns.f a0_0 a0_1 1048576).bind fun t1 => (if t1 < 0 then (some true) else ((laws_toSigns.f a0_0 a0_1).bind fun bt2 => ((spec_LeftTable.f k bt2.1 bt2.2).bind fun t3 => ((laws_toSigns.f a0_0 a0_1).bind fun bt4 => ((impl_LeftTable.f k bt4.1 bt4.2).bind fun t5 => ((laws_eqIntSS.f k t5 t3).bind fun t6 => (if t6 = true then ((laws_markIntSS.f k t5 1).bind fun bt7 => ((laws_heldIntSS.f k bt7.2 1).bind fun t8 => (if t8 < 0 then (some false) else (if t8 = bt7.1 then ((laws_toSigns.f a0_0 a0_1).bind fun bt9 => ((impl_LeftTable.f k bt9.1 bt9.2).bind fun t10 => ((laws_eqIntSS.f k t10 t3).bind fun t11 => (if t11 = true then ((laws_heldIntSS.f k bt7.2 1).bind fun t12 => (if t12 < 0 then (some false) else (if t12 = bt7.1 then (some true) else (some false)))) else (some false))))) else (some false))))) else (some false))))))))
set_option maxHeartbeats 8000000 in
set_option maxRecDepth 100000 in
theorem laws_FnExactLeftTable.calls (k : Nat) (a0_0 : Int) (a0_1 : ByteArray) (r : Bool) (w : World) (h : laws_FnExactLeftTable.f k a0_0 a0_1 = some r) (hr_ : r = true) :
    Calls Try.prog 4 #[.agg #[.int .i64 a0_0, .string a0_1]] w fun e w' => e = .returned (.bool r) ∧ Below w.heap.size w w' := by
  subst hr_
  have hu23 := Try.underlying23
  have hu26 := Try.underlying26
  have HB := Aside0.mk (Below.refl w.heap.size w)
  unfold laws_FnExactLeftTable.f at h
  obtain ⟨t1, A_, hn_⟩ := Option.bind_eq_some_iff.mp h
  clear h
  have h := hn_
  clear hn_
  have A1 := Aside0.mk A_
  clear A_
  by_cases c1 : t1 < 0
  · have c1b := decide_eq_true c1
    clear c1 h
    go_enter Try.func4, Try.ntmps4
    go_wp2_with (first | ((with_reducible refine gate_dst (N := 1) rfl ?_); refine box_event ?hg (N := 1) ?hd (cs := #[.int .i64 a0_0, .string a0_1]) (t := 23) ?hr ?_; (case hd => rfl); (case hg => rfl); (case hr => first | (go_simp; done) | (go_simp; rfl)); intro gb1 hg W hbox hb; have n0_ := Aside0.mk (below_step HB.out hb); have n1_ := Aside0.mk hbox; clear HB; have HB := n0_; have BK := n1_; clear n0_ n1_; clear hb hbox hg; have hcz0_0 : W.cell? ⟨gb1, 0, none⟩ = some (.int .i64 a0_0) := (blk_cell BK.out 0).trans rfl; have hcz0_1 : W.cell? ⟨gb1, 1, none⟩ = some (.string a0_1) := (blk_cell BK.out 1).trans rfl; have hfz0_0 := blk_frozen BK.out 0; have hfz0_1 := blk_frozen BK.out 1) | ((with_reducible refine gate_callee (f := 12) rfl ?_); refine goesL_ (some 11) rfl rfl Try.func12 (by kernel_rfl) rfl #[.agg #[.int .i64 a0_0, .string a0_1], .int .i64 1048576] rfl (by (try simp only [List.map_toArray, List.map_cons, List.map_nil]); first | done | rfl) ?_; (with_reducible refine (laws_szSigns.calls a0_0 a0_1 1048576 t1 _ A1.out).mono ?_); rintro e W1 ⟨rfl, hb⟩; refine ⟨_, rfl, ?_⟩; have n0_ := Aside0.mk (blk_below (g := gb1) (o := .cells #[.int .i64 a0_0, .string a0_1] 23 (0, 0)) BK.out hb); have n1_ := Aside0.mk (below_step HB.out hb); clear BK HB; have BK := n0_; have HB := n1_; clear n0_ n1_; (try clear hb); have hcz1_0 : W1.cell? ⟨gb1, 0, none⟩ = some (.int .i64 a0_0) := (blk_cell BK.out 0).trans rfl; have hcz1_1 : W1.cell? ⟨gb1, 1, none⟩ = some (.string a0_1) := (blk_cell BK.out 1).trans rfl; have hfz1_0 := blk_frozen BK.out 0; have hfz1_1 := blk_frozen BK.out 1))
    go_ret
    exact ⟨rfl, HB.out⟩
  rw [if_neg c1] at h
  have c1b := decide_eq_false c1
  clear c1
  obtain ⟨⟨t2a, t2b⟩, A_, hn_⟩ := Option.bind_eq_some_iff.mp h
  clear h
  have h := hn_
  clear hn_
  (try dsimp only at A_ h)
  have A2 := Aside0.mk A_
  clear A_
  obtain ⟨t3, A_, hn_⟩ := Option.bind_eq_some_iff.mp h
  clear h
  have h := hn_
  clear hn_
  (try dsimp only at A_ h)
  have A3 := Aside0.mk A_
  clear A_
  obtain ⟨⟨t4a, t4b⟩, A_, hn_⟩ := Option.bind_eq_some_iff.mp h
  clear h
  have h := hn_
  clear hn_
  (try dsimp only at A_ h)
  have A4 := Aside0.mk A_
  clear A_
  obtain ⟨t5, A_, hn_⟩ := Option.bind_eq_some_iff.mp h
  clear h
  have h := hn_
  clear hn_
  (try dsimp only at A_ h)
  have A5 := Aside0.mk A_
  clear A_
  obtain ⟨t6, A_, hn_⟩ := Option.bind_eq_some_iff.mp h
  clear h
  have h := hn_
  clear hn_
  (try dsimp only at A_ h)
  have A6 := Aside0.mk A_
  clear A_
  cases t6 with
  | false => rw [if_neg (by decide)] at h; cases h
  | true =>
  rw [if_pos rfl] at h
  obtain ⟨⟨t7a, t7b⟩, A_, hn_⟩ := Option.bind_eq_some_iff.mp h
  clear h
  have h := hn_
  clear hn_
  (try dsimp only at A_ h)
  have A7 := Aside0.mk A_
  clear A_
  obtain ⟨t8, A_, hn_⟩ := Option.bind_eq_some_iff.mp h
  clear h
  have h := hn_
  clear hn_
  (try dsimp only at A_ h)
  have A8 := Aside0.mk A_
  clear A_
  by_cases c8 : t8 < 0
  · rw [if_pos c8] at h; cases h
  rw [if_neg c8] at h
  have c8b := decide_eq_false c8
  clear c8
  by_cases e8 : t8 = t7a
  case neg => rw [if_neg e8] at h; cases h
  rw [if_pos e8] at h
  subst e8
  obtain ⟨⟨t9a, t9b⟩, A_, hn_⟩ := Option.bind_eq_some_iff.mp h
  clear h
  have h := hn_
  clear hn_
  (try dsimp only at A_ h)
  have A9 := Aside0.mk A_
  clear A_
  obtain ⟨t10, A_, hn_⟩ := Option.bind_eq_some_iff.mp h
  clear h
  have h := hn_
  clear hn_
  (try dsimp only at A_ h)
  have A10 := Aside0.mk A_
  clear A_
  obtain ⟨t11, A_, hn_⟩ := Option.bind_eq_some_iff.mp h
  clear h
  have h := hn_
  clear hn_
  (try dsimp only at A_ h)
  have A11 := Aside0.mk A_
  clear A_
  cases t11 with
  | false => rw [if_neg (by decide)] at h; cases h
  | true =>
  rw [if_pos rfl] at h
  obtain ⟨t12, A_, hn_⟩ := Option.bind_eq_some_iff.mp h
  clear h
  have h := hn_
  clear hn_
  (try dsimp only at A_ h)
  have A12 := Aside0.mk A_
  clear A_
  by_cases c12 : t12 < 0
  · rw [if_pos c12] at h; cases h
  rw [if_neg c12] at h
  have c12b := decide_eq_false c12
  clear c12
  by_cases e12 : t12 = t8
  case neg => rw [if_neg e12] at h; cases h
  subst e12
  clear h
  go_enter Try.func4, Try.ntmps4
  go_wp2_with (first | ((with_reducible refine gate_dst (N := 1) rfl ?_); refine box_event ?hg (N := 1) ?hd (cs := #[.int .i64 a0_0, .string a0_1]) (t := 23) ?hr ?_; (case hd => rfl); (case hg => rfl); (case hr => first | (go_simp; done) | (go_simp; rfl)); intro gb1 hg W hbox hb; have n0_ := Aside0.mk (below_step HB.out hb); have n1_ := Aside0.mk hbox; clear HB; have HB := n0_; have BK := n1_; clear n0_ n1_; clear hb hbox hg; have hcz0_0 : W.cell? ⟨gb1, 0, none⟩ = some (.int .i64 a0_0) := (blk_cell BK.out 0).trans rfl; have hcz0_1 : W.cell? ⟨gb1, 1, none⟩ = some (.string a0_1) := (blk_cell BK.out 1).trans rfl; have hfz0_0 := blk_frozen BK.out 0; have hfz0_1 := blk_frozen BK.out 1) | ((with_reducible refine gate_callee (f := 12) rfl ?_); refine goesL_ (some 11) rfl rfl Try.func12 (by kernel_rfl) rfl #[.agg #[.int .i64 a0_0, .string a0_1], .int .i64 1048576] rfl (by (try simp only [List.map_toArray, List.map_cons, List.map_nil]); first | done | rfl) ?_; (with_reducible refine (laws_szSigns.calls a0_0 a0_1 1048576 t1 _ A1.out).mono ?_); rintro e W1 ⟨rfl, hb⟩; refine ⟨_, rfl, ?_⟩; have n0_ := Aside0.mk (blk_below (g := gb1) (o := .cells #[.int .i64 a0_0, .string a0_1] 23 (0, 0)) BK.out hb); have n1_ := Aside0.mk (below_step HB.out hb); clear BK HB; have BK := n0_; have HB := n1_; clear n0_ n1_; (try clear hb); have hcz1_0 : W1.cell? ⟨gb1, 0, none⟩ = some (.int .i64 a0_0) := (blk_cell BK.out 0).trans rfl; have hcz1_1 : W1.cell? ⟨gb1, 1, none⟩ = some (.string a0_1) := (blk_cell BK.out 1).trans rfl; have hfz1_0 := blk_frozen BK.out 0; have hfz1_1 := blk_frozen BK.out 1) | ((with_reducible refine gate_callee (f := 14) rfl ?_); refine goesL_ (some 15) rfl rfl Try.func14 (by kernel_rfl) rfl #[.agg #[.int .i64 a0_0, .string a0_1]] rfl (by (try simp only [List.map_toArray, List.map_cons, List.map_nil]); first | done | rfl) ?_; (with_reducible refine (laws_toSigns.calls a0_0 a0_1 t2a t2b _ A2.out).mono ?_); rintro e W2 ⟨rfl, hb⟩; refine ⟨_, rfl, ?_⟩; have n0_ := Aside0.mk (blk_below (g := gb1) (o := .cells #[.int .i64 a0_0, .string a0_1] 23 (0, 0)) BK.out hb); have n1_ := Aside0.mk (below_step HB.out hb); clear BK HB; have BK := n0_; have HB := n1_; clear n0_ n1_; (try clear hb); have hcz2_0 : W2.cell? ⟨gb1, 0, none⟩ = some (.int .i64 a0_0) := (blk_cell BK.out 0).trans rfl; have hcz2_1 : W2.cell? ⟨gb1, 1, none⟩ = some (.string a0_1) := (blk_cell BK.out 1).trans rfl; have hfz2_0 := blk_frozen BK.out 0; have hfz2_1 := blk_frozen BK.out 1) | ((with_reducible refine gate_callee (f := 16) rfl ?_); refine goesL_ (some 16) rfl rfl Try.func16 (by kernel_rfl) rfl #[.agg #[.int .i64 t2a, .string t2b]] rfl (by (try simp only [List.map_toArray, List.map_cons, List.map_nil]); first | done | rfl) ?_; (with_reducible refine (spec_LeftTable.calls k t2a t2b t3 _ A3.out).mono ?_); rintro e W3 ⟨v3, rfl, ho0, hb⟩; refine ⟨_, rfl, ?_⟩; have n0_ := Aside0.mk (Kd.S_lower ho0 (below_size HB.out)); have n1_ := Aside0.mk (blk_below (g := gb1) (o := .cells #[.int .i64 a0_0, .string a0_1] 23 (0, 0)) BK.out hb); have n2_ := Aside0.mk (below_step HB.out hb); clear BK HB; have HX := n0_; have BK := n1_; have HB := n2_; clear n0_ n1_ n2_; (try clear hb); clear ho0; have hcz3_0 : W3.cell? ⟨gb1, 0, none⟩ = some (.int .i64 a0_0) := (blk_cell BK.out 0).trans rfl; have hcz3_1 : W3.cell? ⟨gb1, 1, none⟩ = some (.string a0_1) := (blk_cell BK.out 1).trans rfl; have hfz3_0 := blk_frozen BK.out 0; have hfz3_1 := blk_frozen BK.out 1) | ((with_reducible refine gate_callee (f := 14) rfl ?_); refine goesL_ (some 18) rfl rfl Try.func14 (by kernel_rfl) rfl #[.agg #[.int .i64 a0_0, .string a0_1]] rfl (by (try simp only [List.map_toArray, List.map_cons, List.map_nil]); first | done | rfl) ?_; (with_reducible refine (laws_toSigns.calls a0_0 a0_1 t4a t4b _ A4.out).mono ?_); rintro e W4 ⟨rfl, hb⟩; refine ⟨_, rfl, ?_⟩; have n0_ := Aside0.mk (blk_below (g := gb1) (o := .cells #[.int .i64 a0_0, .string a0_1] 23 (0, 0)) BK.out hb); have n1_ := Aside0.mk (Kd.S_below HX.out hb); have n2_ := Aside0.mk (below_step HB.out hb); clear BK HX HB; have BK := n0_; have HX := n1_; have HB := n2_; clear n0_ n1_ n2_; (try clear hb); have hcz4_0 : W4.cell? ⟨gb1, 0, none⟩ = some (.int .i64 a0_0) := (blk_cell BK.out 0).trans rfl; have hcz4_1 : W4.cell? ⟨gb1, 1, none⟩ = some (.string a0_1) := (blk_cell BK.out 1).trans rfl; have hfz4_0 := blk_frozen BK.out 0; have hfz4_1 := blk_frozen BK.out 1) | ((with_reducible refine gate_callee (f := 17) rfl ?_); refine goesL_ (some 19) rfl rfl Try.func17 (by kernel_rfl) rfl #[.agg #[.int .i64 t4a, .string t4b]] rfl (by (try simp only [List.map_toArray, List.map_cons, List.map_nil]); first | done | rfl) ?_; (with_reducible refine (impl_LeftTable.calls k t4a t4b t5 _ A5.out).mono ?_); rintro e W5 ⟨v5, rfl, ho0, hb⟩; refine ⟨_, rfl, ?_⟩; have n0_ := Aside0.mk (blk_lt BK.out); have n1_ := Aside0.mk (Kd.S_lower (Kd.S_mono (ok' := fun k_ => W4.heap.size ≤ k_) (Kd.S_bound ho0) (fun k_ hk_ => hk_.2.1)) (below_size HB.out)); have n2_ := Aside0.mk (hb.size); have n3_ := Aside0.mk (Kd.S_below (Kd.S_mono (ok' := fun k_ => k_ < W4.heap.size) (Kd.S_bound HX.out) (fun k_ hk_ => hk_.2.2.1)) hb); have n4_ := Aside0.mk (blk_below (g := gb1) (o := .cells #[.int .i64 a0_0, .string a0_1] 23 (0, 0)) BK.out hb); have n5_ := Aside0.mk (below_step HB.out hb); clear HX BK HB; have HG := n0_; have HY := n1_; have HS := n2_; have HX := n3_; have BK := n4_; have HB := n5_; clear n0_ n1_ n2_ n3_ n4_ n5_; (try clear hb); clear ho0; obtain ⟨AY, cY, eY⟩ := Kd.S_slice HY.out; subst eY; obtain ⟨AX, cX, eX⟩ := Kd.S_slice HX.out; subst eX; have hcz5_0 : W5.cell? ⟨gb1, 0, none⟩ = some (.int .i64 a0_0) := (blk_cell BK.out 0).trans rfl; have hcz5_1 : W5.cell? ⟨gb1, 1, none⟩ = some (.string a0_1) := (blk_cell BK.out 1).trans rfl; have hfz5_0 := blk_frozen BK.out 0; have hfz5_1 := blk_frozen BK.out 1) | ((with_reducible refine gate_callee (f := 18) rfl ?_); refine goesL_ (some 22) rfl rfl Try.func18 (by kernel_rfl) rfl #[.slice AY t5.length cY, .slice AX t3.length cX] rfl (by (try simp only [List.map_toArray, List.map_cons, List.map_nil]); first | done | rfl) ?_; (with_reducible refine (laws_eqIntSS.calls k _ _ t5 _ _ t3 true _ ?side1 ?side2 ?side3 ?side4 A6.out).mono ?_); (case side1 => exact (Kd.S_reads' HY.out).2.2); (case side2 => exact (Kd.S_reads' HY.out).2.1); (case side3 => exact (Kd.S_reads' HX.out).2.2); (case side4 => exact (Kd.S_reads' HX.out).2.1); rintro e W6 ⟨rfl, hd_⟩; refine ⟨_, rfl, ?_⟩; have hb := hd_.below; clear hd_; have n0_ := Aside0.mk (blk_below (g := gb1) (o := .cells #[.int .i64 a0_0, .string a0_1] 23 (0, 0)) BK.out hb); have n1_ := Aside0.mk (Kd.S_below HX.out hb); have n2_ := Aside0.mk (Kd.S_below HY.out hb); have n3_ := Aside0.mk (Nat.le_trans HS.out hb.size); have n4_ := Aside0.mk (below_step HB.out hb); clear BK HX HY HS HB; have BK := n0_; have HX := n1_; have HY := n2_; have HS := n3_; have HB := n4_; clear n0_ n1_ n2_ n3_ n4_; (try clear hb); have hcz6_0 : W6.cell? ⟨gb1, 0, none⟩ = some (.int .i64 a0_0) := (blk_cell BK.out 0).trans rfl; have hcz6_1 : W6.cell? ⟨gb1, 1, none⟩ = some (.string a0_1) := (blk_cell BK.out 1).trans rfl; have hfz6_0 := blk_frozen BK.out 0; have hfz6_1 := blk_frozen BK.out 1) | ((with_reducible refine gate_callee (f := 19) rfl ?_); refine goesL_ (some 26) rfl rfl Try.func19 (by kernel_rfl) rfl #[.slice AY t5.length cY, .int .i64 1] rfl (by (try simp only [List.map_toArray, List.map_cons, List.map_nil]); first | done | rfl) ?_; (with_reducible refine (laws_markIntSS.calls k (fun k_ => W4.heap.size ≤ k_) (.slice AY t5.length cY) t5 1 _ t7b w _ HB.out HY.out A7.out).mono ?_); rintro e W7 ⟨rfl, hy0, hb, hkp⟩; refine ⟨_, rfl, ?_⟩; have n0_ := Aside0.mk (blk_kept BK.out hkp (fun hs_ => absurd HG.out (Nat.not_lt.2 hs_))); have n1_ := Aside0.mk (Kd.S_step HX.out (fun k_ hk_ hlt_ => hkp.2 k_ hlt_ (fun hs_ => absurd hk_ (Nat.not_lt.2 hs_)))); have n2_ := Aside0.mk (Kd.S_mono (ok' := fun k_ => W4.heap.size ≤ k_) hy0 (fun k_ hk_ => hk_.elim id (fun h_ => Nat.le_trans HS.out h_))); have n3_ := Aside0.mk (Nat.le_trans HS.out hkp.1); have n4_ := Aside0.mk (hb); clear BK HX HY HS HB; have BK := n0_; have HX := n1_; have HY := n2_; have HS := n3_; have HB := n4_; clear n0_ n1_ n2_ n3_ n4_; (try clear hb); clear hkp hy0; have hcz7_0 : W7.cell? ⟨gb1, 0, none⟩ = some (.int .i64 a0_0) := (blk_cell BK.out 0).trans rfl; have hcz7_1 : W7.cell? ⟨gb1, 1, none⟩ = some (.string a0_1) := (blk_cell BK.out 1).trans rfl; have hfz7_0 := blk_frozen BK.out 0; have hfz7_1 := blk_frozen BK.out 1) | ((with_reducible refine gate_callee (f := 20) rfl ?_); refine goesL_ (some 29) rfl rfl Try.func20 (by kernel_rfl) rfl #[.slice AY t7b.length cY, .int .i64 1] rfl (by (try simp only [List.map_toArray, List.map_cons, List.map_nil]); first | done | (rw [show t7b.length = t5.length from (Kd.S_reads' HY.out).1.symm] <;> rfl) | rfl) ?_; (with_reducible refine (laws_heldIntSS.calls k _ _ t7b 1 _ _ ?side1 ?side2 A8.out).mono ?_); (case side1 => exact (Kd.S_reads' HY.out).2.2); (case side2 => rw [show t7b.length = t5.length from (Kd.S_reads' HY.out).1.symm]; exact (Kd.S_reads' HY.out).2.1); rintro e W8 ⟨rfl, hd_⟩; refine ⟨_, rfl, ?_⟩; have hb := hd_.below; clear hd_; have n0_ := Aside0.mk (blk_below (g := gb1) (o := .cells #[.int .i64 a0_0, .string a0_1] 23 (0, 0)) BK.out hb); have n1_ := Aside0.mk (Kd.S_below HX.out hb); have n2_ := Aside0.mk (Kd.S_below HY.out hb); have n3_ := Aside0.mk (below_step HB.out hb); clear BK HX HY HB; have BK := n0_; have HX := n1_; have HY := n2_; have HB := n3_; clear n0_ n1_ n2_ n3_; (try clear hb); have hcz8_0 : W8.cell? ⟨gb1, 0, none⟩ = some (.int .i64 a0_0) := (blk_cell BK.out 0).trans rfl; have hcz8_1 : W8.cell? ⟨gb1, 1, none⟩ = some (.string a0_1) := (blk_cell BK.out 1).trans rfl; have hfz8_0 := blk_frozen BK.out 0; have hfz8_1 := blk_frozen BK.out 1) | ((with_reducible refine gate_callee (f := 14) rfl ?_); refine goesL_ (some 36) rfl rfl Try.func14 (by kernel_rfl) rfl #[.agg #[.int .i64 a0_0, .string a0_1]] rfl (by (try simp only [List.map_toArray, List.map_cons, List.map_nil]); first | done | rfl) ?_; (with_reducible refine (laws_toSigns.calls a0_0 a0_1 t9a t9b _ A9.out).mono ?_); rintro e W9 ⟨rfl, hb⟩; refine ⟨_, rfl, ?_⟩; have n0_ := Aside0.mk (blk_below (g := gb1) (o := .cells #[.int .i64 a0_0, .string a0_1] 23 (0, 0)) BK.out hb); have n1_ := Aside0.mk (Kd.S_below HX.out hb); have n2_ := Aside0.mk (Kd.S_below HY.out hb); have n3_ := Aside0.mk (below_step HB.out hb); clear BK HX HY HB; have BK := n0_; have HX := n1_; have HY := n2_; have HB := n3_; clear n0_ n1_ n2_ n3_; (try clear hb); have hcz9_0 : W9.cell? ⟨gb1, 0, none⟩ = some (.int .i64 a0_0) := (blk_cell BK.out 0).trans rfl; have hcz9_1 : W9.cell? ⟨gb1, 1, none⟩ = some (.string a0_1) := (blk_cell BK.out 1).trans rfl; have hfz9_0 := blk_frozen BK.out 0; have hfz9_1 := blk_frozen BK.out 1) | ((with_reducible refine gate_callee (f := 17) rfl ?_); refine goesL_ (some 37) rfl rfl Try.func17 (by kernel_rfl) rfl #[.agg #[.int .i64 t9a, .string t9b]] rfl (by (try simp only [List.map_toArray, List.map_cons, List.map_nil]); first | done | rfl) ?_; (with_reducible refine (impl_LeftTable.calls k t9a t9b t10 _ A10.out).mono ?_); rintro e W10 ⟨v10, rfl, ho0, hb⟩; refine ⟨_, rfl, ?_⟩; have n0_ := Aside0.mk (Kd.S_lower ho0 (below_size HB.out)); have n1_ := Aside0.mk (blk_below (g := gb1) (o := .cells #[.int .i64 a0_0, .string a0_1] 23 (0, 0)) BK.out hb); have n2_ := Aside0.mk (Kd.S_below HX.out hb); have n3_ := Aside0.mk (Kd.S_below HY.out hb); have n4_ := Aside0.mk (below_step HB.out hb); clear BK HX HY HB; have HZ := n0_; have BK := n1_; have HX := n2_; have HY := n3_; have HB := n4_; clear n0_ n1_ n2_ n3_ n4_; (try clear hb); clear ho0; obtain ⟨AZ, cZ, eZ⟩ := Kd.S_slice HZ.out; subst eZ; have hcz10_0 : W10.cell? ⟨gb1, 0, none⟩ = some (.int .i64 a0_0) := (blk_cell BK.out 0).trans rfl; have hcz10_1 : W10.cell? ⟨gb1, 1, none⟩ = some (.string a0_1) := (blk_cell BK.out 1).trans rfl; have hfz10_0 := blk_frozen BK.out 0; have hfz10_1 := blk_frozen BK.out 1) | ((with_reducible refine gate_callee (f := 18) rfl ?_); refine goesL_ (some 40) rfl rfl Try.func18 (by kernel_rfl) rfl #[.slice AZ t10.length cZ, .slice AX t3.length cX] rfl (by (try simp only [List.map_toArray, List.map_cons, List.map_nil]); first | done | rfl) ?_; (with_reducible refine (laws_eqIntSS.calls k _ _ t10 _ _ t3 true _ ?side1 ?side2 ?side3 ?side4 A11.out).mono ?_); (case side1 => exact (Kd.S_reads' HZ.out).2.2); (case side2 => exact (Kd.S_reads' HZ.out).2.1); (case side3 => exact (Kd.S_reads' HX.out).2.2); (case side4 => exact (Kd.S_reads' HX.out).2.1); rintro e W11 ⟨rfl, hd_⟩; refine ⟨_, rfl, ?_⟩; have hb := hd_.below; clear hd_; have n0_ := Aside0.mk (blk_below (g := gb1) (o := .cells #[.int .i64 a0_0, .string a0_1] 23 (0, 0)) BK.out hb); have n1_ := Aside0.mk (Kd.S_below HX.out hb); have n2_ := Aside0.mk (Kd.S_below HY.out hb); have n3_ := Aside0.mk (below_step HB.out hb); clear BK HX HY HB; have BK := n0_; have HX := n1_; have HY := n2_; have HB := n3_; clear n0_ n1_ n2_ n3_; (try clear hb); have hcz11_0 : W11.cell? ⟨gb1, 0, none⟩ = some (.int .i64 a0_0) := (blk_cell BK.out 0).trans rfl; have hcz11_1 : W11.cell? ⟨gb1, 1, none⟩ = some (.string a0_1) := (blk_cell BK.out 1).trans rfl; have hfz11_0 := blk_frozen BK.out 0; have hfz11_1 := blk_frozen BK.out 1) | ((with_reducible refine gate_callee (f := 20) rfl ?_); refine goesL_ (some 44) rfl rfl Try.func20 (by kernel_rfl) rfl #[.slice AY t7b.length cY, .int .i64 1] rfl (by (try simp only [List.map_toArray, List.map_cons, List.map_nil]); first | done | (rw [show t7b.length = t5.length from (Kd.S_reads' HY.out).1.symm] <;> rfl) | rfl) ?_; (with_reducible refine (laws_heldIntSS.calls k _ _ t7b 1 _ _ ?side1 ?side2 A12.out).mono ?_); (case side1 => exact (Kd.S_reads' HY.out).2.2); (case side2 => rw [show t7b.length = t5.length from (Kd.S_reads' HY.out).1.symm]; exact (Kd.S_reads' HY.out).2.1); rintro e W12 ⟨rfl, hd_⟩; refine ⟨_, rfl, ?_⟩; have hb := hd_.below; clear hd_; have n0_ := Aside0.mk (blk_below (g := gb1) (o := .cells #[.int .i64 a0_0, .string a0_1] 23 (0, 0)) BK.out hb); have n1_ := Aside0.mk (Kd.S_below HX.out hb); have n2_ := Aside0.mk (Kd.S_below HY.out hb); have n3_ := Aside0.mk (below_step HB.out hb); clear BK HX HY HB; have BK := n0_; have HX := n1_; have HY := n2_; have HB := n3_; clear n0_ n1_ n2_ n3_; (try clear hb); have hcz12_0 : W12.cell? ⟨gb1, 0, none⟩ = some (.int .i64 a0_0) := (blk_cell BK.out 0).trans rfl; have hcz12_1 : W12.cell? ⟨gb1, 1, none⟩ = some (.string a0_1) := (blk_cell BK.out 1).trans rfl; have hfz12_0 := blk_frozen BK.out 0; have hfz12_1 := blk_frozen BK.out 1))
  go_ret
  exact ⟨rfl, HB.out⟩
end Go.Proofs.Ytbjncemaeagjjaa.PX
namespace Go.Proofs.Ytbjncemaeagjjaa.M
open Go.RowKit Go.Proofs.YtbjncemaeagjjaaW.PrintWords Go.Proofs.Ytbjncemaeagjjaa.PX Go.Proofs.Ytbjncemaeagjjaa.G Go.Proofs.YtbjncemaeagjjaaW.PrintMore
def rowV (n : Nat) (t : ByteArray) (i : Nat) : List Int := (List.range' 0 n).map fun j => if i = j then (0 : Int) else (leftV n t i j : Int)
/-- What LeftTable answers. -/
def tableA (n : Int) (t : ByteArray) : List (List Int) := if acyOk n t = true then (List.range' 0 n.toNat).map (rowV n.toNat t) else []
theorem rowV_length (n : Nat) (t : ByteArray) (i : Nat) : (rowV n t i).length = n := by unfold rowV; rw [List.length_map, List.length_range']
theorem rowV_at (n : Nat) (t : ByteArray) (i j : Nat) (hj : j < (rowV n t i).length) : (rowV n t i)[j] = if i = j then (0 : Int) else (leftV n t i j : Int) := by
  simp [rowV]
theorem foldl_snoc {α β : Type} (f : α → β) (l : List α) : ∀ s : List β, l.foldl (fun s a => s ++ [f a]) s = s ++ l.map f := by
  induction l with
  | nil => intro s; simp
  | cons x l ih => intro s; rw [List.foldl_cons, ih, List.map_cons, List.append_assoc]; rfl
theorem take_succ_at (l : List Int) (x : Nat) (hx : x < l.length) : l.take (x + 1) = l.take x ++ [l[x]] := by
  rw [List.take_add_one, List.getElem?_eq_getElem hx]
  rfl
theorem impl_row {N : Nat} {t : ByteArray} (ha : areOk N t = true) (h7 : N ≤ 7) (s : List (List Int)) (i : Nat) (hi : i < N) (d : Nat) : ∀ x : Nat, x + d = N →
    Goes (.ok (rowV N t i)) (fun row k => if s.length < 5864062014805 then impl_LeftTable.l0 k (tblL N t) (s ++ [row]) ((i + 1 : Nat) : Int) (N : Int) t else none)
      (fun k => impl_LeftTable.l1 k (tblL N t) s (i : Int) ((rowV N t i).take x ++ List.replicate d 0) (N : Int) (x : Int) (N : Int) t) := by
  induction d with
  | zero =>
    intro x hx
    refine Goes.step ?_
    simp only [impl_LeftTable.l1]
    refine Goes.neg (by omega) ?_
    rw [wrap_id (x := (i : Int) + 1) (by omega) (by omega), List.replicate_zero, List.append_nil, List.take_of_length_le (by rw [rowV_length]; omega)]
    exact Goes.ok (K := fun row k => if s.length < 5864062014805 then impl_LeftTable.l0 k (tblL N t) (s ++ [row]) ((i + 1 : Nat) : Int) (N : Int) t else none) _
  | succ d ih =>
    intro x hx
    have hl : x < (rowV N t i).length := by rw [rowV_length]; omega
    have hlen : ((rowV N t i).take x ++ List.replicate (d + 1) 0).length = N := by
      rw [List.length_append, List.length_take, List.length_replicate, rowV_length]; omega
    have nxt := ih (x + 1) (by omega)
    rw [take_succ_at _ _ hl, rowV_at, List.append_assoc] at nxt
    refine Goes.step ?_
    simp only [impl_LeftTable.l1]
    rw [wrap_id (x := (x : Int) + 1) (by omega) (by omega)]
    refine Goes.pos (by omega) ?_
    by_cases g : i = x
    · rw [if_pos g] at nxt
      exact Goes.pos (by omega) nxt
    · rw [if_neg g] at nxt
      refine Goes.neg (by omega) (Goes.pos (tblL_length _ _) (Goes.ev (impl_left ha (by omega) (by omega)) (Goes.pos (by omega) (Goes.pos (by rw [hlen]; omega) ?_))))
      have e : ((rowV N t i).take x ++ List.replicate (d + 1) 0).set (x : Int).toNat (leftV N t i x : Int) = (rowV N t i).take x ++ ([(leftV N t i x : Int)] ++ List.replicate d 0) := by
        rw [Int.toNat_natCast, List.set_append_right _ _ (by rw [List.length_take]; omega), List.length_take, rowV_length, show x - min x N = 0 by omega, List.replicate_succ, List.set_cons_zero]
        rfl
      rw [e]
      exact nxt
theorem impl_table (n : Int) (t : ByteArray) (hs : t.size ≤ 9223372036854775807) : Ev (fun k => impl_LeftTable.f k n t) (tableA n t) := by
  unfold impl_LeftTable.f tableA
  refine Ev.bind (order_ev n t hs) ?_
  by_cases h : acyOk n t = true
  · rw [if_pos h, if_pos h]
    obtain ⟨N, rfl, ha, h3, h7⟩ := acy_are h
    simp only [Int.toNat_natCast]
    refine ev_pos (by first | rfl | trivial) ?_
    have key := loop_up' (σ := List (List Int)) (ρ := List (List Int)) (lo := 0) (n := N) (K := fun s _ => some s) (L := fun x s k => impl_LeftTable.l0 k (tblL N t) s x (N : Int) t) (fun x s => s.length ≤ x)
      (fun s x => .ok (s ++ [rowV N t x])) (fun s _ => ?_) (fun x _ hx s hl => ?_) (fun x _ hx s hl s' e => ?_) (by omega) [] (Nat.le_refl _)
    · rw [foldlM_ok, foldl_snoc, List.nil_append, Nat.sub_zero] at key
      exact key _ (Ev.now _)
    · refine Goes.step ?_
      simp only [impl_LeftTable.l0]
      exact Goes.neg (by omega) (Goes.ok (K := fun s _ => some s) s)
    · refine Goes.step ?_
      simp only [impl_LeftTable.l0, Int.toNat_natCast]
      refine Goes.pos (by omega) (Goes.pos (by omega) (Goes.pos (by omega) (Goes.call rfl ?_)))
      rw [List.length_replicate]
      have row := impl_row ha h7 s x hx N 0 (by omega)
      rw [List.take_zero, List.nil_append] at row
      exact fun r hr => row r (ev_pos (by omega) hr)
    · cases e
      rw [List.length_append, List.length_singleton]
      omega
  · rw [if_neg h, if_neg h]
    exact ev_neg (by decide) (Ev.now _)
theorem spec_table (n : Int) (t : ByteArray) (hs : t.size ≤ 9223372036854775807) : Ev (fun k => spec_LeftTable.f k n t) (tableA n t) := by
  unfold spec_LeftTable.f tableA
  have hA := spec_isA n t hs
  by_cases h : acyOk n t = true
  · rw [if_pos h]
    rw [h] at hA
    obtain ⟨N, rfl, ha, h3, h7⟩ := acy_are h
    simp only [Int.toNat_natCast]
    have key := loop_up' (σ := List (List Int)) (ρ := List (List Int)) (lo := 0) (n := N) (K := fun s _ => some s) (L := fun x s k => spec_LeftTable.l0 k s x (N : Int) t) (fun x s => s.length ≤ x)
      (fun s x => .ok (s ++ [rowV N t x])) (fun s _ => ?_) (fun x _ hx s hl => ?_) (fun x _ hx s hl s' e => ?_) (by omega) [] (Nat.le_refl _)
    · rw [foldlM_ok, foldl_snoc, List.nil_append, Nat.sub_zero] at key
      exact key _ (Ev.now _)
    · refine Goes.step ?_
      simp only [spec_LeftTable.l0]
      refine Goes.neg (by omega) (Goes.step ?_)
      simp only [spec_LeftTable.j1]
      exact Goes.neg (by decide) (Goes.ok (K := fun s _ => some s) s)
    · refine Goes.step ?_
      simp only [spec_LeftTable.l0]
      refine Goes.pos (by omega) (Goes.ev hA (Goes.step ?_))
      simp only [spec_LeftTable.j1]
      refine Goes.pos (by first | rfl | trivial) ?_
      have row := loop_up' (σ := List Int) (ρ := List (List Int)) (lo := 0) (n := N) (K := fun (row : List Int) k => if s.length < 5864062014805 then spec_LeftTable.l0 k (s ++ [row]) ((x + 1 : Nat) : Int) (N : Int) t else none) (L := fun y row k => spec_LeftTable.l1 k s (x : Int) row y (N : Int) t) (fun y row => row.length ≤ y)
        (fun row y => .ok (row ++ [if x = y then (0 : Int) else (leftV N t x y : Int)])) (fun row _ => ?_) (fun y _ hy row hr => ?_) (fun y _ hy row hr row' e => ?_) (by omega) [] (Nat.le_refl _)
      · rw [foldlM_ok, foldl_snoc, List.nil_append, Nat.sub_zero] at row
        exact fun r hr => row r (ev_pos (by omega) hr)
      · refine Goes.step ?_
        simp only [spec_LeftTable.l1]
        rw [wrap_id (x := (x : Int) + 1) (by omega) (by omega)]
        exact Goes.neg (by omega) (Goes.ok (K := fun (row : List Int) k => if s.length < 5864062014805 then spec_LeftTable.l0 k (s ++ [row]) ((x + 1 : Nat) : Int) (N : Int) t else none) row)
      · refine Goes.step ?_
        simp only [spec_LeftTable.l1]
        rw [wrap_id (x := (y : Int) + 1) (by omega) (by omega)]
        refine Goes.pos (by omega) ?_
        by_cases g : x = y
        · rw [if_pos g]
          exact Goes.pos (by omega) (Goes.pos (by omega) (Goes.ok (K := fun row k => spec_LeftTable.l1 k s (x : Int) row ((y + 1 : Nat) : Int) (N : Int) t) _))
        · rw [if_neg g]
          exact Goes.neg (by omega) (Goes.ev (spec_left ha (by omega) (by omega) g) (Goes.pos (by omega) (Goes.ok (K := fun row k => spec_LeftTable.l1 k s (x : Int) row ((y + 1 : Nat) : Int) (N : Int) t) _)))
      · cases e
        rw [List.length_append, List.length_singleton]
        omega
    · cases e
      rw [List.length_append, List.length_singleton]
      omega
  · rw [if_neg h]
    rw [Bool.eq_false_iff.2 h] at hA
    refine ev_step ?_
    simp only [spec_LeftTable.l0]
    by_cases g : 0 < n
    · refine ev_pos g (Ev.bind hA (ev_step ?_))
      simp only [spec_LeftTable.j1]
      exact ev_neg (by decide) (Ev.now _)
    · refine ev_neg g (ev_step ?_)
      simp only [spec_LeftTable.j1]
      exact ev_neg (by decide) (Ev.now _)
end Go.Proofs.Ytbjncemaeagjjaa.M
namespace Go.Proofs.Ytbjncemaeagjjaa.M
open Go.RowKit Go.Proofs.YtbjncemaeagjjaaW.PrintWords Go.Proofs.Ytbjncemaeagjjaa.PX Go.Proofs.Ytbjncemaeagjjaa.G
theorem small_table (n : Int) (t : ByteArray) : smallSS (tableA n t) := by
  unfold tableA
  by_cases h : acyOk n t = true
  · rw [if_pos h]
    obtain ⟨N, rfl, _, h3, h7⟩ := acy_are h
    refine ⟨?_, fun r hr => ?_⟩
    · rw [List.length_map, List.length_range']
      omega
    · obtain ⟨q, _, rfl⟩ := List.mem_map.mp hr
      rw [rowV_length]
      omega
  · rw [if_neg h]
    exact ⟨Nat.zero_le _, fun r hr => by cases hr⟩
end Go.Proofs.Ytbjncemaeagjjaa.M
namespace Go.Proofs.Ytbjncemaeagjjaa.Pure
open Go.RowKit Go.Proofs.YtbjncemaeagjjaaW.PrintWords Go.Proofs.Ytbjncemaeagjjaa.PX Go.Proofs.Ytbjncemaeagjjaa.M Go.Proofs.Ytbjncemaeagjjaa.G
theorem FnExactLeftTable (n : Int) (t : ByteArray) (_ : (Lit.int .i64 n).wf = true) (hs : t.size ≤ 9223372036854775807) :
    ∃ k, laws_FnExactLeftTable.f k n t = some true := by
  refine Ev.rounds (r := true) ?_
  unfold laws_FnExactLeftTable.f
  obtain ⟨r, hr⟩ := sz_signs n t
  refine ev_call hr ?_
  by_cases h : r < 0
  · exact ev_pos h (Ev.now _)
  have hsp := spec_table n t hs
  have him := impl_table n t hs
  have hv := small_table n t
  have he := endSS_ge (tableA n t) 1
  generalize tableA n t = V at hsp him hv he
  refine ev_neg h (ev_call (a := (n, t)) rfl (Ev.bind hsp (ev_call (a := (n, t)) rfl (Ev.bind him (Ev.bind (eqSS_self V hv) (ev_pos rfl (Ev.bind (markSS_ev V hv) ?_)))))))
  refine Ev.bind (heldSS_ev V hv) (ev_neg (by omega) (ev_pos rfl (ev_call (a := (n, t)) rfl (Ev.bind him (Ev.bind (eqSS_self V hv) (ev_pos rfl ?_))))))
  exact Ev.bind (heldSS_ev V hv) (ev_neg (by omega) (ev_pos rfl (Ev.now _)))
end Go.Proofs.Ytbjncemaeagjjaa.Pure
namespace Go.Proofs.Ytbjncemaeagjjaa.fnExactLeftTable
open Go.ChangeShapes Go.WideShapes Go.ChangeAt Go.RowKit Go.Joins
open Go.ChangeMaps (open_string shut_string)
set_option linter.unusedVariables false
theorem own : ownKnob Try.prog.godebug = none := by kernel_rfl
theorem str_mk {H : Type} {enc : TypeId × Value → H} {P : Program} {w : World} {base : Nat} {spare : Nat → Bool} {held : Bool} {t : TypeId} {s : ByteArray} (ht : P.underlying t = some .string) (hs : s.size ≤ maxLen) : DataW.trod enc P w base spare held 1 t [.string s] = some (.lit (.string s.data.toList), []) := by
  simp [DataW.trod, ht, hs]
set_option maxRecDepth 100000 in
theorem lifted (os : Os) (started : os.Started) (H : Type) (enc : TypeId × Value → H) :
    ReturnsInHanded {} Try.checked os 4 .any (Rows.fnExactLeftTableSpec.pre6 enc Try.prog Try.f4 Rows.fnExactLeftTableRow.domain false) (Rows.fnExactLeftTableSpec.post enc Try.prog Try.f4 false true false false) := by
  refine returnsInHanded_of_change_sized (C := Try.checked) own started (by kernel_rfl) Try.func4
    (ChangeSpec.witness6 (enc := enc) (C := Try.checked) false ⟨#[], #[.agg #[.int .i64 0, .string ByteArray.empty]], []⟩ 8 (by kernel_rfl) (by kernel_rfl) (by kernel_rfl) (by kernel_rfl)) ?_
  intro W base args ds gs before hval0 hW hcnd hsz0 _
  have hsz : (DataW.weightsEach Try.prog (Try.f4.params.toList ++ Rows.fnExactLeftTableSpec.plain.varTypes Try.prog) (ds ++ gs)).all (· ≤ reachBytes) = true := hsz0
  have hval : ∀ (j : Nat) t v, Try.f4.params[j]? = some t → args[j]? = some v → Value.okWide Try.prog W .any base t v := hval0
  have hW' := hW
  obtain ⟨p, q, hA0, hV, rfl, hfz, hnd⟩ := hW
  have hA : DataW.TrodAll enc Try.prog W 0 (fun _ => true) true Try.f4.params.toList args.toList ds p := hA0
  rw [Try.params4] at hA hval hsz
  obtain ⟨v0, vs0, d0, ds0, p0, q0, hargs, rfl, rfl, h0, r0⟩ := trodAll_cons hA
  obtain ⟨rfl, rfl, rfl⟩ := trodAll_nil r0
  obtain rfl : args = #[v0] := by cases args; simp_all
  obtain ⟨rfl, rfl⟩ := trodVars_none hV
  obtain ⟨c0_0, c0_1, y0_0, y0_1, m0, rfl, rfl, rfl, hy0_0, hy0_1⟩ := open_agg2 Try.underlying23 (by kernel_rfl) (by kernel_rfl) (hval 0 23 v0 rfl rfl) h0
  obtain ⟨a0_0, e0_0, rfl, wa0⟩ := DataW.trod_int Try.underlying3 hy0_0
  obtain ⟨a0_1, e0_1, rfl, ws0⟩ := DataW.trod_string Try.underlying9 hy0_1
  simp only [List.cons.injEq, and_true] at e0_0 e0_1
  subst e0_0 e0_1
  clear hA0 hval0 hsz0 hsz
  obtain ⟨k, hP⟩ := Pure.FnExactLeftTable a0_0 a0_1 wa0 ws0
  refine (PX.laws_FnExactLeftTable.calls k a0_0 a0_1 true W hP rfl).mono fun e W' ⟨he, bel⟩ => ?_
  subst he
  exact ⟨_, rfl, _, _, _, [], _, [], hW', trodAll_mk1 (shut_bool Try.underlying4 _), (trodAll_cons_mk (shut_agg2 Try.underlying23 (by kernel_rfl) (by kernel_rfl) ⟨_, trod_int_mk 0 Try.underlying3 wa0⟩ ⟨_, str_mk Try.underlying9 ws0⟩) trodAll_mk0), rfl, bel.frame _, fun h => by cases h⟩
theorem over : Rows.fnExactLeftTableRow.holds Try.pinned (OpenSpec.ofChange Rows.fnExactLeftTableSpec) :=
  OpenClaim.holds_of_wide 4 Try.f4 rfl rfl rfl rfl rfl rfl rfl ⟨rfl, rfl, rfl, rfl, rfl⟩ rfl rfl rfl rfl rfl (by kernel_rfl) Try.func4 (by kernel_rfl)
    (of_decide_eq_true (by kernel_rfl)) (by unfold Func.isWrapper; first | (rw [if_pos (by decide +kernel)]; kernel_rfl) | (rw [if_neg (by decide +kernel)]; exact ⟨rfl, rfl⟩))
    (fun os started H enc _ => lifted os started H enc)
theorem proved : Rows.FnExactLeftTableSaid := over
#print axioms proved
end Go.Proofs.Ytbjncemaeagjjaa.fnExactLeftTable
namespace Go.Proofs.Ytbjncemaeagjjaa
/-- The row, under a short name, for the claim. -/
theorem fnExactLeftTable_holds : Rows.FnExactLeftTableSaid := fnExactLeftTable.proved
end Go.Proofs.Ytbjncemaeagjjaa
