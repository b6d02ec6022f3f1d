/- A part of proofs about signs and points: what some functions answer, and that their calls answer so. No condition. -/
import Derived.Test.YtckkfjdkaimmhaaProg
import Derived.Test.YtckkfjdkaimmhaaV1
import Derived.Test.YtckkfjdkaimmhaaBgcxijk1
import Derived.Test.YtckkfjdkaimmhaaBgcxijk2
import Derived.Test.YtckkfjdkaimmhaaBgcxijk3
set_option linter.unusedVariables false
set_option linter.unusedSimpArgs false
namespace Go.Proofs.Ytckkfjdkaimmhaa.PX
open Go.RowKit Go.Proofs.Ytckkfjdkaimmhaa.G Go.Proofs.YtckkfjdkaimmhaaW.PrintWords Go.Proofs.YtckkfjdkaimmhaaW.PrintLast Go.Proofs.YtckkfjdkaimmhaaW.PrintMore
attribute [local go_sem] max2_int min2_int max_two min_two max_three min_three max_four min_four   -- for this text's walks alone
set_option linter.unusedVariables false
set_option linter.unusedSimpArgs false
/-! ### spec_SplitOf: function 31 -/
def spec_SplitOf.f (k : Nat) (a0_0 : Int) (a0_1 : ByteArray) (a1 : Int) (a2 : Int) (a3 : Int) (a4 : Int) : Option (Int × Int) := (some (([a1, a2, a3, a4] : List Int) : List Int)).bind fun y762 => ((spec_IsAcyclic.f k a0_0 a0_1).bind fun t765 => (if t765 = true then ((spec_l5Different.f k a0_0 y762).bind fun t766 => (if t766 = true then ((spec_l5Split.f k a0_0 a0_1 y762).bind fun bt767 => (some (bt767.1, bt767.2))) else (some (0, 0)))) else (some (0, 0))))
set_option maxHeartbeats 8000000 in
set_option maxRecDepth 100000 in
theorem spec_SplitOf.calls (k : Nat) (a0_0 : Int) (a0_1 : ByteArray) (a1 : Int) (a2 : Int) (a3 : Int) (a4 : Int) (r1 : Int) (r2 : Int) (w : World) (h : spec_SplitOf.f k a0_0 a0_1 a1 a2 a3 a4 = some (r1, r2)) :
  Calls Try.prog 31 #[.agg #[.int .i64 a0_0, .string a0_1], .int .i64 a1, .int .i64 a2, .int .i64 a3, .int .i64 a4] w fun e w' => e = .returned (.tuple #[.int .i64 r1, .int .i64 r2]) ∧ Below w.heap.size w w' := by
 have hu25 := Try.underlying25
 have HB := Aside0.mk (Below.refl w.heap.size w)
 have H : ((some (([a1, a2, a3, a4] : List Int) : List Int)).bind fun y762 => ((spec_IsAcyclic.f k a0_0 a0_1).bind fun t765 => (if t765 = true then ((spec_l5Different.f k a0_0 y762).bind fun t766 => (if t766 = true then ((spec_l5Split.f k a0_0 a0_1 y762).bind fun bt767 => (some (bt767.1, bt767.2))) else (some (0, 0)))) else (some (0, 0))))) = some (r1, r2) := h
 clear h
 obtain ⟨y762, hy762⟩ : ∃ y_ : List Int, y_ = (([a1, a2, a3, a4] : List Int)) := ⟨_, rfl⟩
 replace H : ((spec_IsAcyclic.f k a0_0 a0_1).bind fun t765 => (if t765 = true then ((spec_l5Different.f k a0_0 y762).bind fun t766 => (if t766 = true then ((spec_l5Split.f k a0_0 a0_1 y762).bind fun bt767 => (some (bt767.1, bt767.2))) else (some (0, 0)))) else (some (0, 0)))) = some (r1, r2) := by first | (rw [hy762]; with_reducible exact H) | (have H2_ := (Option.bind_some _ _).symm.trans H; rw [hy762]; with_reducible exact H2_) | (have H2_ := (Option.bind_some _ _).symm.trans H; with_reducible exact H2_) | with_reducible exact H | (rw [hy762]; exact H) | exact H
 have Ny762 := Aside0.mk hy762
 clear hy762
 obtain ⟨t765, A6, H⟩ := zO H
 by_cases c7 : t765 = true
 ·subst c7
  replace H := (if_pos rfl).symm.trans H
  obtain ⟨t766, A8, H⟩ := zO H
  by_cases c9 : t766 = true
  ·subst c9
   replace H := (if_pos rfl).symm.trans H
   obtain ⟨⟨t767, t768⟩, A10, H⟩ := zO H
   replace H : (some (t767, t768)) = some (r1, r2) := H
   simp only [Option.some.injEq, Prod.mk.injEq] at H
   obtain ⟨rfl, rfl⟩ := H
   go_enter Try.func31, Try.ntmps31
   go_wp2_with (first | ((with_reducible refine gate_dst (N := 5) rfl ?_); refine zBx (N := 5) #[.int .i64 a0_0, .string a0_1] 25 ?_; intro gb761 hg w11 hbox hb; have BK761 := Aside0.mk (hbox); have GW761 := zS hg; have GE761 := zS hg; replace HB := zX hb; clear hb hbox hg) | ((with_reducible refine gate_dst (N := 19) rfl ?_); refine Kd.R_lit (Kd.int .i64) _ 3 ?hg (N := 19) ?hd (xs := ([a1, a2, a3, a4] : List Int)) (inner := [.int .i64 a1, .int .i64 a2, .int .i64 a3, .int .i64 a4]) (ok := fun _ => True) (okp := fun _ => True) ?hr ?hp (fun _ hk => hk) trivial (Below.refl _ _) (Nat.le_refl _) (by simp) ?_; (case hd => rfl); (case hg => rfl); (case hr => first | (go_simp; done) | (go_simp; rfl)); (case hp => exact (Reps.one (show Kd.M (Kd.int .i64) _ _ _ a1 [.int .i64 a1] from rfl) (Reps.one (show Kd.M (Kd.int .i64) _ _ _ a2 [.int .i64 a2] from rfl) (Reps.one (show Kd.M (Kd.int .i64) _ _ _ a3 [.int .i64 a3] from rfl) (Reps.one (show Kd.M (Kd.int .i64) _ _ _ a4 [.int .i64 a4] from rfl) (Reps.none _ _)))))); intro v763 w12 ho13 hb hg_ hnew_; clear hg_ hnew_; (first | rw [← Ny762.out] at ho13 | (simp only [Int.reduceToNat] at ho13; rw [← Ny762.out] at ho13)); have HO764 := Aside0.mk (Kd.R_lower ho13 (below_size (zG GE761.out))); replace BK761 := zV BK761.out hb; replace HB := zX1 GE761.out hb; clear hb ho13; obtain ⟨hcz14_0, hcz14_1, hfz14_0, hfz14_1⟩ := zq2 BK761.out) | ((with_reducible refine gate_callee (f := 24) rfl ?_); refine zD (some 21) Try.func24 #[.agg #[.int .i64 a0_0, .string a0_1]] ?_; (with_reducible refine (spec_IsAcyclic.calls k a0_0 a0_1 true _ A6.out).mono ?_); rintro e w15 ⟨rfl, hb⟩; refine ⟨_, rfl, ?_⟩; replace HO764 := zW HO764.out hb; replace BK761 := zV BK761.out hb; replace HB := zX1 GE761.out hb; (try clear hb); obtain ⟨hcz16_0, hcz16_1, hfz16_0, hfz16_1⟩ := zq2 BK761.out; obtain ⟨Ao17, co17, eo17⟩ := Kd.R_slice HO764.out; subst eo17) | (go_at_call 107; (with_reducible refine (spec_l5Different.calls k a0_0 _ _ y762 true _ ?side1 ?side2 A8.out).mono ?_); (case side1 => repeat (first | exact (Kd.R_reads' HO764.out).2.2 | (with_reducible refine Kd.C_alloc ?_ _) | (with_reducible refine Kd.C_drewN ?_ _) | (with_reducible refine Kd.C_drew ?_))); (case side2 => exact (Kd.R_reads' HO764.out).2.1); rintro e w' ⟨rfl, ⟨nd, rfl⟩⟩) | ((with_reducible refine gate_callee (f := 108) rfl ?_); refine zD (some 33) Try.func108 #[.agg #[.int .i64 a0_0, .string a0_1], .slice Ao17 y762.length co17] ?_; (with_reducible refine (spec_l5Split.calls k a0_0 a0_1 _ _ y762 t767 t768 _ ?side1 ?side2 A10.out).mono ?_); (case side1 => repeat (first | exact (Kd.R_reads' HO764.out).2.2 | (with_reducible refine Kd.C_alloc ?_ _) | (with_reducible refine Kd.C_drewN ?_ _) | (with_reducible refine Kd.C_drew ?_))); (case side2 => exact (Kd.R_reads' HO764.out).2.1); rintro e w18 ⟨rfl, hb⟩; refine ⟨_, rfl, ?_⟩; replace HO764 := zW HO764.out hb; replace BK761 := zV BK761.out hb; replace HB := zX1 GE761.out hb; (try clear hb)))
   go_ret2
   exact ⟨zE, zG GE761.out⟩
  replace c9 := Bool.eq_false_iff.mpr c9
  subst c9
  replace H := (if_neg zFf).symm.trans H
  simp only [Option.some.injEq, Prod.mk.injEq] at H
  obtain ⟨rfl, rfl⟩ := H
  go_enter Try.func31, Try.ntmps31
  go_wp2_with (first | ((with_reducible refine gate_dst (N := 5) rfl ?_); refine zBx (N := 5) #[.int .i64 a0_0, .string a0_1] 25 ?_; intro gb761 hg w19 hbox hb; have BK761 := Aside0.mk (hbox); have GW761 := zS hg; have GE761 := zS hg; replace HB := zX hb; clear hb hbox hg) | ((with_reducible refine gate_dst (N := 19) rfl ?_); refine Kd.R_lit (Kd.int .i64) _ 3 ?hg (N := 19) ?hd (xs := ([a1, a2, a3, a4] : List Int)) (inner := [.int .i64 a1, .int .i64 a2, .int .i64 a3, .int .i64 a4]) (ok := fun _ => True) (okp := fun _ => True) ?hr ?hp (fun _ hk => hk) trivial (Below.refl _ _) (Nat.le_refl _) (by simp) ?_; (case hd => rfl); (case hg => rfl); (case hr => first | (go_simp; done) | (go_simp; rfl)); (case hp => exact (Reps.one (show Kd.M (Kd.int .i64) _ _ _ a1 [.int .i64 a1] from rfl) (Reps.one (show Kd.M (Kd.int .i64) _ _ _ a2 [.int .i64 a2] from rfl) (Reps.one (show Kd.M (Kd.int .i64) _ _ _ a3 [.int .i64 a3] from rfl) (Reps.one (show Kd.M (Kd.int .i64) _ _ _ a4 [.int .i64 a4] from rfl) (Reps.none _ _)))))); intro v763 w20 ho21 hb hg_ hnew_; clear hg_ hnew_; (first | rw [← Ny762.out] at ho21 | (simp only [Int.reduceToNat] at ho21; rw [← Ny762.out] at ho21)); have HO764 := Aside0.mk (Kd.R_lower ho21 (below_size (zG GE761.out))); replace BK761 := zV BK761.out hb; replace HB := zX1 GE761.out hb; clear hb ho21; obtain ⟨hcz22_0, hcz22_1, hfz22_0, hfz22_1⟩ := zq2 BK761.out) | ((with_reducible refine gate_callee (f := 24) rfl ?_); refine zD (some 21) Try.func24 #[.agg #[.int .i64 a0_0, .string a0_1]] ?_; (with_reducible refine (spec_IsAcyclic.calls k a0_0 a0_1 true _ A6.out).mono ?_); rintro e w23 ⟨rfl, hb⟩; refine ⟨_, rfl, ?_⟩; replace HO764 := zW HO764.out hb; replace BK761 := zV BK761.out hb; replace HB := zX1 GE761.out hb; (try clear hb); obtain ⟨hcz24_0, hcz24_1, hfz24_0, hfz24_1⟩ := zq2 BK761.out; obtain ⟨Ao25, co25, eo25⟩ := Kd.R_slice HO764.out; subst eo25) | (go_at_call 107; (with_reducible refine (spec_l5Different.calls k a0_0 _ _ y762 false _ ?side1 ?side2 A8.out).mono ?_); (case side1 => repeat (first | exact (Kd.R_reads' HO764.out).2.2 | (with_reducible refine Kd.C_alloc ?_ _) | (with_reducible refine Kd.C_drewN ?_ _) | (with_reducible refine Kd.C_drew ?_))); (case side2 => exact (Kd.R_reads' HO764.out).2.1); rintro e w' ⟨rfl, ⟨nd, rfl⟩⟩))
  go_ret2
  exact ⟨zE, zG GE761.out⟩
 replace c7 := Bool.eq_false_iff.mpr c7
 subst c7
 replace H := (if_neg zFf).symm.trans H
 simp only [Option.some.injEq, Prod.mk.injEq] at H
 obtain ⟨rfl, rfl⟩ := H
 go_enter Try.func31, Try.ntmps31
 go_wp2_with (first | ((with_reducible refine gate_dst (N := 5) rfl ?_); refine zBx (N := 5) #[.int .i64 a0_0, .string a0_1] 25 ?_; intro gb761 hg w26 hbox hb; have BK761 := Aside0.mk (hbox); have GW761 := zS hg; have GE761 := zS hg; replace HB := zX hb; clear hb hbox hg) | ((with_reducible refine gate_dst (N := 19) rfl ?_); refine Kd.R_lit (Kd.int .i64) _ 3 ?hg (N := 19) ?hd (xs := ([a1, a2, a3, a4] : List Int)) (inner := [.int .i64 a1, .int .i64 a2, .int .i64 a3, .int .i64 a4]) (ok := fun _ => True) (okp := fun _ => True) ?hr ?hp (fun _ hk => hk) trivial (Below.refl _ _) (Nat.le_refl _) (by simp) ?_; (case hd => rfl); (case hg => rfl); (case hr => first | (go_simp; done) | (go_simp; rfl)); (case hp => exact (Reps.one (show Kd.M (Kd.int .i64) _ _ _ a1 [.int .i64 a1] from rfl) (Reps.one (show Kd.M (Kd.int .i64) _ _ _ a2 [.int .i64 a2] from rfl) (Reps.one (show Kd.M (Kd.int .i64) _ _ _ a3 [.int .i64 a3] from rfl) (Reps.one (show Kd.M (Kd.int .i64) _ _ _ a4 [.int .i64 a4] from rfl) (Reps.none _ _)))))); intro v763 w27 ho28 hb hg_ hnew_; clear hg_ hnew_; (first | rw [← Ny762.out] at ho28 | (simp only [Int.reduceToNat] at ho28; rw [← Ny762.out] at ho28)); have HO764 := Aside0.mk (Kd.R_lower ho28 (below_size (zG GE761.out))); replace BK761 := zV BK761.out hb; replace HB := zX1 GE761.out hb; clear hb ho28; obtain ⟨hcz29_0, hcz29_1, hfz29_0, hfz29_1⟩ := zq2 BK761.out) | ((with_reducible refine gate_callee (f := 24) rfl ?_); refine zD (some 21) Try.func24 #[.agg #[.int .i64 a0_0, .string a0_1]] ?_; (with_reducible refine (spec_IsAcyclic.calls k a0_0 a0_1 false _ A6.out).mono ?_); rintro e w30 ⟨rfl, hb⟩; refine ⟨_, rfl, ?_⟩; replace HO764 := zW HO764.out hb; replace BK761 := zV BK761.out hb; replace HB := zX1 GE761.out hb; (try clear hb)))
 go_ret2
 exact ⟨zE, zG GE761.out⟩
/-! ### spec_DrawQuadsOf: function 32 -/
def spec_DrawQuadsOf.f (k : Nat) (l0 : List Int) : Option (Int × ByteArray) := (spec_l1New.f k l0).bind fun bt770 => ((spec_l5Draw.f k bt770.1 bt770.2.1 bt770.2.2).bind fun bt774 => (some (bt774.1, bt774.2.1)))
theorem zl77_0 {p q p0 : Prop} (g : p) (g0 : p0) (h : p → p0 → q := by intro zg_ z0_; repeat (first | (with_reducible first | exact zg_ | apply below_alloc | apply pw_below_drewN | apply below_drew1 | refine below_set ?_ z0_) | exact zg_)) : q := h g g0
theorem zl77_1 {p q p0 : Prop} (g : p) (g0 : p0) (h : p → p0 → q := by intro zg_ z0_; repeat (first | (with_reducible first | exact zg_ | apply IsS110.alloc | apply IsS110.drewN | apply IsS110.drew | apply IsS110.set_1 | apply IsS110.set_2 | refine IsS110.far ?_ z0_ _) | exact zg_)) : q := h g g0
theorem zl77_2 {p q p0 p1 : Prop} (g : p) (g0 : p0) (g1 : p1) (h : p → p0 → p1 → q := by intro zg_ z0_ z1_; repeat (first | (with_reducible first | exact zg_ | apply below_alloc | apply pw_below_drewN | apply below_drew1 | refine below_set ?_ z0_ | refine below_set ?_ z1_) | exact zg_)) : q := h g g0 g1
set_option maxHeartbeats 8000000 in
set_option maxRecDepth 100000 in
theorem spec_DrawQuadsOf.calls (k : Nat) (A0 : Option Addr) (c0 : Nat) (l0 : List Int) (r1 : Int) (r2 : ByteArray) (w : World) (hr0 : Kd.C (Kd.int .u8) w A0 l0.length l0) (hc0 : l0.length ≤ c0) (h : spec_DrawQuadsOf.f k l0 = some (r1, r2)) :
  Calls Try.prog 32 #[.slice A0 l0.length c0] w fun e w' => e = .returned (.agg #[.int .i64 r1, .string r2]) ∧ Below w.heap.size w w' := by
 have hu25 := Try.underlying25
 have HR0 := Aside0.mk hr0
 have HC0 := Aside0.mk hc0
 clear hr0 hc0
 have HB := Aside0.mk (Below.refl w.heap.size w)
 have H : ((spec_l1New.f k l0).bind fun bt770 => ((spec_l5Draw.f k bt770.1 bt770.2.1 bt770.2.2).bind fun bt774 => (some (bt774.1, bt774.2.1)))) = some (r1, r2) := h
 clear h
 obtain ⟨⟨t770, t771, t772⟩, A2, H⟩ := zO H
 dsimp only at H
 obtain ⟨⟨t774, t775, t776, t777⟩, A3, H⟩ := zO H
 replace H : (some (t774, t775)) = some (r1, r2) := H
 simp only [Option.some.injEq, Prod.mk.injEq] at H
 obtain ⟨rfl, rfl⟩ := H
 go_enter Try.func32, Try.ntmps32
 go_wp2_with (first | ((with_reducible refine gate_dst (N := 2) rfl ?_); refine zBx (N := 2) #[.int .i64 0, .string (⟨#[]⟩ : ByteArray)] 25 ?_; intro gb769 hg w4 hbox hb; have BK769 := Aside0.mk (hbox); have GW769 := zS hg; have GE769 := zS hg; replace HB := zX hb; clear hb hbox hg) | ((with_reducible refine gate_callee (f := 81) rfl ?_); refine zD (some 4) Try.func81 #[.slice A0 l0.length c0] ?_; (with_reducible refine (spec_l1New.calls k _ _ l0 t770 t771 t772 w _ ?side1 ?side2 ?side3 A2.out).mono ?_); (case side1 => exact (zl77_0 HB.out GE769.out)); (case side2 => exact HR0.out); (case side3 => exact HC0.out); rintro e w5 ⟨g773, rfl, hi, hb, hb2⟩; refine ⟨_, rfl, ?_⟩; have HI773 := Aside0.mk (hi); have NB773_769 := Aside0.mk (IsS110.ne_blk hi (blk_below (g := gb769) (o := .cells #[.int .i64 0, .string (⟨#[]⟩ : ByteArray)] 25 (0, 0)) (zK BK769.out) hb2) (by decide)); have NB769_773 := Aside0.mk (Ne.symm (IsS110.ne_blk hi (blk_below (g := gb769) (o := .cells #[.int .i64 0, .string (⟨#[]⟩ : ByteArray)] 25 (0, 0)) (zK BK769.out) hb2) (by decide))); replace BK769 := Aside0.mk (blk_below (g := gb769) (o := .cells #[.int .i64 0, .string (⟨#[]⟩ : ByteArray)] 25 (0, 0)) (zK BK769.out) hb2); replace HB := Aside0.mk (hb); (try clear hb); (try clear hb2); (try clear hi)) | ((with_reducible refine gate_callee (f := 109) rfl ?_); refine zD (some 5) Try.func109 #[.pointer (some ⟨g773, 0, none⟩)] ?_; (with_reducible refine (spec_l5Draw.calls k g773 t770 t771 t772 t774 t775 t776 t777 w _ ?side1 ?side2 A3.out).mono ?_); (case side1 => exact (zl77_1 HI773.out NB773_769.out)); (case side2 => exact (zl77_2 HB.out (IsS110.ge HI773.out) GE769.out)); rintro e w6 ⟨rfl, hi, hb, hk⟩; refine ⟨_, rfl, ?_⟩; replace BK769 := zKB hk BK769.out NB769_773.out; replace HI773 := Aside0.mk (hi); replace HB := Aside0.mk (hb); (try clear hb); (try clear hk); (try clear hi); have hnb7 := NB769_773.out; have hnc7 := NB773_769.out; obtain ⟨hcz8_0, hcz8_1, hfz8_0, hfz8_1⟩ := zq2 BK769.out))
 refine bodyPost_ret (results_cell_row rfl _ _ gb769 25 #[.int .i64 t774, .string t775] (0, 0) _ rfl (zk0 BK769.out) Try.underlying25 rfl (by kernel_rfl)) rfl ?_
 exact ⟨zE, zG2 (IsS110.ge HI773.out) GE769.out⟩
/-! ### impl_single: function 150 -/
def impl_single.l0 : Nat → Int → Int → Option (Int)
 | 0, _, _ => none
 | k + 1, x0, x3 => if x3 < 7 then (if 0 ≤ x3 then (if x0 = (shl .i64 1 x3) then (some x3) else (impl_single.l0 k x0 (wrap64 (x3 + 1)))) else (none)) else (some (-1))
def impl_single.f (k : Nat) (a0 : Int) : Option (Int) := impl_single.l0 k a0 0
theorem impl_single.mono_l : ∀ k, (∀ y0 y1, LeO (impl_single.l0 k y0 y1) (impl_single.l0 (k + 1) y0 y1))
 | 0 => fun _ _ r h => by simp [impl_single.l0] at h
 | k + 1 => by
  have ih0 := impl_single.mono_l k
  ·intro y0 y1
   unfold impl_single.l0
   repeat' first
   | (with_reducible first | exact ih0 .. | exact LeO.refl _ | exact LeO.none _ | refine LeO.ite ?_ ?_ | refine LeO.bind ?_ (fun _ => ?_))
   | exact ih0 .. | exact LeO.none _ | refine LeO.ite ?_ ?_ | refine LeO.bind ?_ (fun _ => ?_)
theorem impl_single.mono : ∀ a0 k, LeO (impl_single.f k a0) (impl_single.f (k + 1) a0) := by
 intro a0 k
 have ih0 := impl_single.mono_l k
 unfold impl_single.f
 repeat' first
   | (with_reducible first | exact ih0 .. | exact LeO.refl _ | exact LeO.none _ | refine LeO.ite ?_ ?_ | refine LeO.bind ?_ (fun _ => ?_))
   | exact ih0 .. | exact LeO.none _ | refine LeO.ite ?_ ?_ | refine LeO.bind ?_ (fun _ => ?_)
set_option maxHeartbeats 8000000 in
set_option maxRecDepth 100000 in
theorem impl_single.calls (k : Nat) (a0 : Int) (r : Int) (w : World) (h : impl_single.f k a0 = some r) :
  Calls Try.prog 150 #[.int .i64 a0] w fun e w' => e = .returned (.int .i64 r) ∧ Drawn0 w w' := by
 have H : (impl_single.l0 k a0 0) = some r := h
 clear h
 have H' := Aside0.mk H; clear H
 go_enter Try.func150, Try.ntmps150
 go_wp2
 go_loopg [3] k (fun kq v3 w' => ∃ (x3_1 : Int), v3 = .int .i64 x3_1 ∧ Aside0 (impl_single.l0 kq a0 x3_1 = some r) ∧ Aside0 (kq ≤ k) ∧ Drawn0 w w')
 case atStart => exact ⟨(0), zF, H', ⟨Nat.le_refl _⟩, by repeat (first | exact Drawn0.refl _ | apply Drawn0.step)⟩
 case round =>
 clear H'
 obtain ⟨x3_1, rfl, HA, HK1, ⟨m1, rfl⟩⟩ := hrel
 cases gk with
 | zero => exact absurd HA.out (by simp [impl_single.l0])
 | succ k1 =>
 have H := HA.out
 clear HA
 simp only [impl_single.l0] at H
 by_cases c2 : x3_1 < 7
 ·rw [if_pos c2] at H
  have c2b0 : decide (x3_1 < 7) = true := decide_eq_true c2
  clear c2
  by_cases c3 : 0 ≤ x3_1
  ·rw [if_pos c3] at H
   have c3b0 := eq_true c3
   have c3b1 : decide (0 ≤ x3_1) = true := decide_eq_true c3
   clear c3
   obtain ⟨ji4, hji4⟩ : ∃ j_ : Int, (shl .i64 1 x3_1) = j_ := ⟨_, rfl⟩
   replace H : (if a0 = (ji4) then (some x3_1) else (impl_single.l0 k1 a0 (wrap64 (x3_1 + 1)))) = some r := by first | (rw [hji4] at H; exact H) | (simp only [hji4] at H ⊢; exact H)
   have hji4_ : (IntKind.i64.wrap (1 * 2 ^ min x3_1.toNat 64)) = ji4 := hji4
   have hji4z : x3_1 ≤ 64 → (IntKind.i64.wrap (1 * 2 ^ x3_1.toNat)) = ji4 := shl_small hji4
   have hji4u : (IntKind.i64.wrap (2 ^ min x3_1.toNat 64)) = ji4 := by have h_ := hji4_; rw [Int.one_mul] at h_; exact h_
   have hji4v : x3_1 ≤ 64 → (IntKind.i64.wrap (2 ^ x3_1.toNat)) = ji4 := fun hle_ => by have h_ := hji4z hle_; rw [Int.one_mul] at h_; exact h_
   have hji4y : (wrap64 (1 * 2 ^ min x3_1.toNat 64)) = ji4 := (i64_w _).symm.trans hji4_
   have hji4x : x3_1 ≤ 64 → (wrap64 (1 * 2 ^ x3_1.toNat)) = ji4 := fun h_ => (i64_w _).symm.trans (hji4z h_)
   by_cases c5 : a0 = (ji4)
   ·rw [if_pos c5] at H
    have c5b0 : (a0 == (ji4)) = true := beq_iff_eq.mpr c5
    have c5b1 : (a0 != (ji4)) = false := bne_eq_false_iff_eq.mpr c5
    clear c5
    obtain rfl := Option.some.inj H
    go_wp2
    go_ret
    exact ⟨by first | rfl | (simp; done) | (simp only [← hji4] <;> (first | rfl | simp)) | (simp [*]; done), by repeat (first | exact Drawn0.refl _ | apply Drawn0.step)⟩
   rw [if_neg c5] at H
   have c5b0 : (a0 == (ji4)) = false := beq_eq_false_iff_ne.mpr c5
   have c5b1 : (a0 != (ji4)) = true := bne_iff_ne.mpr c5
   have H' := Aside0.mk H; clear H
   go_wp2
   go_roundg k1
   case measure => have := HK1.out; omega
   case rel => exact ⟨(wrap64 (x3_1 + 1)), zF, H', ⟨by have := HK1.out; omega⟩, by repeat (first | exact Drawn0.refl _ | apply Drawn0.step)⟩
  rw [if_neg c3] at H
  exact absurd H (by simp)
 rw [if_neg c2] at H
 have c2b0 : decide (x3_1 < 7) = false := decide_eq_false c2
 clear c2
 obtain rfl := Option.some.inj H
 go_wp2
 go_ret
 exact ⟨by first | rfl | (simp; done) | (simp [*]; done), by repeat (first | exact Drawn0.refl _ | apply Drawn0.step)⟩
/-! ### impl_chi_inner: function 111 -/
def impl_chi_inner.f (k : Nat) (l0 : List Int) (a1 : Int) (a2 : Int) (a3 : Int) (a4 : Int) : Option (Int) := (impl_chi_split.f k l0 a1 a2 a3 a4).bind fun bt778 => ((impl_single.f k bt778.1).bind fun t780 => ((impl_single.f k bt778.2).bind fun t781 => (some (mx t780 t781))))
set_option maxHeartbeats 8000000 in
set_option maxRecDepth 100000 in
theorem impl_chi_inner.calls (k : Nat) (g0 : Nat) (l0 : List Int) (a1 : Int) (a2 : Int) (a3 : Int) (a4 : Int) (r : Int) (w : World) (hr0 : Kd.C (Kd.int .i64) w (some ⟨g0, 0, none⟩) l0.length l0) (hc0 : l0.length = 344) (h : impl_chi_inner.f k l0 a1 a2 a3 a4 = some r) :
  Calls Try.prog 111 #[.pointer (some ⟨g0, 0, none⟩), .int .i64 a1, .int .i64 a2, .int .i64 a3, .int .i64 a4] w fun e w' => e = .returned (.int .i64 r) ∧ Below w.heap.size w w' := by
 have HR0 := Aside0.mk hr0
 have HC0 := Aside0.mk hc0
 clear hr0 hc0
 have HB := Aside0.mk (Below.refl w.heap.size w)
 have H : ((impl_chi_split.f k l0 a1 a2 a3 a4).bind fun bt778 => ((impl_single.f k bt778.1).bind fun t780 => ((impl_single.f k bt778.2).bind fun t781 => (some (mx t780 t781))))) = some r := h
 clear h
 obtain ⟨⟨t778, t779⟩, A6, H⟩ := zO H
 dsimp only at H
 obtain ⟨t780, A7, H⟩ := zO H
 obtain ⟨t781, A8, H⟩ := zO H
 obtain ⟨ji9, hji9⟩ : ∃ j_ : Int, (mx t780 t781) = j_ := ⟨_, rfl⟩
 replace H : (some ji9) = some r := by first | (rw [hji9] at H; exact H) | (simp only [hji9] at H ⊢; exact H)
 (try rw [hji9] at A6)
 (try rw [hji9] at A7)
 (try rw [hji9] at A8)
 have hji9_ : (if t780 < t781 then t781 else t780) = ji9 := hji9
 obtain rfl := Option.some.inj H
 go_enter Try.func111, Try.ntmps111
 go_wp2_with (first | ((with_reducible refine gate_callee (f := 106) rfl ?_); refine zD (some 19) Try.func106 #[.pointer (some ⟨g0, 0, none⟩), .int .i64 a1, .int .i64 a2, .int .i64 a3, .int .i64 a4] ?_; (with_reducible refine (impl_chi_split.calls k _ l0 a1 a2 a3 a4 t778 t779 _ ?side1 ?side2 A6.out).mono ?_); (case side1 => repeat (first | exact HR0.out | (with_reducible refine Kd.C_alloc ?_ _) | (with_reducible refine Kd.C_drewN ?_ _) | (with_reducible refine Kd.C_drew ?_))); (case side2 => exact HC0.out); rintro e w10 ⟨rfl, hb⟩; refine ⟨_, rfl, ?_⟩; replace HB := zX hb; (try clear hb)) | ((with_reducible refine gate_callee (f := 150) rfl ?_); refine zD (some 23) Try.func150 #[.int .i64 t778] ?_; (with_reducible refine (impl_single.calls k t778 t780 _ A7.out).mono ?_); rintro e w' ⟨rfl, ⟨nd, rfl⟩⟩; refine ⟨_, rfl, ?_⟩) | ((with_reducible refine gate_callee (f := 150) rfl ?_); refine zD (some 25) Try.func150 #[.int .i64 t779] ?_; (with_reducible refine (impl_single.calls k t779 t781 _ A8.out).mono ?_); rintro e w' ⟨rfl, ⟨nd, rfl⟩⟩; refine ⟨_, rfl, ?_⟩))
 go_ret
 exact ⟨by first | rfl | (simp [errW_none, errW_some] <;> rfl) | (simp only [← hji9]; first | rfl | (simp [errW_none, errW_some] <;> rfl)) | (simp [*, errW_none, errW_some] <;> rfl), zB⟩
/-! ### impl_QuadsOf: function 33 -/
def impl_QuadsOf.l0 : Nat → List Int → List (List Int) → List (S91) → Int → Int → Option ((List (List Int)))
 | 0, _, _, _, _, _ => none
 | k + 1, x3, x5, x17, x18, x19 => if x19 < x18 then (if 0 ≤ x19 then (if x19 < (x17.length : Int) then (if x3.length = 344 then ((impl_chi_inner.f k x3 ((rd_T91 x17 x19).f0) ((rd_T91 x17 x19).f1) ((rd_T91 x17 x19).f2) ((rd_T91 x17 x19).f3)).bind fun t792 => (if t792 < 0 then (if x5.length < 5864062014805 then (impl_QuadsOf.l0 k x3 (x5 ++ [(([(rd_T91 x17 x19).f0, (rd_T91 x17 x19).f1, (rd_T91 x17 x19).f2, (rd_T91 x17 x19).f3] : List Int))]) x17 x18 (wrap64 (x19 + 1))) else (none)) else (impl_QuadsOf.l0 k x3 x5 x17 x18 (wrap64 (x19 + 1))))) else (none)) else (none)) else (none)) else (some x5)
def impl_QuadsOf.f (k : Nat) (a0_0 : Int) (a0_1 : ByteArray) : Option ((List (List Int))) := (impl_orderOf.f k a0_0 a0_1).bind fun bt783 => (if bt783.2 = true then ((impl_quadsOf.f k a0_0).bind fun t787 => (impl_QuadsOf.l0 k bt783.1 ([] : List (List Int)) t787 (t787.length : Int) 0)) else (some ([] : List (List Int))))
set_option maxHeartbeats 8000000 in
set_option maxRecDepth 100000 in
theorem impl_QuadsOf.calls (k : Nat) (a0_0 : Int) (a0_1 : ByteArray) (r : List (List Int)) (w : World) (h : impl_QuadsOf.f k a0_0 a0_1 = some r) :
  Calls Try.prog 33 #[.agg #[.int .i64 a0_0, .string a0_1]] w fun e w' => ∃ v0_ : Value, e = .returned (v0_) ∧ Kd.S (Kd.slice 3 (Kd.int .i64)) 27 w' w.heap.size (fun _ => True) v0_ r ∧ Below w.heap.size w w' := by
 have hu25 := Try.underlying25
 have hu91 := Try.underlying91
 have HB := Aside0.mk (Below.refl w.heap.size w)
 have H : ((impl_orderOf.f k a0_0 a0_1).bind fun bt783 => (if bt783.2 = true then ((impl_quadsOf.f k a0_0).bind fun t787 => (impl_QuadsOf.l0 k bt783.1 ([] : List (List Int)) t787 (t787.length : Int) 0)) else (some ([] : List (List Int))))) = some r := h
 clear h
 obtain ⟨⟨t783, t786⟩, A2, H⟩ := zO H
 dsimp only at H
 by_cases c3 : t786 = true
 ·subst c3
  replace H := (if_pos rfl).symm.trans H
  obtain ⟨t787, A4, H⟩ := zO H
  have H' := Aside0.mk H; clear H
  go_enter Try.func33, Try.ntmps33
  go_wp2_with (first | ((with_reducible refine gate_dst (N := 1) rfl ?_); refine zBx (N := 1) #[.int .i64 a0_0, .string a0_1] 25 ?_; intro gb782 hg w5 hbox hb; have BK782 := Aside0.mk (hbox); have GW782 := zS hg; have GE782 := zS hg; replace HB := zX hb; clear hb hbox hg; obtain ⟨hcz6_0, hcz6_1, hfz6_0, hfz6_1⟩ := zq2 BK782.out) | ((with_reducible refine gate_callee (f := 105) rfl ?_); refine zD (some 10) Try.func105 #[.agg #[.int .i64 a0_0, .string a0_1]] ?_; (with_reducible refine (impl_orderOf.calls k a0_0 a0_1 t783 true _ A2.out).mono ?_); rintro e w7 ⟨v784, rfl, ho0, hb⟩; refine ⟨_, rfl, ?_⟩; have HO785 := Aside0.mk (Kd.R_lower ho0 (below_size (zG GE782.out))); replace BK782 := zV BK782.out hb; replace HB := zX1 GE782.out hb; (try clear hb); (try clear ho0); obtain ⟨hcz8_0, hcz8_1, hfz8_0, hfz8_1⟩ := zq2 BK782.out) | ((with_reducible refine gate_callee (f := 110) rfl ?_); refine zD (some 17) Try.func110 #[.int .i64 a0_0] ?_; (with_reducible refine (impl_quadsOf.calls k a0_0 t787 _ A4.out).mono ?_); rintro e w9 ⟨v788, rfl, ho0, hb⟩; refine ⟨_, rfl, ?_⟩; replace HO785 := zW HO785.out hb; have HO789 := Aside0.mk (Kd.R_lower ho0 (below_size (zG GE782.out))); replace BK782 := zV BK782.out hb; replace HB := zX1 GE782.out hb; (try clear hb); (try clear ho0); obtain ⟨Ao10, co10, eo10⟩ := Kd.R_slice HO789.out; subst eo10))
  go_loopg [5, 19] k (fun kq v5 v19 w' => ∃ (x5_1 : List (List Int)) (x19_1 : Int), v19 = .int .i64 x19_1 ∧ Aside0 (impl_QuadsOf.l0 kq t783 x5_1 t787 (t787.length : Int) x19_1 = some r) ∧ Aside0 (kq ≤ k) ∧ Aside0 (Kd.R (Kd.int .i64) 115 w' w.heap.size (fun _ => True) v784 t783) ∧ Aside0 (Kd.S (Kd.slice 3 (Kd.int .i64)) 27 w' w.heap.size (fun _ => True) v5 x5_1) ∧ Aside0 (Kd.R k91 91 w' w.heap.size (fun _ => True) (.slice Ao10 t787.length co10) t787) ∧ Aside0 (w'.heap[gb782]? = some (.cells #[.int .i64 a0_0, .string a0_1] 25 (0, 0))) ∧ Aside0 (Below w.heap.size w w'))
  case atStart => exact ⟨(([] : List (List Int))), (0), zF, H', ⟨Nat.le_refl _⟩, ⟨zR HO785.out⟩, ⟨by first | exact Kd.S_nil _ _ _ _ _ | exact Kd.N_nil _ _ _ _ _ | exact Kd.V_nil _ _ _ _ _ | exact Kd.Q_nil _ _ _ _ _ | exact Kd.R_nil _ _ _ _ _⟩, ⟨zR HO789.out⟩, ⟨zK BK782.out⟩, ⟨zG GE782.out⟩⟩
  case round =>
  clear H'
  try clear c3
  try clear hcz6_0
  try clear hcz6_1
  try clear hcz8_0
  try clear hcz8_1
  try clear hfz6_0
  try clear hfz6_1
  try clear hfz8_0
  try clear hfz8_1
  obtain ⟨x5_1, x19_1, rfl, HA, HK1, HO_3, HO_5, HO_17, BK782, HB⟩ := hrel
  cases gk with
  | zero => exact absurd HA.out (by simp [impl_QuadsOf.l0])
  | succ k1 =>
  have H := HA.out
  clear HA
  simp only [impl_QuadsOf.l0] at H
  by_cases c11 : x19_1 < (t787.length : Int)
  ·rw [if_pos c11] at H
   have c11b0 : decide (x19_1 < (t787.length : Int)) = true := decide_eq_true c11
   clear c11
   by_cases c12 : 0 ≤ x19_1
   ·rw [if_pos c12] at H
    have c12b0 : decide (0 ≤ x19_1) = true := decide_eq_true c12
    clear c12
    by_cases c13 : x19_1 < (t787.length : Int)
    ·rw [if_pos c13] at H
     have c13b0 : decide (x19_1 < (t787.length : Int)) = true := decide_eq_true c13
     clear c13
     by_cases c14 : t783.length = 344
     ·rw [if_pos c14] at H
      have c14b0 := eq_true c14
      have c14b1 : decide (t783.length = 344) = true := decide_eq_true c14
      clear c14
      obtain ⟨t792, A15, H⟩ := zO H
      by_cases c16 : t792 < 0
      ·rw [if_pos c16] at H
       have c16b0 : decide (t792 < 0) = true := decide_eq_true c16
       clear c16
       obtain ⟨y793, hy793⟩ : ∃ y_ : List Int, y_ = (([(rd_T91 t787 x19_1).f0, (rd_T91 t787 x19_1).f1, (rd_T91 t787 x19_1).f2, (rd_T91 t787 x19_1).f3] : List Int)) := ⟨_, rfl⟩
       replace H : (if x5_1.length < 5864062014805 then (impl_QuadsOf.l0 k1 t783 (x5_1 ++ [y793]) t787 (t787.length : Int) (wrap64 (x19_1 + 1))) else (none)) = some r := by first | (rw [hy793]; with_reducible exact H) | (have H2_ := (Option.bind_some _ _).symm.trans H; rw [hy793]; with_reducible exact H2_) | (have H2_ := (Option.bind_some _ _).symm.trans H; with_reducible exact H2_) | with_reducible exact H | (rw [hy793]; exact H) | exact H
       have Ny793 := Aside0.mk hy793
       clear hy793
       by_cases c17 : x5_1.length < 5864062014805
       ·rw [if_pos c17] at H
        have LMc17 := Aside0.mk c17
        clear c17
        obtain ⟨y796, hy796⟩ : ∃ y_ : List (List Int), y_ = (x5_1 ++ [y793]) := ⟨_, rfl⟩
        replace H : (impl_QuadsOf.l0 k1 t783 y796 t787 (t787.length : Int) (wrap64 (x19_1 + 1))) = some r := by first | (rw [hy796]; with_reducible exact H) | (have H2_ := (Option.bind_some _ _).symm.trans H; rw [hy796]; with_reducible exact H2_) | (have H2_ := (Option.bind_some _ _).symm.trans H; with_reducible exact H2_) | with_reducible exact H | (rw [hy796]; exact H) | exact H
        have Ny796 := Aside0.mk hy796
        clear hy796
        have H' := Aside0.mk H; clear H
        have p790 : 0 ≤ (x19_1 : Int) := zA
        have q790 : x19_1 < (t787.length : Int) := zA
        obtain ⟨ad790, e790, hx790_0, hx790_1, hx790_2, hx790_3⟩ := at_T91 (Kd.R_reads' HO_17.out).2.2 x19_1 p790 q790
        cases e790
        replace p790 := eq_true p790
        replace q790 := eq_true q790
        go_wp2_with (first | ((with_reducible refine gate_dst (N := 7) rfl ?_); refine zBx (N := 7) #[.int .i64 0, .int .i64 0, .int .i64 0, .int .i64 0] 91 ?_; intro gb791 hg w18 hbox hb; replace HO_3 := zW HO_3.out hb; replace HO_5 := Aside0.mk (Kd.S_below (by (with_reducible repeat (first | apply Kd.S_alloc | apply Kd.S_drewN | apply Kd.S_drew)); exact HO_5.out) hb); replace HO_17 := Aside0.mk (Kd.R_below (Kd.R_elderB (zR HO_17.out) gb791 (Nat.le_of_eq hg.symm)) hb); have BK791 := Aside0.mk (hbox); have GW791 := zSg hg (zG GE782.out); have GE791 := zSg hg (zG GE782.out); have NB782_791 := zL hg BK782.out; have NB791_782 := zLg hg BK782.out; replace BK782 := zV BK782.out hb; replace HB := zX1 GE782.out hb; clear hb hbox hg; have hnb19 := NB791_782.out; have hnc19 := NB782_791.out; obtain ⟨hcz20_0, hcz20_1, hcz20_2, hcz20_3, hfz20_0, hfz20_1, hfz20_2, hfz20_3⟩ := zq4 BK791.out; obtain ⟨go21, co21, eo21, gb21, gl21, cl21, HG21⟩ := Kd.R_form HO_3.out (by have hl_ := Nat.le_of_eq (Eq.symm (zA : t783.length = 344)); omega); (first | cases eo21 | (injection eo21 with ea_ en_ ec_; (first | subst ea_ | (injection ea_ with ea_; subst ea_)); subst ec_; clear en_)); have GB21 := Aside0.mk gb21; have GG21 := Aside0.mk HG21; clear gb21 gl21 HG21) | ((with_reducible refine gate_callee (f := 111) rfl ?_); refine zD (some 32) Try.func111 #[.pointer (some ⟨go21, 0, none⟩), .int .i64 ((rd_T91 t787 x19_1).f0), .int .i64 ((rd_T91 t787 x19_1).f1), .int .i64 ((rd_T91 t787 x19_1).f2), .int .i64 ((rd_T91 t787 x19_1).f3)] ?_; (with_reducible refine (impl_chi_inner.calls k1 _ t783 ((rd_T91 t787 x19_1).f0) ((rd_T91 t787 x19_1).f1) ((rd_T91 t787 x19_1).f2) ((rd_T91 t787 x19_1).f3) t792 _ ?side1 ?side2 A15.out).mono ?_); (case side1 => refine (Kd.R_reads' (e := 115) (base := w.heap.size) (ok := fun k_ => True) (n := t783.length) (c := co21) ?_).2.2; exact (by (with_reducible repeat (first | apply Kd.R_alloc | apply Kd.R_drewN | apply Kd.R_drew)); exact (Kd.R_mono (Kd.R_far (p := ⟨gb791, 3, none⟩) (Kd.R_far (p := ⟨gb791, 2, none⟩) (Kd.R_far (p := ⟨gb791, 1, none⟩) (Kd.R_far (p := ⟨gb791, 0, none⟩) (Kd.R_types HO_3.out BK791.out (by decide)) (fun _ hk => hk.2) (.int .i64 ((rd_T91 t787 x19_1).f0))) (fun _ hk => hk.2) (.int .i64 ((rd_T91 t787 x19_1).f1))) (fun _ hk => hk.2) (.int .i64 ((rd_T91 t787 x19_1).f2))) (fun _ hk => hk.2) (.int .i64 ((rd_T91 t787 x19_1).f3))) (fun _ h_ => h_.1)))); (case side2 => exact (zA : t783.length = 344)); rintro e w22 ⟨rfl, hb⟩; refine ⟨_, rfl, ?_⟩; replace HO_3 := Aside0.mk (Kd.R_below (by (with_reducible repeat (first | apply Kd.R_alloc | apply Kd.R_drewN | apply Kd.R_drew)); exact (Kd.R_mono (Kd.R_far (p := ⟨gb791, 3, none⟩) (Kd.R_far (p := ⟨gb791, 2, none⟩) (Kd.R_far (p := ⟨gb791, 1, none⟩) (Kd.R_far (p := ⟨gb791, 0, none⟩) (Kd.R_types HO_3.out BK791.out (by decide)) (fun _ hk => hk.2) (.int .i64 ((rd_T91 t787 x19_1).f0))) (fun _ hk => hk.2) (.int .i64 ((rd_T91 t787 x19_1).f1))) (fun _ hk => hk.2) (.int .i64 ((rd_T91 t787 x19_1).f2))) (fun _ hk => hk.2) (.int .i64 ((rd_T91 t787 x19_1).f3))) (fun _ h_ => h_.1))) hb); replace HO_5 := Aside0.mk (Kd.S_below (by (with_reducible repeat (first | apply Kd.S_alloc | apply Kd.S_drewN | apply Kd.S_drew)); exact (Kd.S_mono (Kd.S_far (p := ⟨gb791, 3, none⟩) (Kd.S_far (p := ⟨gb791, 2, none⟩) (Kd.S_far (p := ⟨gb791, 1, none⟩) (Kd.S_far (p := ⟨gb791, 0, none⟩) (Kd.S_types HO_5.out BK791.out (by decide)) (fun _ hk => hk.2) (.int .i64 ((rd_T91 t787 x19_1).f0))) (fun _ hk => hk.2) (.int .i64 ((rd_T91 t787 x19_1).f1))) (fun _ hk => hk.2) (.int .i64 ((rd_T91 t787 x19_1).f2))) (fun _ hk => hk.2) (.int .i64 ((rd_T91 t787 x19_1).f3))) (fun _ h_ => h_.1))) hb); replace HO_17 := Aside0.mk (Kd.R_below (by (with_reducible repeat (first | apply Kd.R_alloc | apply Kd.R_drewN | apply Kd.R_drew)); exact (Kd.R_mono (Kd.R_far (p := ⟨gb791, 3, none⟩) (Kd.R_far (p := ⟨gb791, 2, none⟩) (Kd.R_far (p := ⟨gb791, 1, none⟩) (Kd.R_far (p := ⟨gb791, 0, none⟩) (Kd.R_mono HO_17.out (fun k_ hk => (⟨hk, hk.2⟩ : _ ∧ k_ ≠ gb791))) (fun _ hk => hk.2) (.int .i64 ((rd_T91 t787 x19_1).f0))) (fun _ hk => hk.2) (.int .i64 ((rd_T91 t787 x19_1).f1))) (fun _ hk => hk.2) (.int .i64 ((rd_T91 t787 x19_1).f2))) (fun _ hk => hk.2) (.int .i64 ((rd_T91 t787 x19_1).f3))) (fun _ h_ => h_.1))) hb); replace BK782 := Aside0.mk (blk_below (g := gb782) (o := .cells #[.int .i64 a0_0, .string a0_1] 25 (0, 0)) (zk4 BK782.out NB782_791.out NB782_791.out NB782_791.out NB782_791.out) hb); replace BK791 := Aside0.mk (blk_below (g := gb791) (o := .cells #[.int .i64 ((rd_T91 t787 x19_1).f0), .int .i64 ((rd_T91 t787 x19_1).f1), .int .i64 ((rd_T91 t787 x19_1).f2), .int .i64 ((rd_T91 t787 x19_1).f3)] 91 (0, 0)) (zk0 BK791.out) hb); replace HB := Aside0.mk (below_step (zG2 GE782.out GE791.out) hb); (try clear hb); obtain ⟨hcz23_0, hcz23_1, hcz23_2, hcz23_3, hfz23_0, hfz23_1, hfz23_2, hfz23_3⟩ := zq4 BK791.out) | ((with_reducible refine gate_dst (N := 43) rfl ?_); refine Kd.R_lit (Kd.int .i64) _ 3 ?hg (N := 43) ?hd (xs := ([(rd_T91 t787 x19_1).f0, (rd_T91 t787 x19_1).f1, (rd_T91 t787 x19_1).f2, (rd_T91 t787 x19_1).f3] : List Int)) (inner := [.int .i64 ((rd_T91 t787 x19_1).f0), .int .i64 ((rd_T91 t787 x19_1).f1), .int .i64 ((rd_T91 t787 x19_1).f2), .int .i64 ((rd_T91 t787 x19_1).f3)]) (ok := fun _ => True) (okp := fun _ => True) ?hr ?hp (fun _ hk => hk) trivial (Below.refl _ _) (Nat.le_refl _) (by simp) ?_; (case hd => rfl); (case hg => rfl); (case hr => first | (go_simp; done) | (go_simp; rfl)); (case hp => exact (Reps.one (show Kd.M (Kd.int .i64) _ _ _ ((rd_T91 t787 x19_1).f0) [.int .i64 ((rd_T91 t787 x19_1).f0)] from rfl) (Reps.one (show Kd.M (Kd.int .i64) _ _ _ ((rd_T91 t787 x19_1).f1) [.int .i64 ((rd_T91 t787 x19_1).f1)] from rfl) (Reps.one (show Kd.M (Kd.int .i64) _ _ _ ((rd_T91 t787 x19_1).f2) [.int .i64 ((rd_T91 t787 x19_1).f2)] from rfl) (Reps.one (show Kd.M (Kd.int .i64) _ _ _ ((rd_T91 t787 x19_1).f3) [.int .i64 ((rd_T91 t787 x19_1).f3)] from rfl) (Reps.none _ _)))))); intro v794 w24 ho25 hb hg_ hnew_; clear hg_ hnew_; (first | rw [← Ny793.out] at ho25 | (simp only [Int.reduceToNat] at ho25; rw [← Ny793.out] at ho25)); replace HO_3 := zW HO_3.out hb; replace HO_5 := Aside0.mk (Kd.S_elder' (by (with_reducible repeat (first | apply Kd.S_alloc | apply Kd.S_drewN | apply Kd.S_drew)); exact HO_5.out) (Kd.R_base ho25) hb); replace HO_17 := zW HO_17.out hb; have HO795 := Aside0.mk (Kd.R_lower ho25 (below_size (zG2 GE782.out GE791.out))); replace BK782 := zV BK782.out hb; replace BK791 := zV BK791.out hb; replace HB := Aside0.mk (below_step (zG2 GE782.out GE791.out) hb); clear hb ho25; obtain ⟨Ao27, co27, eo27⟩ := Kd.R_slice HO795.out; subst eo27) | ((with_reducible refine gate_builtin (b := .append) (xs := #[.tmp 34, .tmp 44]) rfl ?_); at_builtin; refine Kd.S_append (Kd.slice 3 (Kd.int .i64)) (w0 := w) w.heap.size rfl (.tmp 34) (.tmp 44) 44 27 (.slice none 0 0) 24 rfl Try.underlying44 info27 rfl (by decide) (by omega) u5 x5_1 y793 [.slice Ao27 y793.length co27] (fun _ => True) (fun k_ => some k_ = (.slice Ao27 y793.length co27 : Value).ownBlock) rfl rfl ?aP (fun k_ hk_ => ((Kd.R_mono (ok' := fun k_ => ((fun _ => True)) k_ ∧ some k_ ≠ (u5 : Value).ownBlock) (Kd.R_apart' (HO795.out) (Kd.S_typed HO_5.out) (by decide)) (fun k_ hk => ⟨trivial, hk.2⟩))).1 k_ hk_.symm) ?aF ?aO ?aB ?aS ?aL ?_; (case aP => exact Kd.M_row (Kd.R_mono (Kd.R_tight rfl (Kd.R_mono (ok' := fun k_ => ((fun _ => True)) k_ ∧ some k_ ≠ (u5 : Value).ownBlock) (Kd.R_apart' (HO795.out) (Kd.S_typed HO_5.out) (by decide)) (fun k_ hk => ⟨trivial, hk.2⟩))) (fun _ h_ => h_))); (case aB => exact (zG2 GE782.out GE791.out)); (case aF => exact (fun _ _ => trivial)); (case aO => exact (by (with_reducible repeat (first | apply Kd.S_alloc | apply Kd.S_drewN | apply Kd.S_drew)); exact Kd.S_mono HO_5.out (fun k_ hk => ⟨trivial, fun e_ => hk.2 e_⟩))); (case aS => exact (below_size (zG2 GE782.out GE791.out))); (case aL => have := LMc17.out; omega); intro v797 w26 ho hb hg hat; rw [← Ny796.out] at ho; have n0_ := Aside0.mk (Kd.R_over' (zR HO_3.out) (Kd.S_typed (by (with_reducible repeat (first | apply Kd.S_alloc | apply Kd.S_drewN | apply Kd.S_drew)); exact HO_5.out)) (by decide) hg); have n1_ := Aside0.mk (Kd.R_over' (zR HO_17.out) (Kd.S_typed (by (with_reducible repeat (first | apply Kd.S_alloc | apply Kd.S_drewN | apply Kd.S_drew)); exact HO_5.out)) (by decide) hg); have n2_ := Aside0.mk (blk_grown (g := gb782) (o := .cells #[.int .i64 a0_0, .string a0_1] 25 (0, 0)) (zK BK782.out) hg (Kd.S_ne HO_5.out BK782.out (by decide))); have n3_ := Aside0.mk (blk_grown (g := gb791) (o := .cells #[.int .i64 ((rd_T91 t787 x19_1).f0), .int .i64 ((rd_T91 t787 x19_1).f1), .int .i64 ((rd_T91 t787 x19_1).f2), .int .i64 ((rd_T91 t787 x19_1).f3)] 91 (0, 0)) (zK BK791.out) hg (Kd.S_ne HO_5.out BK791.out (by decide))); have n4_ := Aside0.mk (hb); have n5_ := Aside0.mk (ho); clear HO_3; clear HO_17; clear BK782; clear BK791; clear HB; clear HO_5; clear HO795; have HO_3 := n0_; have HO_17 := n1_; have BK782 := n2_; have BK791 := n3_; have HB := n4_; have HO798 := n5_; clear n0_ n1_ n2_ n3_ n4_ n5_; clear ho hb hg hat))
        go_roundg k1
        case measure => have := HK1.out; omega
        case rel => exact ⟨(y796), (wrap64 (x19_1 + 1)), zF, H', ⟨by have := HK1.out; omega⟩, ⟨zR HO_3.out⟩, ⟨by (with_reducible repeat (first | apply Kd.S_alloc | apply Kd.S_drewN | apply Kd.S_drew)); exact HO798.out⟩, ⟨by (with_reducible repeat (first | apply Kd.R_alloc | apply Kd.R_drewN | apply Kd.R_drew)); exact Kd.R_mono HO_17.out (fun _ hk => trivial)⟩, ⟨zK BK782.out⟩, ⟨zG2 GE782.out GE791.out⟩⟩
       rw [if_neg c17] at H
       exact absurd H (by simp)
      rw [if_neg c16] at H
      have c16b0 : decide (t792 < 0) = false := decide_eq_false c16
      clear c16
      have H' := Aside0.mk H; clear H
      have p790 : 0 ≤ (x19_1 : Int) := zA
      have q790 : x19_1 < (t787.length : Int) := zA
      obtain ⟨ad790, e790, hx790_0, hx790_1, hx790_2, hx790_3⟩ := at_T91 (Kd.R_reads' HO_17.out).2.2 x19_1 p790 q790
      cases e790
      replace p790 := eq_true p790
      replace q790 := eq_true q790
      go_wp2_with (first | ((with_reducible refine gate_dst (N := 7) rfl ?_); refine zBx (N := 7) #[.int .i64 0, .int .i64 0, .int .i64 0, .int .i64 0] 91 ?_; intro gb791 hg w28 hbox hb; replace HO_3 := zW HO_3.out hb; replace HO_5 := Aside0.mk (Kd.S_below (by (with_reducible repeat (first | apply Kd.S_alloc | apply Kd.S_drewN | apply Kd.S_drew)); exact HO_5.out) hb); replace HO_17 := Aside0.mk (Kd.R_below (Kd.R_elderB (zR HO_17.out) gb791 (Nat.le_of_eq hg.symm)) hb); have BK791 := Aside0.mk (hbox); have GW791 := zSg hg (zG GE782.out); have GE791 := zSg hg (zG GE782.out); have NB782_791 := zL hg BK782.out; have NB791_782 := zLg hg BK782.out; replace BK782 := zV BK782.out hb; replace HB := zX1 GE782.out hb; clear hb hbox hg; have hnb29 := NB791_782.out; have hnc29 := NB782_791.out; obtain ⟨hcz30_0, hcz30_1, hcz30_2, hcz30_3, hfz30_0, hfz30_1, hfz30_2, hfz30_3⟩ := zq4 BK791.out; obtain ⟨go31, co31, eo31, gb31, gl31, cl31, HG31⟩ := Kd.R_form HO_3.out (by have hl_ := Nat.le_of_eq (Eq.symm (zA : t783.length = 344)); omega); (first | cases eo31 | (injection eo31 with ea_ en_ ec_; (first | subst ea_ | (injection ea_ with ea_; subst ea_)); subst ec_; clear en_)); have GB31 := Aside0.mk gb31; have GG31 := Aside0.mk HG31; clear gb31 gl31 HG31) | ((with_reducible refine gate_callee (f := 111) rfl ?_); refine zD (some 32) Try.func111 #[.pointer (some ⟨go31, 0, none⟩), .int .i64 ((rd_T91 t787 x19_1).f0), .int .i64 ((rd_T91 t787 x19_1).f1), .int .i64 ((rd_T91 t787 x19_1).f2), .int .i64 ((rd_T91 t787 x19_1).f3)] ?_; (with_reducible refine (impl_chi_inner.calls k1 _ t783 ((rd_T91 t787 x19_1).f0) ((rd_T91 t787 x19_1).f1) ((rd_T91 t787 x19_1).f2) ((rd_T91 t787 x19_1).f3) t792 _ ?side1 ?side2 A15.out).mono ?_); (case side1 => refine (Kd.R_reads' (e := 115) (base := w.heap.size) (ok := fun k_ => True) (n := t783.length) (c := co31) ?_).2.2; exact (by (with_reducible repeat (first | apply Kd.R_alloc | apply Kd.R_drewN | apply Kd.R_drew)); exact (Kd.R_mono (Kd.R_far (p := ⟨gb791, 3, none⟩) (Kd.R_far (p := ⟨gb791, 2, none⟩) (Kd.R_far (p := ⟨gb791, 1, none⟩) (Kd.R_far (p := ⟨gb791, 0, none⟩) (Kd.R_types HO_3.out BK791.out (by decide)) (fun _ hk => hk.2) (.int .i64 ((rd_T91 t787 x19_1).f0))) (fun _ hk => hk.2) (.int .i64 ((rd_T91 t787 x19_1).f1))) (fun _ hk => hk.2) (.int .i64 ((rd_T91 t787 x19_1).f2))) (fun _ hk => hk.2) (.int .i64 ((rd_T91 t787 x19_1).f3))) (fun _ h_ => h_.1)))); (case side2 => exact (zA : t783.length = 344)); rintro e w32 ⟨rfl, hb⟩; refine ⟨_, rfl, ?_⟩; replace HO_3 := Aside0.mk (Kd.R_below (by (with_reducible repeat (first | apply Kd.R_alloc | apply Kd.R_drewN | apply Kd.R_drew)); exact (Kd.R_mono (Kd.R_far (p := ⟨gb791, 3, none⟩) (Kd.R_far (p := ⟨gb791, 2, none⟩) (Kd.R_far (p := ⟨gb791, 1, none⟩) (Kd.R_far (p := ⟨gb791, 0, none⟩) (Kd.R_types HO_3.out BK791.out (by decide)) (fun _ hk => hk.2) (.int .i64 ((rd_T91 t787 x19_1).f0))) (fun _ hk => hk.2) (.int .i64 ((rd_T91 t787 x19_1).f1))) (fun _ hk => hk.2) (.int .i64 ((rd_T91 t787 x19_1).f2))) (fun _ hk => hk.2) (.int .i64 ((rd_T91 t787 x19_1).f3))) (fun _ h_ => h_.1))) hb); replace HO_5 := Aside0.mk (Kd.S_below (by (with_reducible repeat (first | apply Kd.S_alloc | apply Kd.S_drewN | apply Kd.S_drew)); exact (Kd.S_mono (Kd.S_far (p := ⟨gb791, 3, none⟩) (Kd.S_far (p := ⟨gb791, 2, none⟩) (Kd.S_far (p := ⟨gb791, 1, none⟩) (Kd.S_far (p := ⟨gb791, 0, none⟩) (Kd.S_types HO_5.out BK791.out (by decide)) (fun _ hk => hk.2) (.int .i64 ((rd_T91 t787 x19_1).f0))) (fun _ hk => hk.2) (.int .i64 ((rd_T91 t787 x19_1).f1))) (fun _ hk => hk.2) (.int .i64 ((rd_T91 t787 x19_1).f2))) (fun _ hk => hk.2) (.int .i64 ((rd_T91 t787 x19_1).f3))) (fun _ h_ => h_.1))) hb); replace HO_17 := Aside0.mk (Kd.R_below (by (with_reducible repeat (first | apply Kd.R_alloc | apply Kd.R_drewN | apply Kd.R_drew)); exact (Kd.R_mono (Kd.R_far (p := ⟨gb791, 3, none⟩) (Kd.R_far (p := ⟨gb791, 2, none⟩) (Kd.R_far (p := ⟨gb791, 1, none⟩) (Kd.R_far (p := ⟨gb791, 0, none⟩) (Kd.R_mono HO_17.out (fun k_ hk => (⟨hk, hk.2⟩ : _ ∧ k_ ≠ gb791))) (fun _ hk => hk.2) (.int .i64 ((rd_T91 t787 x19_1).f0))) (fun _ hk => hk.2) (.int .i64 ((rd_T91 t787 x19_1).f1))) (fun _ hk => hk.2) (.int .i64 ((rd_T91 t787 x19_1).f2))) (fun _ hk => hk.2) (.int .i64 ((rd_T91 t787 x19_1).f3))) (fun _ h_ => h_.1))) hb); replace BK782 := Aside0.mk (blk_below (g := gb782) (o := .cells #[.int .i64 a0_0, .string a0_1] 25 (0, 0)) (zk4 BK782.out NB782_791.out NB782_791.out NB782_791.out NB782_791.out) hb); replace BK791 := Aside0.mk (blk_below (g := gb791) (o := .cells #[.int .i64 ((rd_T91 t787 x19_1).f0), .int .i64 ((rd_T91 t787 x19_1).f1), .int .i64 ((rd_T91 t787 x19_1).f2), .int .i64 ((rd_T91 t787 x19_1).f3)] 91 (0, 0)) (zk0 BK791.out) hb); replace HB := Aside0.mk (below_step (zG2 GE782.out GE791.out) hb); (try clear hb)))
      go_roundg k1
      case measure => have := HK1.out; omega
      case rel => exact ⟨(x5_1), (wrap64 (x19_1 + 1)), zF, H', ⟨by have := HK1.out; omega⟩, ⟨zR HO_3.out⟩, ⟨by (with_reducible repeat (first | apply Kd.S_alloc | apply Kd.S_drewN | apply Kd.S_drew)); exact HO_5.out⟩, ⟨by (with_reducible repeat (first | apply Kd.R_alloc | apply Kd.R_drewN | apply Kd.R_drew)); exact Kd.R_mono HO_17.out (fun _ hk => trivial)⟩, ⟨zK BK782.out⟩, ⟨zG2 GE782.out GE791.out⟩⟩
     rw [if_neg c14] at H
     exact absurd H (by simp)
    rw [if_neg c13] at H
    exact absurd H (by simp)
   rw [if_neg c12] at H
   exact absurd H (by simp)
  rw [if_neg c11] at H
  have c11b0 : decide (x19_1 < (t787.length : Int)) = false := decide_eq_false c11
  clear c11
  obtain rfl := Option.some.inj H
  go_wp2
  go_ret
  exact ⟨_, zE, by (with_reducible repeat (first | apply Kd.S_alloc | apply Kd.S_drewN | apply Kd.S_drew)); exact HO_5.out, zG GE782.out⟩
 replace c3 := Bool.eq_false_iff.mpr c3
 subst c3
 replace H := (if_neg zFf).symm.trans H
 obtain rfl := Option.some.inj H
 go_enter Try.func33, Try.ntmps33
 go_wp2_with (first | ((with_reducible refine gate_dst (N := 1) rfl ?_); refine zBx (N := 1) #[.int .i64 a0_0, .string a0_1] 25 ?_; intro gb782 hg w33 hbox hb; have BK782 := Aside0.mk (hbox); have GW782 := zS hg; have GE782 := zS hg; replace HB := zX hb; clear hb hbox hg; obtain ⟨hcz34_0, hcz34_1, hfz34_0, hfz34_1⟩ := zq2 BK782.out) | ((with_reducible refine gate_callee (f := 105) rfl ?_); refine zD (some 10) Try.func105 #[.agg #[.int .i64 a0_0, .string a0_1]] ?_; (with_reducible refine (impl_orderOf.calls k a0_0 a0_1 t783 false _ A2.out).mono ?_); rintro e w35 ⟨v784, rfl, ho0, hb⟩; refine ⟨_, rfl, ?_⟩; have HO785 := Aside0.mk (Kd.R_lower ho0 (below_size (zG GE782.out))); replace BK782 := zV BK782.out hb; replace HB := zX1 GE782.out hb; (try clear hb); (try clear ho0)))
 go_ret
 exact ⟨_, zE, by first | exact Kd.S_nil _ _ _ _ _ | exact Kd.N_nil _ _ _ _ _ | exact Kd.V_nil _ _ _ _ _ | exact Kd.Q_nil _ _ _ _ _ | exact Kd.R_nil _ _ _ _ _, zG GE782.out⟩
/-! ### spec_DrawIsInside: function 34 -/
def spec_DrawIsInside.f (k : Nat) (l0 : List Int) : Option (Int × ByteArray × Int × Int × Int × Int) := (spec_l5Four.f k l0).bind fun bt800 => (if 0 < (bt800.2.2.length : Int) then (if 1 < (bt800.2.2.length : Int) then (if 2 < (bt800.2.2.length : Int) then (if 3 < (bt800.2.2.length : Int) then (some (bt800.1, bt800.2.1, rd bt800.2.2 0, rd bt800.2.2 1, rd bt800.2.2 2, rd bt800.2.2 3)) else (none)) else (none)) else (none)) else (none))
def spec_DrawIsInside.T2 : Bool × List (List Nat × List Nat) := (true, [([], []), ([], []), ([1], [1]), ([2], [2]), ([], []), ([4], [4]), ([5], [5]), ([], []), ([7], [7]), ([8], [8]), ([], []), ([10], [10]), ([11], [11]), ([0, 0], [0]), ([3, 13, 0, 1, 2, 3, 13], [3]), ([6, 14, 0, 1, 2, 3, 4, 5, 6, 13, 14], [6]), ([9, 15, 0, 1, 2, 3, 4, 5, 6, 7, 8, 9, 13, 14, 15], [9]), ([12, 16, 0, 1, 2, 3, 4, 5, 6, 7, 8, 9, 10, 11, 12, 13, 14, 15, 16], [12])])
def spec_DrawIsInside.B2 : List Nat := [0, 0, 2, 6, 0, 16, 48, 0, 128, 384, 0, 1024, 3072, 1, 8207, 24703, 58367, 131071]
theorem spec_DrawIsInside.tab2 : rtab .any (opsOf Try.f34 2) = spec_DrawIsInside.T2 := by kernel_rfl
theorem spec_DrawIsInside.bits2 : waitsOk spec_DrawIsInside.T2.2 spec_DrawIsInside.B2 = true := by kernel_rfl
set_option maxHeartbeats 8000000 in
set_option maxRecDepth 100000 in
theorem spec_DrawIsInside.calls (k : Nat) (A0 : Option Addr) (c0 : Nat) (l0 : List Int) (r1 : Int) (r2 : ByteArray) (r3 : Int) (r4 : Int) (r5 : Int) (r6 : Int) (w : World) (hr0 : Kd.C (Kd.int .u8) w A0 l0.length l0) (hc0 : l0.length ≤ c0) (h : spec_DrawIsInside.f k l0 = some (r1, r2, r3, r4, r5, r6)) :
  Calls Try.prog 34 #[.slice A0 l0.length c0] w fun e w' => e = .returned (.tuple #[.agg #[.int .i64 r1, .string r2], .int .i64 r3, .int .i64 r4, .int .i64 r5, .int .i64 r6]) ∧ Below w.heap.size w w' := by
 have hu25 := Try.underlying25
 have HR0 := Aside0.mk hr0
 have HC0 := Aside0.mk hc0
 clear hr0 hc0
 have HB := Aside0.mk (Below.refl w.heap.size w)
 have H : ((spec_l5Four.f k l0).bind fun bt800 => (if 0 < (bt800.2.2.length : Int) then (if 1 < (bt800.2.2.length : Int) then (if 2 < (bt800.2.2.length : Int) then (if 3 < (bt800.2.2.length : Int) then (some (bt800.1, bt800.2.1, rd bt800.2.2 0, rd bt800.2.2 1, rd bt800.2.2 2, rd bt800.2.2 3)) else (none)) else (none)) else (none)) else (none))) = some (r1, r2, r3, r4, r5, r6) := h
 clear h
 obtain ⟨⟨t800, t801, t802⟩, A2, H⟩ := zO H
 dsimp only at H
 by_cases c3 : 0 < (t802.length : Int)
 ·rw [if_pos c3] at H
  have c3b0 : decide (0 < (t802.length : Int)) = true := decide_eq_true c3
  have c3b1 : decide (0 < t802.length) = true := decide_eq_true (by omega)
  clear c3
  by_cases c4 : 1 < (t802.length : Int)
  ·rw [if_pos c4] at H
   have c4b0 : decide (1 < (t802.length : Int)) = true := decide_eq_true c4
   have c4b1 : decide (1 < t802.length) = true := decide_eq_true (by omega)
   clear c4
   by_cases c5 : 2 < (t802.length : Int)
   ·rw [if_pos c5] at H
    have c5b0 : decide (2 < (t802.length : Int)) = true := decide_eq_true c5
    have c5b1 : decide (2 < t802.length) = true := decide_eq_true (by omega)
    clear c5
    by_cases c6 : 3 < (t802.length : Int)
    ·rw [if_pos c6] at H
     have c6b0 : decide (3 < (t802.length : Int)) = true := decide_eq_true c6
     have c6b1 : decide (3 < t802.length) = true := decide_eq_true (by omega)
     clear c6
     simp only [Option.some.injEq, Prod.mk.injEq] at H
     obtain ⟨rfl, rfl, rfl, rfl, rfl, rfl⟩ := H
     go_enter Try.func34, Try.ntmps34
     try go_wp2_with (first | ((with_reducible refine gate_dst (N := 2) rfl ?_); refine zBx (N := 2) #[.int .i64 0, .string (⟨#[]⟩ : ByteArray)] 25 ?_; intro gb799 hg w7 hbox hb; have BK799 := Aside0.mk (hbox); have GW799 := zS hg; have GE799 := zS hg; replace HB := zX hb; clear hb hbox hg) | ((with_reducible refine gate_callee (f := 104) rfl ?_); refine zD (some 11) Try.func104 #[.slice A0 l0.length c0] ?_; (with_reducible refine (spec_l5Four.calls k _ _ l0 t800 t801 t802 _ ?side1 ?side2 A2.out).mono ?_); (case side1 => repeat (first | exact (Kd.C_below HR0.out HB.out) | (with_reducible refine Kd.C_alloc ?_ _) | (with_reducible refine Kd.C_drewN ?_ _) | (with_reducible refine Kd.C_drew ?_))); (case side2 => exact HC0.out); rintro e w8 ⟨v803, rfl, ho0, hb⟩; refine ⟨_, rfl, ?_⟩; have HO804 := Aside0.mk (Kd.R_lower ho0 (below_size (zG GE799.out))); replace BK799 := zV BK799.out hb; replace HB := zX1 GE799.out hb; (try clear hb); (try clear ho0)) | ((with_reducible refine gate_dst (N := 7) rfl ?_); refine zBx (N := 7) #[.int .i64 0, .string (⟨#[]⟩ : ByteArray)] 25 ?_; intro gb805 hg w9 hbox hb; replace HO804 := zW HO804.out hb; have BK805 := Aside0.mk (hbox); have GW805 := zSg hg (zG GE799.out); have GE805 := zSg hg (zG GE799.out); have NB799_805 := zL hg BK799.out; have NB805_799 := zLg hg BK799.out; replace BK799 := zV BK799.out hb; replace HB := zX1 GE799.out hb; clear hb hbox hg; have hnb10 := NB805_799.out; have hnc10 := NB799_805.out; obtain ⟨hcz11_0, hcz11_1, hfz11_0, hfz11_1⟩ := zq2 BK805.out))
     have n0_ : Aside0 (Kd.R (Kd.int .i64) 3 ((w9.setCell ⟨gb805, 0, none⟩ (.int .i64 t800)).setCell ⟨gb805, 1, none⟩ (.string t801)) w.heap.size (fun _ => True) v803 t802) := ⟨by (with_reducible repeat (first | apply Kd.R_alloc | apply Kd.R_drewN | apply Kd.R_drew)); exact Kd.R_mono (Kd.R_far (p := ⟨gb805, 1, none⟩) (Kd.R_far (p := ⟨gb805, 0, none⟩) (Kd.R_types HO804.out BK805.out (by decide)) (fun _ hk => hk.2) (.int .i64 t800)) (fun _ hk => hk.2) (.string t801)) (fun _ hk => trivial)⟩
     have n1_ : Aside0 (((w9.setCell ⟨gb805, 0, none⟩ (.int .i64 t800)).setCell ⟨gb805, 1, none⟩ (.string t801)).heap[gb799]? = some (.cells #[.int .i64 0, .string (⟨#[]⟩ : ByteArray)] 25 (0, 0))) := ⟨zk2 BK799.out NB799_805.out NB799_805.out⟩
     have n2_ : Aside0 (((w9.setCell ⟨gb805, 0, none⟩ (.int .i64 t800)).setCell ⟨gb805, 1, none⟩ (.string t801)).heap[gb805]? = some (.cells #[.int .i64 t800, .string t801] 25 (0, 0))) := ⟨zk0 BK805.out⟩
     have n3_ : Aside0 (Below w.heap.size w ((w9.setCell ⟨gb805, 0, none⟩ (.int .i64 t800)).setCell ⟨gb805, 1, none⟩ (.string t801))) := ⟨zG2 GE799.out GE805.out⟩
     (try clear HO804)
     (try clear BK799)
     (try clear BK805)
     (try clear HB)
     generalize ((w9.setCell ⟨gb805, 0, none⟩ (.int .i64 t800)).setCell ⟨gb805, 1, none⟩ (.string t801)) = w12 at n0_ n1_ n2_ n3_ ⊢
     have HO804 := n0_
     have BK799 := n1_
     have BK805 := n2_
     have HB := n3_
     clear n0_ n1_ n2_ n3_
     replace HO804 := Aside0.mk (Kd.R_drew HO804.out)
     replace BK799 := Aside0.mk (blk_drew BK799.out)
     replace BK805 := Aside0.mk (blk_drew BK805.out)
     replace HB := Aside0.mk (below_drew1 HB.out)
     obtain ⟨Ao14, co14, eo14⟩ := Kd.R_slice HO804.out
     (first | subst eo14 | (injection eo14 with f1_ f2_ f3_; have f4_ := f1_.symm; have f5_ := f3_.symm; clear f1_ f2_ f3_; subst f4_; subst f5_))
     have p806 : 0 ≤ (0 : Int) := (by omega)
     have q806 : 0 < (t802.length : Int) := zA
     obtain ⟨ad806, e806, hx806_0⟩ := Kd.at_int (Kd.R_reads' HO804.out).2.2 0 p806 q806
     cases e806
     have qi806 : (0 < t802.length) = True := eq_true (by omega)
     (try rw [show ((0 : Int)).toNat = 0 from rfl] at hx806_0)
     (try rw [Addr.add_zero'] at hx806_0)
     replace p806 := eq_true p806
     replace q806 := eq_true q806
     have p807 : 0 ≤ (1 : Int) := (by omega)
     have q807 : 1 < (t802.length : Int) := zA
     obtain ⟨ad807, e807, hx807_0⟩ := Kd.at_int (Kd.R_reads' HO804.out).2.2 1 p807 q807
     obtain rfl : ad806 = ad807 := (by injection e807)
     (try simp only [show (1 : Int).toNat = 1 from rfl, Nat.reduceMul, Nat.reduceEqDiff, Go.Addr.add, ↓reduceIte] at hx807_0)
     have qi807 : (1 < t802.length) = True := eq_true (by omega)
     (try rw [show ((1 : Int)).toNat = 1 from rfl] at hx807_0)
     replace p807 := eq_true p807
     replace q807 := eq_true q807
     have p808 : 0 ≤ (2 : Int) := (by omega)
     have q808 : 2 < (t802.length : Int) := zA
     obtain ⟨ad808, e808, hx808_0⟩ := Kd.at_int (Kd.R_reads' HO804.out).2.2 2 p808 q808
     obtain rfl : ad806 = ad808 := (by injection e808)
     (try simp only [show (2 : Int).toNat = 2 from rfl, Nat.reduceMul, Nat.reduceEqDiff, Go.Addr.add, ↓reduceIte] at hx808_0)
     have qi808 : (2 < t802.length) = True := eq_true (by omega)
     (try rw [show ((2 : Int)).toNat = 2 from rfl] at hx808_0)
     replace p808 := eq_true p808
     replace q808 := eq_true q808
     have p809 : 0 ≤ (3 : Int) := (by omega)
     have q809 : 3 < (t802.length : Int) := zA
     obtain ⟨ad809, e809, hx809_0⟩ := Kd.at_int (Kd.R_reads' HO804.out).2.2 3 p809 q809
     obtain rfl : ad806 = ad809 := (by injection e809)
     (try simp only [show (3 : Int).toNat = 3 from rfl, Nat.reduceMul, Nat.reduceEqDiff, Go.Addr.add, ↓reduceIte] at hx809_0)
     have qi809 : (3 < t802.length) = True := eq_true (by omega)
     (try rw [show ((3 : Int)).toNat = 3 from rfl] at hx809_0)
     replace p809 := eq_true p809
     replace q809 := eq_true q809
     refine start_ (n := 18) (S := fun w' => w'.cell? ⟨gb805, 0, none⟩ = some (.int .i64 t800) ∧ w'.cell? ⟨gb805, 1, none⟩ = some (.string t801) ∧ w'.cell? ad806 = some (.int .i64 (rd t802 0)) ∧ w'.cell? ⟨ad806.block, ad806.off + 1, none⟩ = some (.int .i64 (rd t802 1)) ∧ w'.cell? ⟨ad806.block, ad806.off + 2, none⟩ = some (.int .i64 (rd t802 2)) ∧ w'.cell? ⟨ad806.block, ad806.off + 3, none⟩ = some (.int .i64 (rd t802 3))) (ds := []) #[false, false, false, false, false, false, false, false, false, false, false, false, false, false, false, false, false, false] (by kernel_rfl) rfl rfl ⟨(blk_cell BK805.out 0).trans rfl, (blk_cell BK805.out 1).trans rfl, hx806_0, hx807_0, hx808_0, hx809_0⟩ (fun hHeld => ?_); refine with_tabW spec_DrawIsInside.tab2 spec_DrawIsInside.bits2 (fun HT_ HW_ => ?_)
     generalize w12.drew = w13 at HO804 BK799 BK805 HB hx806_0 hx807_0 hx808_0 hx809_0 hHeld ⊢
     refine zP 1 (some 15) rfl rfl ?_
     refine zP 2 (some 16) rfl rfl ?_
     refine zP 4 (some 18) rfl rfl ?_
     refine zP 5 (some 19) rfl rfl ?_
     refine zP 7 (some 21) rfl rfl ?_
     refine zP 8 (some 22) rfl rfl ?_
     refine zP 10 (some 24) rfl rfl ?_
     refine zP 11 (some 25) rfl rfl ?_
     refine zY6 0 (some 14) rfl rfl hHeld ?_
     refine zY6 3 (some 17) rfl rfl hHeld ?_
     refine zY6 6 (some 20) rfl rfl hHeld ?_
     refine zY6 9 (some 23) rfl rfl hHeld ?_
     refine zY6 12 (some 26) rfl rfl hHeld ?_
     refine zU 13 none rfl rfl (fun K hK => ?_)
     have hs15 : w13.cell? ⟨gb799, 0, none⟩ = some (.int .i64 0) := (blk_cell BK799.out 0).trans rfl
     have hfs15 := blk_frozen BK799.out 0
     have hns15_1 := NB805_799.out
     have hms15_1 := NB799_805.out
     have hs16 : w13.cell? ⟨gb799, 1, none⟩ = some (.string (⟨#[]⟩ : ByteArray)) := (blk_cell BK799.out 1).trans rfl
     have hfs16 := blk_frozen BK799.out 1
     have hns16_1 := NB805_799.out
     have hms16_1 := NB799_805.out
     refine skip_ (w1 := ?_) (by rfl) rfl ?_ ?_
     rotate_left
     ·go_simp
      rfl
     refine hK.out _ _ ⟨((cell_far (p := ⟨gb799, _, none⟩) NB805_799.out _).trans (((cell_far (p := ⟨gb799, _, none⟩) NB805_799.out _).trans (hHeld.1)))), ((cell_far (p := ⟨gb799, _, none⟩) NB805_799.out _).trans (((cell_far (p := ⟨gb799, _, none⟩) NB805_799.out _).trans (hHeld.2.1)))), ((cell_far (p := ⟨gb799, _, none⟩) (by first | exact Kd.own_blk (Kd.R_ne HO804.out BK799.out (by decide)) | (rw [add_block]; exact Kd.own_blk (Kd.R_ne HO804.out BK799.out (by decide))) | (show (Addr.add _ _).block ≠ _; rw [add_block]; exact Kd.own_blk (Kd.R_ne HO804.out BK799.out (by decide))) | (dsimp only; exact Kd.own_blk (Kd.R_ne HO804.out BK799.out (by decide)))) _).trans (((cell_far (p := ⟨gb799, _, none⟩) (by first | exact Kd.own_blk (Kd.R_ne HO804.out BK799.out (by decide)) | (rw [add_block]; exact Kd.own_blk (Kd.R_ne HO804.out BK799.out (by decide))) | (show (Addr.add _ _).block ≠ _; rw [add_block]; exact Kd.own_blk (Kd.R_ne HO804.out BK799.out (by decide))) | (dsimp only; exact Kd.own_blk (Kd.R_ne HO804.out BK799.out (by decide)))) _).trans (hHeld.2.2.1)))), ((cell_far (p := ⟨gb799, _, none⟩) (by first | exact Kd.own_blk (Kd.R_ne HO804.out BK799.out (by decide)) | (rw [add_block]; exact Kd.own_blk (Kd.R_ne HO804.out BK799.out (by decide))) | (show (Addr.add _ _).block ≠ _; rw [add_block]; exact Kd.own_blk (Kd.R_ne HO804.out BK799.out (by decide))) | (dsimp only; exact Kd.own_blk (Kd.R_ne HO804.out BK799.out (by decide)))) _).trans (((cell_far (p := ⟨gb799, _, none⟩) (by first | exact Kd.own_blk (Kd.R_ne HO804.out BK799.out (by decide)) | (rw [add_block]; exact Kd.own_blk (Kd.R_ne HO804.out BK799.out (by decide))) | (show (Addr.add _ _).block ≠ _; rw [add_block]; exact Kd.own_blk (Kd.R_ne HO804.out BK799.out (by decide))) | (dsimp only; exact Kd.own_blk (Kd.R_ne HO804.out BK799.out (by decide)))) _).trans (hHeld.2.2.2.1)))), ((cell_far (p := ⟨gb799, _, none⟩) (by first | exact Kd.own_blk (Kd.R_ne HO804.out BK799.out (by decide)) | (rw [add_block]; exact Kd.own_blk (Kd.R_ne HO804.out BK799.out (by decide))) | (show (Addr.add _ _).block ≠ _; rw [add_block]; exact Kd.own_blk (Kd.R_ne HO804.out BK799.out (by decide))) | (dsimp only; exact Kd.own_blk (Kd.R_ne HO804.out BK799.out (by decide)))) _).trans (((cell_far (p := ⟨gb799, _, none⟩) (by first | exact Kd.own_blk (Kd.R_ne HO804.out BK799.out (by decide)) | (rw [add_block]; exact Kd.own_blk (Kd.R_ne HO804.out BK799.out (by decide))) | (show (Addr.add _ _).block ≠ _; rw [add_block]; exact Kd.own_blk (Kd.R_ne HO804.out BK799.out (by decide))) | (dsimp only; exact Kd.own_blk (Kd.R_ne HO804.out BK799.out (by decide)))) _).trans (hHeld.2.2.2.2.1)))), ((cell_far (p := ⟨gb799, _, none⟩) (by first | exact Kd.own_blk (Kd.R_ne HO804.out BK799.out (by decide)) | (rw [add_block]; exact Kd.own_blk (Kd.R_ne HO804.out BK799.out (by decide))) | (show (Addr.add _ _).block ≠ _; rw [add_block]; exact Kd.own_blk (Kd.R_ne HO804.out BK799.out (by decide))) | (dsimp only; exact Kd.own_blk (Kd.R_ne HO804.out BK799.out (by decide)))) _).trans (((cell_far (p := ⟨gb799, _, none⟩) (by first | exact Kd.own_blk (Kd.R_ne HO804.out BK799.out (by decide)) | (rw [add_block]; exact Kd.own_blk (Kd.R_ne HO804.out BK799.out (by decide))) | (show (Addr.add _ _).block ≠ _; rw [add_block]; exact Kd.own_blk (Kd.R_ne HO804.out BK799.out (by decide))) | (dsimp only; exact Kd.own_blk (Kd.R_ne HO804.out BK799.out (by decide)))) _).trans (hHeld.2.2.2.2.2))))⟩ (fun hHeld => ?_)
     clear hK K
     refine zP 14 (some 3) rfl rfl ?_
     refine zP 15 (some 4) rfl rfl ?_
     refine zP 16 (some 5) rfl rfl ?_
     refine zP 17 (some 6) rfl rfl ?_
     refine done_ (done_of HT_.out (by kernel_rfl)) ?_
     try go_wp2
     refine bodyPost_ret (results_list (rs := [.cell 2 25, .tmp 3, .tmp 4, .tmp 5, .tmp 6]) rfl (by simp) (.cell gb799 25 #[.int .i64 t800, .string t801] (0, 0) _ rfl (zk0 BK799.out) Try.underlying25 rfl (by kernel_rfl) (.tmp (.tmp (.tmp (.tmp .nil)))))) rfl ?_
     exact ⟨zE, zG2 GE799.out GE805.out⟩
    rw [if_neg c6] at H
    exact absurd H (by simp)
   rw [if_neg c5] at H
   exact absurd H (by simp)
  rw [if_neg c4] at H
  exact absurd H (by simp)
 rw [if_neg c3] at H
 exact absurd H (by simp)
/-! ### impl_InnerOf: function 35 -/
def impl_InnerOf.f (k : Nat) (a0_0 : Int) (a0_1 : ByteArray) (a1 : Int) (a2 : Int) (a3 : Int) (a4 : Int) : Option (Int) := (impl_orderOf.f k a0_0 a0_1).bind fun bt811 => (if bt811.2 = true then ((impl_areDifferent.f k a0_0 (([a1, a2, a3, a4] : List Int))).bind fun t818 => (if t818 = true then (if bt811.1.length = 344 then ((impl_chi_inner.f k bt811.1 a1 a2 a3 a4).bind fun t819 => (some t819)) else (none)) else (some (-1)))) else (some (-1)))
set_option maxHeartbeats 8000000 in
set_option maxRecDepth 100000 in
theorem impl_InnerOf.calls (k : Nat) (a0_0 : Int) (a0_1 : ByteArray) (a1 : Int) (a2 : Int) (a3 : Int) (a4 : Int) (r : Int) (w : World) (h : impl_InnerOf.f k a0_0 a0_1 a1 a2 a3 a4 = some r) :
  Calls Try.prog 35 #[.agg #[.int .i64 a0_0, .string a0_1], .int .i64 a1, .int .i64 a2, .int .i64 a3, .int .i64 a4] w fun e w' => e = .returned (.int .i64 r) ∧ Below w.heap.size w w' := by
 have hu25 := Try.underlying25
 have HB := Aside0.mk (Below.refl w.heap.size w)
 have H : ((impl_orderOf.f k a0_0 a0_1).bind fun bt811 => (if bt811.2 = true then ((impl_areDifferent.f k a0_0 (([a1, a2, a3, a4] : List Int))).bind fun t818 => (if t818 = true then (if bt811.1.length = 344 then ((impl_chi_inner.f k bt811.1 a1 a2 a3 a4).bind fun t819 => (some t819)) else (none)) else (some (-1)))) else (some (-1)))) = some r := h
 clear h
 obtain ⟨⟨t811, t814⟩, A6, H⟩ := zO H
 dsimp only at H
 by_cases c7 : t814 = true
 ·subst c7
  replace H := (if_pos rfl).symm.trans H
  obtain ⟨y815, hy815⟩ : ∃ y_ : List Int, y_ = (([a1, a2, a3, a4] : List Int)) := ⟨_, rfl⟩
  replace H : ((impl_areDifferent.f k a0_0 y815).bind fun t818 => (if t818 = true then (if t811.length = 344 then ((impl_chi_inner.f k t811 a1 a2 a3 a4).bind fun t819 => (some t819)) else (none)) else (some (-1)))) = some r := by first | (rw [hy815]; with_reducible exact H) | (have H2_ := (Option.bind_some _ _).symm.trans H; rw [hy815]; with_reducible exact H2_) | (have H2_ := (Option.bind_some _ _).symm.trans H; with_reducible exact H2_) | with_reducible exact H | (rw [hy815]; exact H) | exact H
  have Ny815 := Aside0.mk hy815
  clear hy815
  obtain ⟨t818, A8, H⟩ := zO H
  by_cases c9 : t818 = true
  ·subst c9
   replace H := (if_pos rfl).symm.trans H
   by_cases c10 : t811.length = 344
   ·rw [if_pos c10] at H
    have c10b0 := eq_true c10
    have c10b1 : decide (t811.length = 344) = true := decide_eq_true c10
    clear c10
    obtain ⟨t819, A11, H⟩ := zO H
    obtain rfl := Option.some.inj H
    go_enter Try.func35, Try.ntmps35
    go_wp2_with (first | ((with_reducible refine gate_dst (N := 5) rfl ?_); (try (refine gate_guard (by rfl) ?_; dsimp only)); refine zBx (N := 5) #[.int .i64 a0_0, .string a0_1] 25 ?_; intro gb810 hg w12 hbox hb; have BK810 := Aside0.mk (hbox); have GW810 := zS hg; have GE810 := zS hg; replace HB := zX hb; clear hb hbox hg; obtain ⟨hcz13_0, hcz13_1, hfz13_0, hfz13_1⟩ := zq2 BK810.out) | ((with_reducible refine gate_callee (f := 105) rfl ?_); refine zD (some 15) Try.func105 #[.agg #[.int .i64 a0_0, .string a0_1]] ?_; (with_reducible refine (impl_orderOf.calls k a0_0 a0_1 t811 true _ A6.out).mono ?_); rintro e w14 ⟨v812, rfl, ho0, hb⟩; refine ⟨_, rfl, ?_⟩; have HO813 := Aside0.mk (Kd.R_lower ho0 (below_size (zG GE810.out))); replace BK810 := zV BK810.out hb; replace HB := zX1 GE810.out hb; (try clear hb); (try clear ho0); obtain ⟨hcz15_0, hcz15_1, hfz15_0, hfz15_1⟩ := zq2 BK810.out) | ((with_reducible refine gate_dst (N := 27) rfl ?_); (try (refine gate_guard (by rfl) ?_; dsimp only)); refine Kd.R_lit (Kd.int .i64) _ 3 ?hg (N := 27) ?hd (xs := ([a1, a2, a3, a4] : List Int)) (inner := [.int .i64 a1, .int .i64 a2, .int .i64 a3, .int .i64 a4]) (ok := fun _ => True) (okp := fun _ => True) ?hr ?hp (fun _ hk => hk) trivial (Below.refl _ _) (Nat.le_refl _) (by simp) ?_; (case hd => rfl); (case hg => rfl); (case hr => first | (go_simp; done) | (go_simp; rfl)); (case hp => exact (Reps.one (show Kd.M (Kd.int .i64) _ _ _ a1 [.int .i64 a1] from rfl) (Reps.one (show Kd.M (Kd.int .i64) _ _ _ a2 [.int .i64 a2] from rfl) (Reps.one (show Kd.M (Kd.int .i64) _ _ _ a3 [.int .i64 a3] from rfl) (Reps.one (show Kd.M (Kd.int .i64) _ _ _ a4 [.int .i64 a4] from rfl) (Reps.none _ _)))))); intro v816 w16 ho17 hb hg_ hnew_; clear hg_ hnew_; (first | rw [← Ny815.out] at ho17 | (simp only [Int.reduceToNat] at ho17; rw [← Ny815.out] at ho17)); replace HO813 := zW HO813.out hb; have HO817 := Aside0.mk (Kd.R_lower ho17 (below_size (zG GE810.out))); replace BK810 := zV BK810.out hb; replace HB := zX1 GE810.out hb; clear hb ho17; obtain ⟨Ao18, co18, eo18⟩ := Kd.R_slice HO817.out; subst eo18) | (go_at_call 95; (with_reducible refine (impl_areDifferent.calls k a0_0 _ _ y815 true _ ?side1 ?side2 A8.out).mono ?_); (case side1 => repeat (first | exact (Kd.R_reads' HO817.out).2.2 | (with_reducible refine Kd.C_alloc ?_ _) | (with_reducible refine Kd.C_drewN ?_ _) | (with_reducible refine Kd.C_drew ?_))); (case side2 => exact (Kd.R_reads' HO817.out).2.1); rintro e w' ⟨rfl, ⟨nd, rfl⟩⟩; obtain ⟨go19, co19, eo19, gb19, gl19, cl19, HG19⟩ := Kd.R_form HO813.out (by have hl_ := Nat.le_of_eq (Eq.symm (zA : t811.length = 344)); omega); (first | cases eo19 | (injection eo19 with ea_ en_ ec_; (first | subst ea_ | (injection ea_ with ea_; subst ea_)); subst ec_; clear en_)); have GB19 := Aside0.mk gb19; have GG19 := Aside0.mk HG19; clear gb19 gl19 HG19) | ((with_reducible refine gate_callee (f := 111) rfl ?_); refine zD (some 36) Try.func111 #[.pointer (some ⟨go19, 0, none⟩), .int .i64 a1, .int .i64 a2, .int .i64 a3, .int .i64 a4] ?_; (with_reducible refine (impl_chi_inner.calls k _ t811 a1 a2 a3 a4 t819 _ ?side1 ?side2 A11.out).mono ?_); (case side1 => repeat (first | exact (Kd.R_reads' HO813.out).2.2 | (with_reducible refine Kd.C_alloc ?_ _) | (with_reducible refine Kd.C_drewN ?_ _) | (with_reducible refine Kd.C_drew ?_))); (case side2 => exact (zA : t811.length = 344)); rintro e w20 ⟨rfl, hb⟩; refine ⟨_, rfl, ?_⟩; replace HO813 := zW HO813.out hb; replace HO817 := zW HO817.out hb; replace BK810 := zV BK810.out hb; replace HB := zX1 GE810.out hb; (try clear hb)))
    go_ret
    exact ⟨zE, zG GE810.out⟩
   rw [if_neg c10] at H
   exact absurd H (by simp)
  replace c9 := Bool.eq_false_iff.mpr c9
  subst c9
  replace H := (if_neg zFf).symm.trans H
  obtain rfl := Option.some.inj H
  go_enter Try.func35, Try.ntmps35
  go_wp2_with (first | ((with_reducible refine gate_dst (N := 5) rfl ?_); (try (refine gate_guard (by rfl) ?_; dsimp only)); refine zBx (N := 5) #[.int .i64 a0_0, .string a0_1] 25 ?_; intro gb810 hg w21 hbox hb; have BK810 := Aside0.mk (hbox); have GW810 := zS hg; have GE810 := zS hg; replace HB := zX hb; clear hb hbox hg; obtain ⟨hcz22_0, hcz22_1, hfz22_0, hfz22_1⟩ := zq2 BK810.out) | ((with_reducible refine gate_callee (f := 105) rfl ?_); refine zD (some 15) Try.func105 #[.agg #[.int .i64 a0_0, .string a0_1]] ?_; (with_reducible refine (impl_orderOf.calls k a0_0 a0_1 t811 true _ A6.out).mono ?_); rintro e w23 ⟨v812, rfl, ho0, hb⟩; refine ⟨_, rfl, ?_⟩; have HO813 := Aside0.mk (Kd.R_lower ho0 (below_size (zG GE810.out))); replace BK810 := zV BK810.out hb; replace HB := zX1 GE810.out hb; (try clear hb); (try clear ho0); obtain ⟨hcz24_0, hcz24_1, hfz24_0, hfz24_1⟩ := zq2 BK810.out) | ((with_reducible refine gate_dst (N := 27) rfl ?_); (try (refine gate_guard (by rfl) ?_; dsimp only)); refine Kd.R_lit (Kd.int .i64) _ 3 ?hg (N := 27) ?hd (xs := ([a1, a2, a3, a4] : List Int)) (inner := [.int .i64 a1, .int .i64 a2, .int .i64 a3, .int .i64 a4]) (ok := fun _ => True) (okp := fun _ => True) ?hr ?hp (fun _ hk => hk) trivial (Below.refl _ _) (Nat.le_refl _) (by simp) ?_; (case hd => rfl); (case hg => rfl); (case hr => first | (go_simp; done) | (go_simp; rfl)); (case hp => exact (Reps.one (show Kd.M (Kd.int .i64) _ _ _ a1 [.int .i64 a1] from rfl) (Reps.one (show Kd.M (Kd.int .i64) _ _ _ a2 [.int .i64 a2] from rfl) (Reps.one (show Kd.M (Kd.int .i64) _ _ _ a3 [.int .i64 a3] from rfl) (Reps.one (show Kd.M (Kd.int .i64) _ _ _ a4 [.int .i64 a4] from rfl) (Reps.none _ _)))))); intro v816 w25 ho26 hb hg_ hnew_; clear hg_ hnew_; (first | rw [← Ny815.out] at ho26 | (simp only [Int.reduceToNat] at ho26; rw [← Ny815.out] at ho26)); replace HO813 := zW HO813.out hb; have HO817 := Aside0.mk (Kd.R_lower ho26 (below_size (zG GE810.out))); replace BK810 := zV BK810.out hb; replace HB := zX1 GE810.out hb; clear hb ho26; obtain ⟨Ao27, co27, eo27⟩ := Kd.R_slice HO817.out; subst eo27) | (go_at_call 95; (with_reducible refine (impl_areDifferent.calls k a0_0 _ _ y815 false _ ?side1 ?side2 A8.out).mono ?_); (case side1 => repeat (first | exact (Kd.R_reads' HO817.out).2.2 | (with_reducible refine Kd.C_alloc ?_ _) | (with_reducible refine Kd.C_drewN ?_ _) | (with_reducible refine Kd.C_drew ?_))); (case side2 => exact (Kd.R_reads' HO817.out).2.1); rintro e w' ⟨rfl, ⟨nd, rfl⟩⟩))
  go_ret
  exact ⟨zE, zG GE810.out⟩
 replace c7 := Bool.eq_false_iff.mpr c7
 subst c7
 replace H := (if_neg zFf).symm.trans H
 obtain rfl := Option.some.inj H
 go_enter Try.func35, Try.ntmps35
 go_wp2_with (first | ((with_reducible refine gate_dst (N := 5) rfl ?_); (try (refine gate_guard (by rfl) ?_; dsimp only)); refine zBx (N := 5) #[.int .i64 a0_0, .string a0_1] 25 ?_; intro gb810 hg w28 hbox hb; have BK810 := Aside0.mk (hbox); have GW810 := zS hg; have GE810 := zS hg; replace HB := zX hb; clear hb hbox hg; obtain ⟨hcz29_0, hcz29_1, hfz29_0, hfz29_1⟩ := zq2 BK810.out) | ((with_reducible refine gate_callee (f := 105) rfl ?_); refine zD (some 15) Try.func105 #[.agg #[.int .i64 a0_0, .string a0_1]] ?_; (with_reducible refine (impl_orderOf.calls k a0_0 a0_1 t811 false _ A6.out).mono ?_); rintro e w30 ⟨v812, rfl, ho0, hb⟩; refine ⟨_, rfl, ?_⟩; have HO813 := Aside0.mk (Kd.R_lower ho0 (below_size (zG GE810.out))); replace BK810 := zV BK810.out hb; replace HB := zX1 GE810.out hb; (try clear hb); (try clear ho0)))
 go_ret
 exact ⟨zE, zG GE810.out⟩
/-! ### spec_l5Only: function 113 -/
def spec_l5Only.l0 : Nat → Int → Int → Option (Int)
 | 0, _, _ => none
 | k + 1, x0, x3 => if x3 < 7 then (if 0 ≤ (IntKind.u64.wrap (x3)) then (if x0 = (shl .i64 1 (IntKind.u64.wrap (x3))) then (some x3) else (spec_l5Only.l0 k x0 (wrap64 (x3 + 1)))) else (none)) else (some (-1))
def spec_l5Only.f (k : Nat) (a0 : Int) : Option (Int) := spec_l5Only.l0 k a0 0
theorem spec_l5Only.mono_l : ∀ k, (∀ y0 y1, LeO (spec_l5Only.l0 k y0 y1) (spec_l5Only.l0 (k + 1) y0 y1))
 | 0 => fun _ _ r h => by simp [spec_l5Only.l0] at h
 | k + 1 => by
  have ih0 := spec_l5Only.mono_l k
  ·intro y0 y1
   unfold spec_l5Only.l0
   repeat' first
   | (with_reducible first | exact ih0 .. | exact LeO.refl _ | exact LeO.none _ | refine LeO.ite ?_ ?_ | refine LeO.bind ?_ (fun _ => ?_))
   | exact ih0 .. | exact LeO.none _ | refine LeO.ite ?_ ?_ | refine LeO.bind ?_ (fun _ => ?_)
theorem spec_l5Only.mono : ∀ a0 k, LeO (spec_l5Only.f k a0) (spec_l5Only.f (k + 1) a0) := by
 intro a0 k
 have ih0 := spec_l5Only.mono_l k
 unfold spec_l5Only.f
 repeat' first
   | (with_reducible first | exact ih0 .. | exact LeO.refl _ | exact LeO.none _ | refine LeO.ite ?_ ?_ | refine LeO.bind ?_ (fun _ => ?_))
   | exact ih0 .. | exact LeO.none _ | refine LeO.ite ?_ ?_ | refine LeO.bind ?_ (fun _ => ?_)
set_option maxHeartbeats 8000000 in
set_option maxRecDepth 100000 in
theorem spec_l5Only.calls (k : Nat) (a0 : Int) (r : Int) (w : World) (h : spec_l5Only.f k a0 = some r) :
  Calls Try.prog 113 #[.int .i64 a0] w fun e w' => e = .returned (.int .i64 r) ∧ Drawn0 w w' := by
 have H : (spec_l5Only.l0 k a0 0) = some r := h
 clear h
 have H' := Aside0.mk H; clear H
 go_enter Try.func113, Try.ntmps113
 go_wp2
 go_loopg [3] k (fun kq v3 w' => ∃ (x3_1 : Int), v3 = .int .i64 x3_1 ∧ Aside0 (spec_l5Only.l0 kq a0 x3_1 = some r) ∧ Aside0 (kq ≤ k) ∧ Drawn0 w w')
 case atStart => exact ⟨(0), zF, H', ⟨Nat.le_refl _⟩, by repeat (first | exact Drawn0.refl _ | apply Drawn0.step)⟩
 case round =>
 clear H'
 obtain ⟨x3_1, rfl, HA, HK1, ⟨m1, rfl⟩⟩ := hrel
 cases gk with
 | zero => exact absurd HA.out (by simp [spec_l5Only.l0])
 | succ k1 =>
 have H := HA.out
 clear HA
 simp only [spec_l5Only.l0] at H
 by_cases c2 : x3_1 < 7
 ·rw [if_pos c2] at H
  have c2b0 : decide (x3_1 < 7) = true := decide_eq_true c2
  clear c2
  obtain ⟨ji3, hji3⟩ : ∃ j_ : Int, (IntKind.u64.wrap (x3_1)) = j_ := ⟨_, rfl⟩
  replace H : (if 0 ≤ (ji3) then (if a0 = (shl .i64 1 (ji3)) then (some x3_1) else (spec_l5Only.l0 k1 a0 (wrap64 (x3_1 + 1)))) else (none)) = some r := by first | (rw [hji3] at H; exact H) | (simp only [hji3] at H ⊢; exact H)
  by_cases c4 : 0 ≤ (ji3)
  ·rw [if_pos c4] at H
   have c4b0 := eq_true c4
   have c4b1 : decide (0 ≤ (ji3)) = true := decide_eq_true c4
   clear c4
   obtain ⟨ji5, hji5⟩ : ∃ j_ : Int, (shl .i64 1 (ji3)) = j_ := ⟨_, rfl⟩
   replace H : (if a0 = (ji5) then (some x3_1) else (spec_l5Only.l0 k1 a0 (wrap64 (x3_1 + 1)))) = some r := by first | (rw [hji5] at H; exact H) | (simp only [hji5] at H ⊢; exact H)
   have hji5_ : (IntKind.i64.wrap (1 * 2 ^ min (ji3).toNat 64)) = ji5 := hji5
   have hji5z : (ji3) ≤ 64 → (IntKind.i64.wrap (1 * 2 ^ (ji3).toNat)) = ji5 := shl_small hji5
   have hji5u : (IntKind.i64.wrap (2 ^ min (ji3).toNat 64)) = ji5 := by have h_ := hji5_; rw [Int.one_mul] at h_; exact h_
   have hji5v : (ji3) ≤ 64 → (IntKind.i64.wrap (2 ^ (ji3).toNat)) = ji5 := fun hle_ => by have h_ := hji5z hle_; rw [Int.one_mul] at h_; exact h_
   have hji5y : (wrap64 (1 * 2 ^ min (ji3).toNat 64)) = ji5 := (i64_w _).symm.trans hji5_
   have hji5x : (ji3) ≤ 64 → (wrap64 (1 * 2 ^ (ji3).toNat)) = ji5 := fun h_ => (i64_w _).symm.trans (hji5z h_)
   by_cases c6 : a0 = (ji5)
   ·rw [if_pos c6] at H
    have c6b0 : (a0 == (ji5)) = true := beq_iff_eq.mpr c6
    have c6b1 : (a0 != (ji5)) = false := bne_eq_false_iff_eq.mpr c6
    clear c6
    obtain rfl := Option.some.inj H
    go_wp2
    go_ret
    exact ⟨by first | rfl | (simp; done) | (simp only [← hji3, ← hji5] <;> (first | rfl | simp)) | (simp [*]; done), by repeat (first | exact Drawn0.refl _ | apply Drawn0.step)⟩
   rw [if_neg c6] at H
   have c6b0 : (a0 == (ji5)) = false := beq_eq_false_iff_ne.mpr c6
   have c6b1 : (a0 != (ji5)) = true := bne_iff_ne.mpr c6
   have H' := Aside0.mk H; clear H
   go_wp2
   go_roundg k1
   case measure => have := HK1.out; omega
   case rel => exact ⟨(wrap64 (x3_1 + 1)), zF, H', ⟨by have := HK1.out; omega⟩, by repeat (first | exact Drawn0.refl _ | apply Drawn0.step)⟩
  rw [if_neg c4] at H
  exact absurd H (by simp)
 rw [if_neg c2] at H
 have c2b0 : decide (x3_1 < 7) = false := decide_eq_false c2
 clear c2
 obtain rfl := Option.some.inj H
 go_wp2
 go_ret
 exact ⟨by first | rfl | (simp; done) | (simp [*]; done), by repeat (first | exact Drawn0.refl _ | apply Drawn0.step)⟩
/-! ### spec_InnerOf: function 36 -/
def spec_InnerOf.f (k : Nat) (a0_0 : Int) (a0_1 : ByteArray) (a1 : Int) (a2 : Int) (a3 : Int) (a4 : Int) : Option (Int) := (spec_SplitOf.f k a0_0 a0_1 a1 a2 a3 a4).bind fun bt821 => ((spec_l5Only.f k bt821.1).bind fun t823 => ((spec_l5Only.f k bt821.2).bind fun t824 => ((spec_l1Max.f t823 t824).bind fun t825 => (some t825))))
set_option maxHeartbeats 8000000 in
set_option maxRecDepth 100000 in
theorem spec_InnerOf.calls (k : Nat) (a0_0 : Int) (a0_1 : ByteArray) (a1 : Int) (a2 : Int) (a3 : Int) (a4 : Int) (r : Int) (w : World) (h : spec_InnerOf.f k a0_0 a0_1 a1 a2 a3 a4 = some r) :
  Calls Try.prog 36 #[.agg #[.int .i64 a0_0, .string a0_1], .int .i64 a1, .int .i64 a2, .int .i64 a3, .int .i64 a4] w fun e w' => e = .returned (.int .i64 r) ∧ Below w.heap.size w w' := by
 have hu25 := Try.underlying25
 have HB := Aside0.mk (Below.refl w.heap.size w)
 have H : ((spec_SplitOf.f k a0_0 a0_1 a1 a2 a3 a4).bind fun bt821 => ((spec_l5Only.f k bt821.1).bind fun t823 => ((spec_l5Only.f k bt821.2).bind fun t824 => ((spec_l1Max.f t823 t824).bind fun t825 => (some t825))))) = some r := h
 clear h
 obtain ⟨⟨t821, t822⟩, A6, H⟩ := zO H
 dsimp only at H
 obtain ⟨t823, A7, H⟩ := zO H
 obtain ⟨t824, A8, H⟩ := zO H
 obtain ⟨t825, A9, H⟩ := zO H
 obtain rfl := Option.some.inj H
 go_enter Try.func36, Try.ntmps36
 go_wp2_with (first | ((with_reducible refine gate_dst (N := 5) rfl ?_); refine zBx (N := 5) #[.int .i64 a0_0, .string a0_1] 25 ?_; intro gb820 hg w10 hbox hb; have BK820 := Aside0.mk (hbox); have GW820 := zS hg; have GE820 := zS hg; replace HB := zX hb; clear hb hbox hg; obtain ⟨hcz11_0, hcz11_1, hfz11_0, hfz11_1⟩ := zq2 BK820.out) | ((with_reducible refine gate_callee (f := 31) rfl ?_); refine zD (some 19) Try.func31 #[.agg #[.int .i64 a0_0, .string a0_1], .int .i64 a1, .int .i64 a2, .int .i64 a3, .int .i64 a4] ?_; (with_reducible refine (spec_SplitOf.calls k a0_0 a0_1 a1 a2 a3 a4 t821 t822 _ A6.out).mono ?_); rintro e w12 ⟨rfl, hb⟩; refine ⟨_, rfl, ?_⟩; replace BK820 := zV BK820.out hb; replace HB := zX1 GE820.out hb; (try clear hb)) | ((with_reducible refine gate_callee (f := 113) rfl ?_); refine zD (some 23) Try.func113 #[.int .i64 t821] ?_; (with_reducible refine (spec_l5Only.calls k t821 t823 _ A7.out).mono ?_); rintro e w' ⟨rfl, ⟨nd, rfl⟩⟩; refine ⟨_, rfl, ?_⟩) | ((with_reducible refine gate_callee (f := 113) rfl ?_); refine zD (some 25) Try.func113 #[.int .i64 t822] ?_; (with_reducible refine (spec_l5Only.calls k t822 t824 _ A8.out).mono ?_); rintro e w' ⟨rfl, ⟨nd, rfl⟩⟩; refine ⟨_, rfl, ?_⟩) | ((with_reducible refine gate_callee (f := 112) rfl ?_); refine zD (some 26) Try.func112 #[.int .i64 t823, .int .i64 t824] ?_; (with_reducible refine (spec_l1Max.calls t823 t824 t825 _ A9.out).mono ?_); rintro e w' ⟨rfl, ⟨nd, rfl⟩⟩; refine ⟨_, rfl, ?_⟩))
 go_ret
 exact ⟨zE, zG GE820.out⟩
/-! ### laws_sameInts: function 16 -/
def laws_sameInts.l0 : Nat → List Int → List Int → Int → Option (Bool)
 | 0, _, _, _ => none
 | k + 1, x0, x1, x5 => if x5 < (x0.length : Int) then (if 0 ≤ x5 then (if x5 < (x1.length : Int) then (if (rd x0 x5) = (rd x1 x5) then (laws_sameInts.l0 k x0 x1 (wrap64 (x5 + 1))) else (some false)) else (none)) else (none)) else (some true)
def laws_sameInts.f (k : Nat) (l0 : List Int) (l1 : List Int) : Option (Bool) := if (l0.length : Int) = (l1.length : Int) then (laws_sameInts.l0 k l0 l1 0) else (some false)
set_option maxHeartbeats 8000000 in
set_option maxRecDepth 100000 in
theorem laws_sameInts.calls (k : Nat) (A0 : Option Addr) (c0 : Nat) (l0 : List Int) (A1 : Option Addr) (c1 : Nat) (l1 : List Int) (r : Bool) (w : World) (hr0 : Kd.C (Kd.int .i64) w A0 l0.length l0) (hc0 : l0.length ≤ c0) (hr1 : Kd.C (Kd.int .i64) w A1 l1.length l1) (hc1 : l1.length ≤ c1) (h : laws_sameInts.f k l0 l1 = some r) :
  Calls Try.prog 16 #[.slice A0 l0.length c0, .slice A1 l1.length c1] w fun e w' => e = .returned (.bool r) ∧ Drawn0 w w' := by
 have HR0 := Aside0.mk hr0
 have HC0 := Aside0.mk hc0
 clear hr0 hc0
 have HR1 := Aside0.mk hr1
 have HC1 := Aside0.mk hc1
 clear hr1 hc1
 have H : (if (l0.length : Int) = (l1.length : Int) then (laws_sameInts.l0 k l0 l1 0) else (some false)) = some r := h
 clear h
 by_cases c3 : (l0.length : Int) = (l1.length : Int)
 ·rw [if_pos c3] at H
  have c3b0 : ((l0.length : Int) == (l1.length : Int)) = true := beq_iff_eq.mpr c3
  have c3b1 : ((l0.length : Int) != (l1.length : Int)) = false := bne_eq_false_iff_eq.mpr c3
  have c3b2 : (l0.length == l1.length) = true := by first | simpa using c3 | (simp at c3 ⊢; omega)
  clear c3
  have H' := Aside0.mk H; clear H
  go_enter Try.func16, Try.ntmps16
  go_wp2
  repeat (go_quiet (fail); try go_wp2)
  go_loopg [5] k (fun kq v5 w' => ∃ (x5_1 : Int), v5 = .int .i64 x5_1 ∧ Aside0 (laws_sameInts.l0 kq l0 l1 x5_1 = some r) ∧ Aside0 (kq ≤ k) ∧ Drawn0 w w')
  case atStart => exact ⟨(0), zF, H', ⟨Nat.le_refl _⟩, by repeat (first | exact Drawn0.refl _ | apply Drawn0.step)⟩
  case round =>
  clear H'
  try clear c3
  try clear c3b0
  try clear c3b1
  try clear c3b2
  obtain ⟨x5_1, rfl, HA, HK1, ⟨m1, rfl⟩⟩ := hrel
  cases gk with
  | zero => exact absurd HA.out (by simp [laws_sameInts.l0])
  | succ k1 =>
  have H := HA.out
  clear HA
  simp only [laws_sameInts.l0] at H
  by_cases c4 : x5_1 < (l0.length : Int)
  ·rw [if_pos c4] at H
   have c4b0 : decide (x5_1 < (l0.length : Int)) = true := decide_eq_true c4
   clear c4
   by_cases c5 : 0 ≤ x5_1
   ·rw [if_pos c5] at H
    have c5b0 : decide (0 ≤ x5_1) = true := decide_eq_true c5
    clear c5
    by_cases c6 : x5_1 < (l1.length : Int)
    ·rw [if_pos c6] at H
     have c6b0 : decide (x5_1 < (l1.length : Int)) = true := decide_eq_true c6
     clear c6
     by_cases c7 : (rd l0 x5_1) = (rd l1 x5_1)
     ·rw [if_pos c7] at H
      have c7b0 : ((rd l0 x5_1) == (rd l1 x5_1)) = true := beq_iff_eq.mpr c7
      have c7b1 : ((rd l0 x5_1) != (rd l1 x5_1)) = false := bne_eq_false_iff_eq.mpr c7
      clear c7
      have H' := Aside0.mk H; clear H
      have p475 : 0 ≤ (x5_1 : Int) := zA
      have q475 : x5_1 < (l0.length : Int) := zA
      obtain ⟨ad475, e475, hx475_0⟩ := Kd.at_int HR0.out x5_1 p475 q475
      cases e475
      replace p475 := eq_true p475
      replace q475 := eq_true q475
      have p476 : 0 ≤ (x5_1 : Int) := zA
      have q476 : x5_1 < (l1.length : Int) := zA
      obtain ⟨ad476, e476, hx476_0⟩ := Kd.at_int HR1.out x5_1 p476 q476
      cases e476
      replace p476 := eq_true p476
      replace q476 := eq_true q476
      go_wp2
      repeat (go_quiet (fail); try go_wp2)
      go_roundg k1
      case measure => have := HK1.out; omega
      case rel => exact ⟨(wrap64 (x5_1 + 1)), zF, H', ⟨by have := HK1.out; omega⟩, by repeat (first | exact Drawn0.refl _ | apply Drawn0.step)⟩
     rw [if_neg c7] at H
     have c7b0 : ((rd l0 x5_1) == (rd l1 x5_1)) = false := beq_eq_false_iff_ne.mpr c7
     have c7b1 : ((rd l0 x5_1) != (rd l1 x5_1)) = true := bne_iff_ne.mpr c7
     obtain rfl := Option.some.inj H
     have p475 : 0 ≤ (x5_1 : Int) := zA
     have q475 : x5_1 < (l0.length : Int) := zA
     obtain ⟨ad475, e475, hx475_0⟩ := Kd.at_int HR0.out x5_1 p475 q475
     cases e475
     replace p475 := eq_true p475
     replace q475 := eq_true q475
     have p476 : 0 ≤ (x5_1 : Int) := zA
     have q476 : x5_1 < (l1.length : Int) := zA
     obtain ⟨ad476, e476, hx476_0⟩ := Kd.at_int HR1.out x5_1 p476 q476
     cases e476
     replace p476 := eq_true p476
     replace q476 := eq_true q476
     go_wp2
     repeat (go_quiet (fail); try go_wp2)
     go_ret
     exact ⟨by first | rfl | (simp; done) | (simp [*]; done), by repeat (first | exact Drawn0.refl _ | apply Drawn0.step)⟩
    rw [if_neg c6] at H
    exact absurd H (by simp)
   rw [if_neg c5] at H
   exact absurd H (by simp)
  rw [if_neg c4] at H
  have c4b0 : decide (x5_1 < (l0.length : Int)) = false := decide_eq_false c4
  clear c4
  obtain rfl := Option.some.inj H
  go_wp2
  repeat (go_quiet (fail); try go_wp2)
  go_ret
  exact ⟨by first | rfl | (simp; done) | (simp [*]; done), by repeat (first | exact Drawn0.refl _ | apply Drawn0.step)⟩
 rw [if_neg c3] at H
 have c3b0 : ((l0.length : Int) == (l1.length : Int)) = false := beq_eq_false_iff_ne.mpr c3
 have c3b1 : ((l0.length : Int) != (l1.length : Int)) = true := bne_iff_ne.mpr c3
 have c3b2 : (l0.length == l1.length) = false := by first | simpa using c3 | (simp at c3 ⊢; omega)
 obtain rfl := Option.some.inj H
 go_enter Try.func16, Try.ntmps16
 go_wp2
 repeat (go_quiet (fail); try go_wp2)
 go_ret
 exact ⟨by first | rfl | (simp; done) | (simp [*]; done), by repeat (first | exact Drawn0.refl _ | apply Drawn0.step)⟩
/-! ### laws_sameLists: function 37 -/
def laws_sameLists.l0 : Nat → List (List Int) → List (List Int) → Int → Option (Bool)
 | 0, _, _, _ => none
 | k + 1, x0, x1, x5 => if x5 < (x0.length : Int) then (if 0 ≤ x5 then (if x5 < (x1.length : Int) then ((laws_sameInts.f k (rd_L6 x0 x5) (rd_L6 x1 x5)).bind fun t828 => (if t828 = true then (laws_sameLists.l0 k x0 x1 (wrap64 (x5 + 1))) else (some false))) else (none)) else (none)) else (some true)
def laws_sameLists.f (k : Nat) (l0 : List (List Int)) (l1 : List (List Int)) : Option (Bool) := if (l0.length : Int) = (l1.length : Int) then (laws_sameLists.l0 k l0 l1 0) else (some false)
set_option maxHeartbeats 8000000 in
set_option maxRecDepth 100000 in
theorem laws_sameLists.calls (k : Nat) (A0 : Option Addr) (c0 : Nat) (l0 : List (List Int)) (A1 : Option Addr) (c1 : Nat) (l1 : List (List Int)) (r : Bool) (w : World) (hr0 : Kd.C (Kd.slice 3 (Kd.int .i64)) w A0 l0.length l0) (hc0 : l0.length ≤ c0) (hr1 : Kd.C (Kd.slice 3 (Kd.int .i64)) w A1 l1.length l1) (hc1 : l1.length ≤ c1) (h : laws_sameLists.f k l0 l1 = some r) :
  Calls Try.prog 37 #[.slice A0 l0.length c0, .slice A1 l1.length c1] w fun e w' => e = .returned (.bool r) ∧ Drawn0 w w' := by
 have HR0 := Aside0.mk hr0
 have HC0 := Aside0.mk hc0
 clear hr0 hc0
 have HR1 := Aside0.mk hr1
 have HC1 := Aside0.mk hc1
 clear hr1 hc1
 have H : (if (l0.length : Int) = (l1.length : Int) then (laws_sameLists.l0 k l0 l1 0) else (some false)) = some r := h
 clear h
 by_cases c3 : (l0.length : Int) = (l1.length : Int)
 ·rw [if_pos c3] at H
  have c3b0 : ((l0.length : Int) == (l1.length : Int)) = true := beq_iff_eq.mpr c3
  have c3b1 : ((l0.length : Int) != (l1.length : Int)) = false := bne_eq_false_iff_eq.mpr c3
  have c3b2 : (l0.length == l1.length) = true := by first | simpa using c3 | (simp at c3 ⊢; omega)
  clear c3
  have H' := Aside0.mk H; clear H
  go_enter Try.func37, Try.ntmps37
  go_wp2
  repeat (go_quiet (fail); try go_wp2)
  go_loopg [5] k (fun kq v5 w' => ∃ (x5_1 : Int), v5 = .int .i64 x5_1 ∧ Aside0 (laws_sameLists.l0 kq l0 l1 x5_1 = some r) ∧ Aside0 (kq ≤ k) ∧ Drawn0 w w')
  case atStart => exact ⟨(0), zF, H', ⟨Nat.le_refl _⟩, by repeat (first | exact Drawn0.refl _ | apply Drawn0.step)⟩
  case round =>
  clear H'
  try clear c3
  try clear c3b0
  try clear c3b1
  try clear c3b2
  obtain ⟨x5_1, rfl, HA, HK1, ⟨m1, rfl⟩⟩ := hrel
  cases gk with
  | zero => exact absurd HA.out (by simp [laws_sameLists.l0])
  | succ k1 =>
  have H := HA.out
  clear HA
  simp only [laws_sameLists.l0] at H
  by_cases c4 : x5_1 < (l0.length : Int)
  ·rw [if_pos c4] at H
   have c4b0 : decide (x5_1 < (l0.length : Int)) = true := decide_eq_true c4
   clear c4
   by_cases c5 : 0 ≤ x5_1
   ·rw [if_pos c5] at H
    have c5b0 : decide (0 ≤ x5_1) = true := decide_eq_true c5
    clear c5
    by_cases c6 : x5_1 < (l1.length : Int)
    ·rw [if_pos c6] at H
     have c6b0 : decide (x5_1 < (l1.length : Int)) = true := decide_eq_true c6
     clear c6
     obtain ⟨t828, A7, H⟩ := zO H
     by_cases c8 : t828 = true
     ·subst c8
      replace H := (if_pos rfl).symm.trans H
      have H' := Aside0.mk H; clear H
      have p826 : 0 ≤ (x5_1 : Int) := zA
      have q826 : x5_1 < (l0.length : Int) := zA
      obtain ⟨ad826, A826_0, c826_0, e826, hx826_0, hl826_0, hi826_0⟩ := at_L6 HR0.out x5_1 p826 q826
      cases e826
      have HR826_0 := Aside0.mk hi826_0
      have HC826_0 := Aside0.mk hl826_0
      clear hi826_0 hl826_0
      replace p826 := eq_true p826
      replace q826 := eq_true q826
      have p827 : 0 ≤ (x5_1 : Int) := zA
      have q827 : x5_1 < (l1.length : Int) := zA
      obtain ⟨ad827, A827_0, c827_0, e827, hx827_0, hl827_0, hi827_0⟩ := at_L6 HR1.out x5_1 p827 q827
      cases e827
      have HR827_0 := Aside0.mk hi827_0
      have HC827_0 := Aside0.mk hl827_0
      clear hi827_0 hl827_0
      replace p827 := eq_true p827
      replace q827 := eq_true q827
      go_wp2_with (first | (go_at_call 16; (with_reducible refine (laws_sameInts.calls k1 _ _ (rd_L6 l0 x5_1) _ _ (rd_L6 l1 x5_1) true _ ?side1 ?side2 ?side3 ?side4 A7.out).mono ?_); (case side1 => repeat (first | exact HR826_0.out | (with_reducible refine Kd.C_alloc ?_ _) | (with_reducible refine Kd.C_drewN ?_ _) | (with_reducible refine Kd.C_drew ?_))); (case side2 => exact HC826_0.out); (case side3 => repeat (first | exact HR827_0.out | (with_reducible refine Kd.C_alloc ?_ _) | (with_reducible refine Kd.C_drewN ?_ _) | (with_reducible refine Kd.C_drew ?_))); (case side4 => exact HC827_0.out); rintro e w' ⟨rfl, ⟨nd, rfl⟩⟩; (try first | exact ⟨rfl, _, World.drewN_drewN _ _ _⟩ | exact ⟨rfl, _, Eq.trans (World.drewN_drewN _ _ _) (congrArg (World.drewN _) (Nat.add_assoc _ _ _))⟩)))
      repeat (go_quiet (first | (go_at_call 16; (with_reducible refine (laws_sameInts.calls k1 _ _ (rd_L6 l0 x5_1) _ _ (rd_L6 l1 x5_1) true _ ?side1 ?side2 ?side3 ?side4 A7.out).mono ?_); (case side1 => repeat (first | exact HR826_0.out | (with_reducible refine Kd.C_alloc ?_ _) | (with_reducible refine Kd.C_drewN ?_ _) | (with_reducible refine Kd.C_drew ?_))); (case side2 => exact HC826_0.out); (case side3 => repeat (first | exact HR827_0.out | (with_reducible refine Kd.C_alloc ?_ _) | (with_reducible refine Kd.C_drewN ?_ _) | (with_reducible refine Kd.C_drew ?_))); (case side4 => exact HC827_0.out); rintro e w' ⟨rfl, ⟨nd, rfl⟩⟩; (try first | exact ⟨rfl, _, World.drewN_drewN _ _ _⟩ | exact ⟨rfl, _, Eq.trans (World.drewN_drewN _ _ _) (congrArg (World.drewN _) (Nat.add_assoc _ _ _))⟩))); try go_wp2_with (first | (go_at_call 16; (with_reducible refine (laws_sameInts.calls k1 _ _ (rd_L6 l0 x5_1) _ _ (rd_L6 l1 x5_1) true _ ?side1 ?side2 ?side3 ?side4 A7.out).mono ?_); (case side1 => repeat (first | exact HR826_0.out | (with_reducible refine Kd.C_alloc ?_ _) | (with_reducible refine Kd.C_drewN ?_ _) | (with_reducible refine Kd.C_drew ?_))); (case side2 => exact HC826_0.out); (case side3 => repeat (first | exact HR827_0.out | (with_reducible refine Kd.C_alloc ?_ _) | (with_reducible refine Kd.C_drewN ?_ _) | (with_reducible refine Kd.C_drew ?_))); (case side4 => exact HC827_0.out); rintro e w' ⟨rfl, ⟨nd, rfl⟩⟩; (try first | exact ⟨rfl, _, World.drewN_drewN _ _ _⟩ | exact ⟨rfl, _, Eq.trans (World.drewN_drewN _ _ _) (congrArg (World.drewN _) (Nat.add_assoc _ _ _))⟩))))
      go_roundg k1
      case measure => have := HK1.out; omega
      case rel => exact ⟨(wrap64 (x5_1 + 1)), zF, H', ⟨by have := HK1.out; omega⟩, by repeat (first | exact Drawn0.refl _ | apply Drawn0.step)⟩
     replace c8 := Bool.eq_false_iff.mpr c8
     subst c8
     replace H := (if_neg zFf).symm.trans H
     obtain rfl := Option.some.inj H
     have p826 : 0 ≤ (x5_1 : Int) := zA
     have q826 : x5_1 < (l0.length : Int) := zA
     obtain ⟨ad826, A826_0, c826_0, e826, hx826_0, hl826_0, hi826_0⟩ := at_L6 HR0.out x5_1 p826 q826
     cases e826
     have HR826_0 := Aside0.mk hi826_0
     have HC826_0 := Aside0.mk hl826_0
     clear hi826_0 hl826_0
     replace p826 := eq_true p826
     replace q826 := eq_true q826
     have p827 : 0 ≤ (x5_1 : Int) := zA
     have q827 : x5_1 < (l1.length : Int) := zA
     obtain ⟨ad827, A827_0, c827_0, e827, hx827_0, hl827_0, hi827_0⟩ := at_L6 HR1.out x5_1 p827 q827
     cases e827
     have HR827_0 := Aside0.mk hi827_0
     have HC827_0 := Aside0.mk hl827_0
     clear hi827_0 hl827_0
     replace p827 := eq_true p827
     replace q827 := eq_true q827
     go_wp2_with (first | (go_at_call 16; (with_reducible refine (laws_sameInts.calls k1 _ _ (rd_L6 l0 x5_1) _ _ (rd_L6 l1 x5_1) false _ ?side1 ?side2 ?side3 ?side4 A7.out).mono ?_); (case side1 => repeat (first | exact HR826_0.out | (with_reducible refine Kd.C_alloc ?_ _) | (with_reducible refine Kd.C_drewN ?_ _) | (with_reducible refine Kd.C_drew ?_))); (case side2 => exact HC826_0.out); (case side3 => repeat (first | exact HR827_0.out | (with_reducible refine Kd.C_alloc ?_ _) | (with_reducible refine Kd.C_drewN ?_ _) | (with_reducible refine Kd.C_drew ?_))); (case side4 => exact HC827_0.out); rintro e w' ⟨rfl, ⟨nd, rfl⟩⟩; (try first | exact ⟨rfl, _, World.drewN_drewN _ _ _⟩ | exact ⟨rfl, _, Eq.trans (World.drewN_drewN _ _ _) (congrArg (World.drewN _) (Nat.add_assoc _ _ _))⟩)))
     repeat (go_quiet (first | (go_at_call 16; (with_reducible refine (laws_sameInts.calls k1 _ _ (rd_L6 l0 x5_1) _ _ (rd_L6 l1 x5_1) false _ ?side1 ?side2 ?side3 ?side4 A7.out).mono ?_); (case side1 => repeat (first | exact HR826_0.out | (with_reducible refine Kd.C_alloc ?_ _) | (with_reducible refine Kd.C_drewN ?_ _) | (with_reducible refine Kd.C_drew ?_))); (case side2 => exact HC826_0.out); (case side3 => repeat (first | exact HR827_0.out | (with_reducible refine Kd.C_alloc ?_ _) | (with_reducible refine Kd.C_drewN ?_ _) | (with_reducible refine Kd.C_drew ?_))); (case side4 => exact HC827_0.out); rintro e w' ⟨rfl, ⟨nd, rfl⟩⟩; (try first | exact ⟨rfl, _, World.drewN_drewN _ _ _⟩ | exact ⟨rfl, _, Eq.trans (World.drewN_drewN _ _ _) (congrArg (World.drewN _) (Nat.add_assoc _ _ _))⟩))); try go_wp2_with (first | (go_at_call 16; (with_reducible refine (laws_sameInts.calls k1 _ _ (rd_L6 l0 x5_1) _ _ (rd_L6 l1 x5_1) false _ ?side1 ?side2 ?side3 ?side4 A7.out).mono ?_); (case side1 => repeat (first | exact HR826_0.out | (with_reducible refine Kd.C_alloc ?_ _) | (with_reducible refine Kd.C_drewN ?_ _) | (with_reducible refine Kd.C_drew ?_))); (case side2 => exact HC826_0.out); (case side3 => repeat (first | exact HR827_0.out | (with_reducible refine Kd.C_alloc ?_ _) | (with_reducible refine Kd.C_drewN ?_ _) | (with_reducible refine Kd.C_drew ?_))); (case side4 => exact HC827_0.out); rintro e w' ⟨rfl, ⟨nd, rfl⟩⟩; (try first | exact ⟨rfl, _, World.drewN_drewN _ _ _⟩ | exact ⟨rfl, _, Eq.trans (World.drewN_drewN _ _ _) (congrArg (World.drewN _) (Nat.add_assoc _ _ _))⟩))))
     go_ret
     exact ⟨by first | rfl | (simp; done) | (simp [*]; done), by repeat (first | exact Drawn0.refl _ | apply Drawn0.step)⟩
    rw [if_neg c6] at H
    exact absurd H (by simp)
   rw [if_neg c5] at H
   exact absurd H (by simp)
  rw [if_neg c4] at H
  have c4b0 : decide (x5_1 < (l0.length : Int)) = false := decide_eq_false c4
  clear c4
  obtain rfl := Option.some.inj H
  go_wp2
  repeat (go_quiet (fail); try go_wp2)
  go_ret
  exact ⟨by first | rfl | (simp; done) | (simp [*]; done), by repeat (first | exact Drawn0.refl _ | apply Drawn0.step)⟩
 rw [if_neg c3] at H
 have c3b0 : ((l0.length : Int) == (l1.length : Int)) = false := beq_eq_false_iff_ne.mpr c3
 have c3b1 : ((l0.length : Int) != (l1.length : Int)) = true := bne_iff_ne.mpr c3
 have c3b2 : (l0.length == l1.length) = false := by first | simpa using c3 | (simp at c3 ⊢; omega)
 obtain rfl := Option.some.inj H
 go_enter Try.func37, Try.ntmps37
 go_wp2
 repeat (go_quiet (fail); try go_wp2)
 go_ret
 exact ⟨by first | rfl | (simp; done) | (simp [*]; done), by repeat (first | exact Drawn0.refl _ | apply Drawn0.step)⟩
/-! ### spec_l5Inner: function 114 -/
def spec_l5Inner.f (k : Nat) (a0_0 : Int) (a0_1 : ByteArray) (l1 : List Int) : Option (Int) := (spec_l5Split.f k a0_0 a0_1 l1).bind fun bt830 => ((spec_l5Only.f k bt830.1).bind fun t832 => ((spec_l5Only.f k bt830.2).bind fun t833 => ((spec_l1Max.f t832 t833).bind fun t834 => (some t834))))
set_option maxHeartbeats 8000000 in
set_option maxRecDepth 100000 in
theorem spec_l5Inner.calls (k : Nat) (a0_0 : Int) (a0_1 : ByteArray) (A1 : Option Addr) (c1 : Nat) (l1 : List Int) (r : Int) (w : World) (hr1 : Kd.C (Kd.int .i64) w A1 l1.length l1) (hc1 : l1.length ≤ c1) (h : spec_l5Inner.f k a0_0 a0_1 l1 = some r) :
  Calls Try.prog 114 #[.agg #[.int .i64 a0_0, .string a0_1], .slice A1 l1.length c1] w fun e w' => e = .returned (.int .i64 r) ∧ Below w.heap.size w w' := by
 have hu25 := Try.underlying25
 have HR1 := Aside0.mk hr1
 have HC1 := Aside0.mk hc1
 clear hr1 hc1
 have HB := Aside0.mk (Below.refl w.heap.size w)
 have H : ((spec_l5Split.f k a0_0 a0_1 l1).bind fun bt830 => ((spec_l5Only.f k bt830.1).bind fun t832 => ((spec_l5Only.f k bt830.2).bind fun t833 => ((spec_l1Max.f t832 t833).bind fun t834 => (some t834))))) = some r := h
 clear h
 obtain ⟨⟨t830, t831⟩, A3, H⟩ := zO H
 dsimp only at H
 obtain ⟨t832, A4, H⟩ := zO H
 obtain ⟨t833, A5, H⟩ := zO H
 obtain ⟨t834, A6, H⟩ := zO H
 obtain rfl := Option.some.inj H
 go_enter Try.func114, Try.ntmps114
 go_wp2_with (first | ((with_reducible refine gate_dst (N := 2) rfl ?_); refine zBx (N := 2) #[.int .i64 a0_0, .string a0_1] 25 ?_; intro gb829 hg w7 hbox hb; have BK829 := Aside0.mk (hbox); have GW829 := zS hg; have GE829 := zS hg; replace HB := zX hb; clear hb hbox hg; obtain ⟨hcz8_0, hcz8_1, hfz8_0, hfz8_1⟩ := zq2 BK829.out) | ((with_reducible refine gate_callee (f := 108) rfl ?_); refine zD (some 10) Try.func108 #[.agg #[.int .i64 a0_0, .string a0_1], .slice A1 l1.length c1] ?_; (with_reducible refine (spec_l5Split.calls k a0_0 a0_1 _ _ l1 t830 t831 _ ?side1 ?side2 A3.out).mono ?_); (case side1 => repeat (first | exact (Kd.C_below HR1.out HB.out) | (with_reducible refine Kd.C_alloc ?_ _) | (with_reducible refine Kd.C_drewN ?_ _) | (with_reducible refine Kd.C_drew ?_))); (case side2 => exact HC1.out); rintro e w9 ⟨rfl, hb⟩; refine ⟨_, rfl, ?_⟩; replace BK829 := zV BK829.out hb; replace HB := zX1 GE829.out hb; (try clear hb)) | ((with_reducible refine gate_callee (f := 113) rfl ?_); refine zD (some 14) Try.func113 #[.int .i64 t830] ?_; (with_reducible refine (spec_l5Only.calls k t830 t832 _ A4.out).mono ?_); rintro e w' ⟨rfl, ⟨nd, rfl⟩⟩; refine ⟨_, rfl, ?_⟩) | ((with_reducible refine gate_callee (f := 113) rfl ?_); refine zD (some 16) Try.func113 #[.int .i64 t831] ?_; (with_reducible refine (spec_l5Only.calls k t831 t833 _ A5.out).mono ?_); rintro e w' ⟨rfl, ⟨nd, rfl⟩⟩; refine ⟨_, rfl, ?_⟩) | ((with_reducible refine gate_callee (f := 112) rfl ?_); refine zD (some 17) Try.func112 #[.int .i64 t832, .int .i64 t833] ?_; (with_reducible refine (spec_l1Max.calls t832 t833 t834 _ A6.out).mono ?_); rintro e w' ⟨rfl, ⟨nd, rfl⟩⟩; refine ⟨_, rfl, ?_⟩))
 go_ret
 exact ⟨zE, zG GE829.out⟩
/-! ### spec_QuadsOf: function 38 -/
mutual
def spec_QuadsOf.l0 : Nat → List (List Int) → Int → Int → ByteArray → Option ((List (List Int)))
 | 0, _, _, _, _ => none
 | k + 1, x3, x4, x836000, x836001 => if x4 < x836000 then (spec_QuadsOf.l1 k x3 x4 (wrap64 (x4 + 1)) x836000 x836001) else (some x3)
def spec_QuadsOf.l1 : Nat → List (List Int) → Int → Int → Int → ByteArray → Option ((List (List Int)))
 | 0, _, _, _, _, _ => none
 | k + 1, x3, x4, x5, x836000, x836001 => if x5 < x836000 then (spec_QuadsOf.l2 k x3 x4 x5 (wrap64 (x5 + 1)) x836000 x836001) else (spec_QuadsOf.l0 k x3 (wrap64 (x4 + 1)) x836000 x836001)
def spec_QuadsOf.l2 : Nat → List (List Int) → Int → Int → Int → Int → ByteArray → Option ((List (List Int)))
 | 0, _, _, _, _, _, _ => none
 | k + 1, x3, x4, x5, x6, x836000, x836001 => if x6 < x836000 then (spec_QuadsOf.l3 k x3 x4 x5 x6 (wrap64 (x6 + 1)) x836000 x836001) else (spec_QuadsOf.l1 k x3 x4 (wrap64 (x5 + 1)) x836000 x836001)
def spec_QuadsOf.l3 : Nat → List (List Int) → Int → Int → Int → Int → Int → ByteArray → Option ((List (List Int)))
 | 0, _, _, _, _, _, _, _ => none
 | k + 1, x3, x4, x5, x6, x7, x836000, x836001 => if x7 < x836000 then ((some (([x4, x5, x6, x7] : List Int) : List Int)).bind fun y840 => ((spec_l5Inner.f k x836000 x836001 y840).bind fun t843 => (if t843 < 0 then (if x3.length < 5864062014805 then (spec_QuadsOf.l3 k (x3 ++ [y840]) x4 x5 x6 (wrap64 (x7 + 1)) x836000 x836001) else (none)) else (spec_QuadsOf.l3 k x3 x4 x5 x6 (wrap64 (x7 + 1)) x836000 x836001)))) else (spec_QuadsOf.l2 k x3 x4 x5 (wrap64 (x6 + 1)) x836000 x836001)
end
def spec_QuadsOf.f (k : Nat) (a0_0 : Int) (a0_1 : ByteArray) : Option ((List (List Int))) := (some (([] : List (List Int)) : List (List Int))).bind fun y836 => ((spec_IsAcyclic.f k a0_0 a0_1).bind fun t839 => (if t839 = true then (spec_QuadsOf.l0 k y836 0 a0_0 a0_1) else (some y836)))
set_option maxHeartbeats 8000000 in
set_option maxRecDepth 100000 in
theorem spec_QuadsOf.calls (k : Nat) (a0_0 : Int) (a0_1 : ByteArray) (r : List (List Int)) (w : World) (h : spec_QuadsOf.f k a0_0 a0_1 = some r) :
  Calls Try.prog 38 #[.agg #[.int .i64 a0_0, .string a0_1]] w fun e w' => ∃ v0_ : Value, e = .returned (v0_) ∧ Kd.S (Kd.slice 3 (Kd.int .i64)) 27 w' w.heap.size (fun _ => True) v0_ r ∧ Below w.heap.size w w' := by
 have hu25 := Try.underlying25
 have HB := Aside0.mk (Below.refl w.heap.size w)
 have H : ((some (([] : List (List Int)) : List (List Int))).bind fun y836 => ((spec_IsAcyclic.f k a0_0 a0_1).bind fun t839 => (if t839 = true then (spec_QuadsOf.l0 k y836 0 a0_0 a0_1) else (some y836)))) = some r := h
 clear h
 obtain ⟨y836, hy836⟩ : ∃ y_ : List (List Int), y_ = (([] : List (List Int))) := ⟨_, rfl⟩
 replace H : ((spec_IsAcyclic.f k a0_0 a0_1).bind fun t839 => (if t839 = true then (spec_QuadsOf.l0 k y836 0 a0_0 a0_1) else (some y836))) = some r := by first | (rw [hy836]; with_reducible exact H) | (have H2_ := (Option.bind_some _ _).symm.trans H; rw [hy836]; with_reducible exact H2_) | (have H2_ := (Option.bind_some _ _).symm.trans H; with_reducible exact H2_) | with_reducible exact H | (rw [hy836]; exact H) | exact H
 have Ny836 := Aside0.mk hy836
 clear hy836
 obtain ⟨t839, A2, H⟩ := zO H
 by_cases c3 : t839 = true
 ·subst c3
  replace H := (if_pos rfl).symm.trans H
  have H' := Aside0.mk H; clear H
  go_enter Try.func38, Try.ntmps38
  go_wp2_with (first | ((with_reducible refine gate_dst (N := 1) rfl ?_); refine zBx (N := 1) #[.int .i64 a0_0, .string a0_1] 25 ?_; intro gb835 hg w4 hbox hb; have BK835 := Aside0.mk (hbox); have GW835 := zS hg; have GE835 := zS hg; replace HB := zX hb; clear hb hbox hg) | ((with_reducible refine gate_dst (N := 9) rfl ?_); refine Kd.S_lit (Kd.slice 3 (Kd.int .i64)) _ 27 ?hg (N := 9) ?hd (xs := ([] : List (List Int))) (inner := []) (ok := fun _ => True) (okp := fun _ => True) ?hr ?hp (fun _ hk => hk) trivial (Below.refl _ _) (Nat.le_refl _) (by simp) ?_; (case hd => rfl); (case hg => rfl); (case hr => first | (go_simp; done) | (go_simp; rfl)); (case hp => exact (Reps.none _ _)); intro v837 w5 ho6 hb hg_ hnew_; clear hg_ hnew_; (first | rw [← Ny836.out] at ho6 | (simp only [Int.reduceToNat] at ho6; rw [← Ny836.out] at ho6)); have HO838 := Aside0.mk (Kd.S_lower ho6 (below_size (zG GE835.out))); replace BK835 := zV BK835.out hb; replace HB := zX1 GE835.out hb; clear hb ho6; obtain ⟨hcz7_0, hcz7_1, hfz7_0, hfz7_1⟩ := zq2 BK835.out) | ((with_reducible refine gate_callee (f := 24) rfl ?_); refine zD (some 11) Try.func24 #[.agg #[.int .i64 a0_0, .string a0_1]] ?_; (with_reducible refine (spec_IsAcyclic.calls k a0_0 a0_1 true _ A2.out).mono ?_); rintro e w8 ⟨rfl, hb⟩; refine ⟨_, rfl, ?_⟩; replace HO838 := Aside0.mk (Kd.S_below (by (with_reducible repeat (first | apply Kd.S_alloc | apply Kd.S_drewN | apply Kd.S_drew)); exact HO838.out) hb); replace BK835 := zV BK835.out hb; replace HB := zX1 GE835.out hb; (try clear hb)))
  go_loopg [3, 4] k (fun kq v3 v4 w' => ∃ (x3_1 : List (List Int)) (x4_1 : Int), v4 = .int .i64 x4_1 ∧ Aside0 (spec_QuadsOf.l0 kq x3_1 x4_1 a0_0 a0_1 = some r) ∧ Aside0 (kq ≤ k) ∧ Aside0 (Kd.S (Kd.slice 3 (Kd.int .i64)) 27 w' w.heap.size (fun _ => True) v3 x3_1) ∧ Aside0 (w'.heap[gb835]? = some (.cells #[.int .i64 a0_0, .string a0_1] 25 (0, 0))) ∧ Aside0 (Below w.heap.size w w'))
  case atStart => exact ⟨(y836), (0), zF, H', ⟨Nat.le_refl _⟩, ⟨by (with_reducible repeat (first | apply Kd.S_alloc | apply Kd.S_drewN | apply Kd.S_drew)); exact HO838.out⟩, ⟨zK BK835.out⟩, ⟨zG GE835.out⟩⟩
  case round =>
  clear H'
  try clear c3
  try clear hcz7_0
  try clear hcz7_1
  try clear hfz7_0
  try clear hfz7_1
  obtain ⟨x3_1, x4_1, rfl, HA, HK1, HO_3, BK835, HB⟩ := hrel
  cases gk with
  | zero => exact absurd HA.out (by simp [spec_QuadsOf.l0])
  | succ k1 =>
  have H := HA.out
  clear HA
  simp only [spec_QuadsOf.l0] at H
  by_cases c9 : x4_1 < a0_0
  ·rw [if_pos c9] at H
   have c9b0 : decide (x4_1 < a0_0) = true := decide_eq_true c9
   clear c9
   have H' := Aside0.mk H; clear H
   obtain ⟨hcz10_0, hcz10_1, hfz10_0, hfz10_1⟩ := zq2 BK835.out
   go_wp2
   go_loopg [3, 5] k1 (fun kq v3 v5 w' => ∃ (x3_2 : List (List Int)) (x5_2 : Int), v5 = .int .i64 x5_2 ∧ Aside0 (spec_QuadsOf.l1 kq x3_2 x4_1 x5_2 a0_0 a0_1 = some r) ∧ Aside0 (kq ≤ k1) ∧ Aside0 (Kd.S (Kd.slice 3 (Kd.int .i64)) 27 w' w.heap.size (fun _ => True) v3 x3_2) ∧ Aside0 (w'.heap[gb835]? = some (.cells #[.int .i64 a0_0, .string a0_1] 25 (0, 0))) ∧ Aside0 (Below w.heap.size w w'))
   case atStart => exact ⟨(x3_1), (wrap64 (x4_1 + 1)), zF, H', ⟨Nat.le_refl _⟩, ⟨by (with_reducible repeat (first | apply Kd.S_alloc | apply Kd.S_drewN | apply Kd.S_drew)); exact HO_3.out⟩, ⟨zK BK835.out⟩, ⟨zG GE835.out⟩⟩
   case round =>
   clear H'
   try clear c3
   try clear c9
   try clear c9b0
   try clear hcz10_0
   try clear hcz10_1
   try clear hcz7_0
   try clear hcz7_1
   try clear hfz10_0
   try clear hfz10_1
   try clear hfz7_0
   try clear hfz7_1
   obtain ⟨x3_2, x5_2, rfl, HA, HK2, HO_3, BK835, HB⟩ := hrel
   cases gk with
   | zero => exact absurd HA.out (by simp [spec_QuadsOf.l1])
   | succ k2 =>
   have H := HA.out
   clear HA
   simp only [spec_QuadsOf.l1] at H
   by_cases c11 : x5_2 < a0_0
   ·rw [if_pos c11] at H
    have c11b0 : decide (x5_2 < a0_0) = true := decide_eq_true c11
    clear c11
    have H' := Aside0.mk H; clear H
    obtain ⟨hcz12_0, hcz12_1, hfz12_0, hfz12_1⟩ := zq2 BK835.out
    go_wp2
    go_loopg [3, 6] k2 (fun kq v3 v6 w' => ∃ (x3_3 : List (List Int)) (x6_3 : Int), v6 = .int .i64 x6_3 ∧ Aside0 (spec_QuadsOf.l2 kq x3_3 x4_1 x5_2 x6_3 a0_0 a0_1 = some r) ∧ Aside0 (kq ≤ k2) ∧ Aside0 (Kd.S (Kd.slice 3 (Kd.int .i64)) 27 w' w.heap.size (fun _ => True) v3 x3_3) ∧ Aside0 (w'.heap[gb835]? = some (.cells #[.int .i64 a0_0, .string a0_1] 25 (0, 0))) ∧ Aside0 (Below w.heap.size w w'))
    case atStart => exact ⟨(x3_2), (wrap64 (x5_2 + 1)), zF, H', ⟨Nat.le_refl _⟩, ⟨by (with_reducible repeat (first | apply Kd.S_alloc | apply Kd.S_drewN | apply Kd.S_drew)); exact HO_3.out⟩, ⟨zK BK835.out⟩, ⟨zG GE835.out⟩⟩
    case round =>
    clear H'
    try clear c3
    try clear c9
    try clear c9b0
    try clear c11
    try clear c11b0
    try clear hcz10_0
    try clear hcz10_1
    try clear hcz12_0
    try clear hcz12_1
    try clear hcz7_0
    try clear hcz7_1
    try clear hfz10_0
    try clear hfz10_1
    try clear hfz12_0
    try clear hfz12_1
    try clear hfz7_0
    try clear hfz7_1
    obtain ⟨x3_3, x6_3, rfl, HA, HK3, HO_3, BK835, HB⟩ := hrel
    cases gk with
    | zero => exact absurd HA.out (by simp [spec_QuadsOf.l2])
    | succ k3 =>
    have H := HA.out
    clear HA
    simp only [spec_QuadsOf.l2] at H
    by_cases c13 : x6_3 < a0_0
    ·rw [if_pos c13] at H
     have c13b0 : decide (x6_3 < a0_0) = true := decide_eq_true c13
     clear c13
     have H' := Aside0.mk H; clear H
     obtain ⟨hcz14_0, hcz14_1, hfz14_0, hfz14_1⟩ := zq2 BK835.out
     go_wp2
     go_loopg [3, 7] k3 (fun kq v3 v7 w' => ∃ (x3_4 : List (List Int)) (x7_4 : Int), v7 = .int .i64 x7_4 ∧ Aside0 (spec_QuadsOf.l3 kq x3_4 x4_1 x5_2 x6_3 x7_4 a0_0 a0_1 = some r) ∧ Aside0 (kq ≤ k3) ∧ Aside0 (Kd.S (Kd.slice 3 (Kd.int .i64)) 27 w' w.heap.size (fun _ => True) v3 x3_4) ∧ Aside0 (w'.heap[gb835]? = some (.cells #[.int .i64 a0_0, .string a0_1] 25 (0, 0))) ∧ Aside0 (Below w.heap.size w w'))
     case atStart => exact ⟨(x3_3), (wrap64 (x6_3 + 1)), zF, H', ⟨Nat.le_refl _⟩, ⟨by (with_reducible repeat (first | apply Kd.S_alloc | apply Kd.S_drewN | apply Kd.S_drew)); exact HO_3.out⟩, ⟨zK BK835.out⟩, ⟨zG GE835.out⟩⟩
     case round =>
     clear H'
     try clear c3
     try clear c9
     try clear c9b0
     try clear c11
     try clear c11b0
     try clear c13
     try clear c13b0
     try clear hcz10_0
     try clear hcz10_1
     try clear hcz12_0
     try clear hcz12_1
     try clear hcz14_0
     try clear hcz14_1
     try clear hcz7_0
     try clear hcz7_1
     try clear hfz10_0
     try clear hfz10_1
     try clear hfz12_0
     try clear hfz12_1
     try clear hfz14_0
     try clear hfz14_1
     try clear hfz7_0
     try clear hfz7_1
     obtain ⟨x3_4, x7_4, rfl, HA, HK4, HO_3, BK835, HB⟩ := hrel
     cases gk with
     | zero => exact absurd HA.out (by simp [spec_QuadsOf.l3])
     | succ k4 =>
     have H := HA.out
     clear HA
     simp only [spec_QuadsOf.l3] at H
     by_cases c15 : x7_4 < a0_0
     ·rw [if_pos c15] at H
      have c15b0 : decide (x7_4 < a0_0) = true := decide_eq_true c15
      clear c15
      obtain ⟨y840, hy840⟩ : ∃ y_ : List Int, y_ = (([x4_1, x5_2, x6_3, x7_4] : List Int)) := ⟨_, rfl⟩
      replace H : ((spec_l5Inner.f k4 a0_0 a0_1 y840).bind fun t843 => (if t843 < 0 then (if x3_4.length < 5864062014805 then (spec_QuadsOf.l3 k4 (x3_4 ++ [y840]) x4_1 x5_2 x6_3 (wrap64 (x7_4 + 1)) a0_0 a0_1) else (none)) else (spec_QuadsOf.l3 k4 x3_4 x4_1 x5_2 x6_3 (wrap64 (x7_4 + 1)) a0_0 a0_1))) = some r := by first | (rw [hy840]; with_reducible exact H) | (have H2_ := (Option.bind_some _ _).symm.trans H; rw [hy840]; with_reducible exact H2_) | (have H2_ := (Option.bind_some _ _).symm.trans H; with_reducible exact H2_) | with_reducible exact H | (rw [hy840]; exact H) | exact H
      have Ny840 := Aside0.mk hy840
      clear hy840
      obtain ⟨t843, A16, H⟩ := zO H
      by_cases c17 : t843 < 0
      ·rw [if_pos c17] at H
       have c17b0 : decide (t843 < 0) = true := decide_eq_true c17
       clear c17
       by_cases c18 : x3_4.length < 5864062014805
       ·rw [if_pos c18] at H
        have LMc18 := Aside0.mk c18
        clear c18
        obtain ⟨y844, hy844⟩ : ∃ y_ : List (List Int), y_ = (x3_4 ++ [y840]) := ⟨_, rfl⟩
        replace H : (spec_QuadsOf.l3 k4 y844 x4_1 x5_2 x6_3 (wrap64 (x7_4 + 1)) a0_0 a0_1) = some r := by first | (rw [hy844]; with_reducible exact H) | (have H2_ := (Option.bind_some _ _).symm.trans H; rw [hy844]; with_reducible exact H2_) | (have H2_ := (Option.bind_some _ _).symm.trans H; with_reducible exact H2_) | with_reducible exact H | (rw [hy844]; exact H) | exact H
        have Ny844 := Aside0.mk hy844
        clear hy844
        have H' := Aside0.mk H; clear H
        obtain ⟨hcz19_0, hcz19_1, hfz19_0, hfz19_1⟩ := zq2 BK835.out
        go_wp2_with (first | ((with_reducible refine gate_dst (N := 48) rfl ?_); refine Kd.R_lit (Kd.int .i64) _ 3 ?hg (N := 48) ?hd (xs := ([x4_1, x5_2, x6_3, x7_4] : List Int)) (inner := [.int .i64 x4_1, .int .i64 x5_2, .int .i64 x6_3, .int .i64 x7_4]) (ok := fun _ => True) (okp := fun _ => True) ?hr ?hp (fun _ hk => hk) trivial (Below.refl _ _) (Nat.le_refl _) (by simp) ?_; (case hd => rfl); (case hg => rfl); (case hr => first | (go_simp; done) | (go_simp; rfl)); (case hp => exact (Reps.one (show Kd.M (Kd.int .i64) _ _ _ x4_1 [.int .i64 x4_1] from rfl) (Reps.one (show Kd.M (Kd.int .i64) _ _ _ x5_2 [.int .i64 x5_2] from rfl) (Reps.one (show Kd.M (Kd.int .i64) _ _ _ x6_3 [.int .i64 x6_3] from rfl) (Reps.one (show Kd.M (Kd.int .i64) _ _ _ x7_4 [.int .i64 x7_4] from rfl) (Reps.none _ _)))))); intro v841 w20 ho21 hb hg_ hnew_; clear hg_ hnew_; (first | rw [← Ny840.out] at ho21 | (simp only [Int.reduceToNat] at ho21; rw [← Ny840.out] at ho21)); replace HO_3 := Aside0.mk (Kd.S_elder' (by (with_reducible repeat (first | apply Kd.S_alloc | apply Kd.S_drewN | apply Kd.S_drew)); exact HO_3.out) (Kd.R_base ho21) hb); have HO842 := Aside0.mk (Kd.R_lower ho21 (below_size (zG GE835.out))); replace BK835 := zV BK835.out hb; replace HB := zX1 GE835.out hb; clear hb ho21; obtain ⟨hcz22_0, hcz22_1, hfz22_0, hfz22_1⟩ := zq2 BK835.out; obtain ⟨Ao23, co23, eo23⟩ := Kd.R_slice HO842.out; subst eo23) | ((with_reducible refine gate_callee (f := 114) rfl ?_); refine zD (some 51) Try.func114 #[.agg #[.int .i64 a0_0, .string a0_1], .slice Ao23 y840.length co23] ?_; (with_reducible refine (spec_l5Inner.calls k4 a0_0 a0_1 _ _ y840 t843 _ ?side1 ?side2 A16.out).mono ?_); (case side1 => repeat (first | exact (Kd.R_reads' HO842.out).2.2 | (with_reducible refine Kd.C_alloc ?_ _) | (with_reducible refine Kd.C_drewN ?_ _) | (with_reducible refine Kd.C_drew ?_))); (case side2 => exact (Kd.R_reads' HO842.out).2.1); rintro e w24 ⟨rfl, hb⟩; refine ⟨_, rfl, ?_⟩; replace HO_3 := Aside0.mk (Kd.S_below (by (with_reducible repeat (first | apply Kd.S_alloc | apply Kd.S_drewN | apply Kd.S_drew)); exact HO_3.out) hb); replace HO842 := zW HO842.out hb; replace BK835 := zV BK835.out hb; replace HB := zX1 GE835.out hb; (try clear hb)) | ((with_reducible refine gate_builtin (b := .append) (xs := #[.tmp 53, .tmp 55]) rfl ?_); at_builtin; refine Kd.S_append (Kd.slice 3 (Kd.int .i64)) (w0 := w) w.heap.size rfl (.tmp 53) (.tmp 55) 44 27 (.slice none 0 0) 24 rfl Try.underlying44 info27 rfl (by decide) (by omega) u3 x3_4 y840 [.slice Ao23 y840.length co23] (fun _ => True) (fun k_ => some k_ = (.slice Ao23 y840.length co23 : Value).ownBlock) rfl rfl ?aP (fun k_ hk_ => ((Kd.R_mono (ok' := fun k_ => ((fun _ => True)) k_ ∧ some k_ ≠ (u3 : Value).ownBlock) (Kd.R_apart' (HO842.out) (Kd.S_typed HO_3.out) (by decide)) (fun k_ hk => ⟨trivial, hk.2⟩))).1 k_ hk_.symm) ?aF ?aO ?aB ?aS ?aL ?_; (case aP => exact Kd.M_row (Kd.R_mono (Kd.R_tight rfl (Kd.R_mono (ok' := fun k_ => ((fun _ => True)) k_ ∧ some k_ ≠ (u3 : Value).ownBlock) (Kd.R_apart' (HO842.out) (Kd.S_typed HO_3.out) (by decide)) (fun k_ hk => ⟨trivial, hk.2⟩))) (fun _ h_ => h_))); (case aB => exact (zG GE835.out)); (case aF => exact (fun _ _ => trivial)); (case aO => exact (by (with_reducible repeat (first | apply Kd.S_alloc | apply Kd.S_drewN | apply Kd.S_drew)); exact Kd.S_mono HO_3.out (fun k_ hk => ⟨trivial, fun e_ => hk.2 e_⟩))); (case aS => exact (below_size (zG GE835.out))); (case aL => have := LMc18.out; omega); intro v845 w25 ho hb hg hat; rw [← Ny844.out] at ho; have n0_ := Aside0.mk (blk_grown (g := gb835) (o := .cells #[.int .i64 a0_0, .string a0_1] 25 (0, 0)) (zK BK835.out) hg (Kd.S_ne HO_3.out BK835.out (by decide))); have n1_ := Aside0.mk (hb); have n2_ := Aside0.mk (ho); clear BK835; clear HB; clear HO_3; clear HO842; have BK835 := n0_; have HB := n1_; have HO846 := n2_; clear n0_ n1_ n2_; clear ho hb hg hat))
        go_roundg k4
        case measure => have := HK1.out; have := HK2.out; have := HK3.out; have := HK4.out; omega
        case rel => exact ⟨(y844), (wrap64 (x7_4 + 1)), zF, H', ⟨by have := HK1.out; have := HK2.out; have := HK3.out; have := HK4.out; omega⟩, ⟨by (with_reducible repeat (first | apply Kd.S_alloc | apply Kd.S_drewN | apply Kd.S_drew)); exact HO846.out⟩, ⟨zK BK835.out⟩, ⟨zG GE835.out⟩⟩
       rw [if_neg c18] at H
       exact absurd H (by simp)
      rw [if_neg c17] at H
      have c17b0 : decide (t843 < 0) = false := decide_eq_false c17
      clear c17
      have H' := Aside0.mk H; clear H
      obtain ⟨hcz26_0, hcz26_1, hfz26_0, hfz26_1⟩ := zq2 BK835.out
      go_wp2_with (first | ((with_reducible refine gate_dst (N := 48) rfl ?_); refine Kd.R_lit (Kd.int .i64) _ 3 ?hg (N := 48) ?hd (xs := ([x4_1, x5_2, x6_3, x7_4] : List Int)) (inner := [.int .i64 x4_1, .int .i64 x5_2, .int .i64 x6_3, .int .i64 x7_4]) (ok := fun _ => True) (okp := fun _ => True) ?hr ?hp (fun _ hk => hk) trivial (Below.refl _ _) (Nat.le_refl _) (by simp) ?_; (case hd => rfl); (case hg => rfl); (case hr => first | (go_simp; done) | (go_simp; rfl)); (case hp => exact (Reps.one (show Kd.M (Kd.int .i64) _ _ _ x4_1 [.int .i64 x4_1] from rfl) (Reps.one (show Kd.M (Kd.int .i64) _ _ _ x5_2 [.int .i64 x5_2] from rfl) (Reps.one (show Kd.M (Kd.int .i64) _ _ _ x6_3 [.int .i64 x6_3] from rfl) (Reps.one (show Kd.M (Kd.int .i64) _ _ _ x7_4 [.int .i64 x7_4] from rfl) (Reps.none _ _)))))); intro v841 w27 ho28 hb hg_ hnew_; clear hg_ hnew_; (first | rw [← Ny840.out] at ho28 | (simp only [Int.reduceToNat] at ho28; rw [← Ny840.out] at ho28)); replace HO_3 := Aside0.mk (Kd.S_elder' (by (with_reducible repeat (first | apply Kd.S_alloc | apply Kd.S_drewN | apply Kd.S_drew)); exact HO_3.out) (Kd.R_base ho28) hb); have HO842 := Aside0.mk (Kd.R_lower ho28 (below_size (zG GE835.out))); replace BK835 := zV BK835.out hb; replace HB := zX1 GE835.out hb; clear hb ho28; obtain ⟨hcz29_0, hcz29_1, hfz29_0, hfz29_1⟩ := zq2 BK835.out; obtain ⟨Ao30, co30, eo30⟩ := Kd.R_slice HO842.out; subst eo30) | ((with_reducible refine gate_callee (f := 114) rfl ?_); refine zD (some 51) Try.func114 #[.agg #[.int .i64 a0_0, .string a0_1], .slice Ao30 y840.length co30] ?_; (with_reducible refine (spec_l5Inner.calls k4 a0_0 a0_1 _ _ y840 t843 _ ?side1 ?side2 A16.out).mono ?_); (case side1 => repeat (first | exact (Kd.R_reads' HO842.out).2.2 | (with_reducible refine Kd.C_alloc ?_ _) | (with_reducible refine Kd.C_drewN ?_ _) | (with_reducible refine Kd.C_drew ?_))); (case side2 => exact (Kd.R_reads' HO842.out).2.1); rintro e w31 ⟨rfl, hb⟩; refine ⟨_, rfl, ?_⟩; replace HO_3 := Aside0.mk (Kd.S_below (by (with_reducible repeat (first | apply Kd.S_alloc | apply Kd.S_drewN | apply Kd.S_drew)); exact HO_3.out) hb); replace HO842 := zW HO842.out hb; replace BK835 := zV BK835.out hb; replace HB := zX1 GE835.out hb; (try clear hb)))
      go_roundg k4
      case measure => have := HK1.out; have := HK2.out; have := HK3.out; have := HK4.out; omega
      case rel => exact ⟨(x3_4), (wrap64 (x7_4 + 1)), zF, H', ⟨by have := HK1.out; have := HK2.out; have := HK3.out; have := HK4.out; omega⟩, ⟨by (with_reducible repeat (first | apply Kd.S_alloc | apply Kd.S_drewN | apply Kd.S_drew)); exact Kd.S_mono HO_3.out (fun _ hk => trivial)⟩, ⟨zK BK835.out⟩, ⟨zG GE835.out⟩⟩
     rw [if_neg c15] at H
     have c15b0 : decide (x7_4 < a0_0) = false := decide_eq_false c15
     clear c15
     have H' := Aside0.mk H; clear H
     obtain ⟨hcz32_0, hcz32_1, hfz32_0, hfz32_1⟩ := zq2 BK835.out
     go_wp2
     go_roundg k4
     case measure => have := HK1.out; have := HK2.out; have := HK3.out; have := HK4.out; omega
     case rel => exact ⟨(x3_4), (wrap64 (x6_3 + 1)), zF, H', ⟨by have := HK1.out; have := HK2.out; have := HK3.out; have := HK4.out; omega⟩, ⟨by (with_reducible repeat (first | apply Kd.S_alloc | apply Kd.S_drewN | apply Kd.S_drew)); exact HO_3.out⟩, ⟨zK BK835.out⟩, ⟨zG GE835.out⟩⟩
    rw [if_neg c13] at H
    have c13b0 : decide (x6_3 < a0_0) = false := decide_eq_false c13
    clear c13
    have H' := Aside0.mk H; clear H
    obtain ⟨hcz33_0, hcz33_1, hfz33_0, hfz33_1⟩ := zq2 BK835.out
    go_wp2
    go_roundg k3
    case measure => have := HK1.out; have := HK2.out; have := HK3.out; omega
    case rel => exact ⟨(x3_3), (wrap64 (x5_2 + 1)), zF, H', ⟨by have := HK1.out; have := HK2.out; have := HK3.out; omega⟩, ⟨by (with_reducible repeat (first | apply Kd.S_alloc | apply Kd.S_drewN | apply Kd.S_drew)); exact HO_3.out⟩, ⟨zK BK835.out⟩, ⟨zG GE835.out⟩⟩
   rw [if_neg c11] at H
   have c11b0 : decide (x5_2 < a0_0) = false := decide_eq_false c11
   clear c11
   have H' := Aside0.mk H; clear H
   obtain ⟨hcz34_0, hcz34_1, hfz34_0, hfz34_1⟩ := zq2 BK835.out
   go_wp2
   go_roundg k2
   case measure => have := HK1.out; have := HK2.out; omega
   case rel => exact ⟨(x3_2), (wrap64 (x4_1 + 1)), zF, H', ⟨by have := HK1.out; have := HK2.out; omega⟩, ⟨by (with_reducible repeat (first | apply Kd.S_alloc | apply Kd.S_drewN | apply Kd.S_drew)); exact HO_3.out⟩, ⟨zK BK835.out⟩, ⟨zG GE835.out⟩⟩
  rw [if_neg c9] at H
  have c9b0 : decide (x4_1 < a0_0) = false := decide_eq_false c9
  clear c9
  obtain rfl := Option.some.inj H
  obtain ⟨hcz35_0, hcz35_1, hfz35_0, hfz35_1⟩ := zq2 BK835.out
  go_wp2
  go_ret
  exact ⟨_, zE, by (with_reducible repeat (first | apply Kd.S_alloc | apply Kd.S_drewN | apply Kd.S_drew)); exact HO_3.out, zG GE835.out⟩
 replace c3 := Bool.eq_false_iff.mpr c3
 subst c3
 replace H := (if_neg zFf).symm.trans H
 obtain rfl := Option.some.inj H
 go_enter Try.func38, Try.ntmps38
 go_wp2_with (first | ((with_reducible refine gate_dst (N := 1) rfl ?_); refine zBx (N := 1) #[.int .i64 a0_0, .string a0_1] 25 ?_; intro gb835 hg w36 hbox hb; have BK835 := Aside0.mk (hbox); have GW835 := zS hg; have GE835 := zS hg; replace HB := zX hb; clear hb hbox hg) | ((with_reducible refine gate_dst (N := 9) rfl ?_); refine Kd.S_lit (Kd.slice 3 (Kd.int .i64)) _ 27 ?hg (N := 9) ?hd (xs := ([] : List (List Int))) (inner := []) (ok := fun _ => True) (okp := fun _ => True) ?hr ?hp (fun _ hk => hk) trivial (Below.refl _ _) (Nat.le_refl _) (by simp) ?_; (case hd => rfl); (case hg => rfl); (case hr => first | (go_simp; done) | (go_simp; rfl)); (case hp => exact (Reps.none _ _)); intro v837 w37 ho38 hb hg_ hnew_; clear hg_ hnew_; (first | rw [← Ny836.out] at ho38 | (simp only [Int.reduceToNat] at ho38; rw [← Ny836.out] at ho38)); have HO838 := Aside0.mk (Kd.S_lower ho38 (below_size (zG GE835.out))); replace BK835 := zV BK835.out hb; replace HB := zX1 GE835.out hb; clear hb ho38; obtain ⟨hcz39_0, hcz39_1, hfz39_0, hfz39_1⟩ := zq2 BK835.out) | ((with_reducible refine gate_callee (f := 24) rfl ?_); refine zD (some 11) Try.func24 #[.agg #[.int .i64 a0_0, .string a0_1]] ?_; (with_reducible refine (spec_IsAcyclic.calls k a0_0 a0_1 false _ A2.out).mono ?_); rintro e w40 ⟨rfl, hb⟩; refine ⟨_, rfl, ?_⟩; replace HO838 := Aside0.mk (Kd.S_below (by (with_reducible repeat (first | apply Kd.S_alloc | apply Kd.S_drewN | apply Kd.S_drew)); exact HO838.out) hb); replace BK835 := zV BK835.out hb; replace HB := zX1 GE835.out hb; (try clear hb)))
 go_ret
 exact ⟨_, zE, by (with_reducible repeat (first | apply Kd.S_alloc | apply Kd.S_drewN | apply Kd.S_drew)); exact HO838.out, zG GE835.out⟩
/-! ### impl_CountQuads: function 39 -/
def impl_CountQuads.f (k : Nat) (a0_0 : Int) (a0_1 : ByteArray) : Option (Int) := (impl_IsAcyclic.f k a0_0 a0_1).bind fun t848 => (if t848 = true then ((impl_QuadsOf.f k a0_0 a0_1).bind fun t849 => (some (t849.length : Int))) else (some (-1)))
set_option maxHeartbeats 8000000 in
set_option maxRecDepth 100000 in
theorem impl_CountQuads.calls (k : Nat) (a0_0 : Int) (a0_1 : ByteArray) (r : Int) (w : World) (h : impl_CountQuads.f k a0_0 a0_1 = some r) :
  Calls Try.prog 39 #[.agg #[.int .i64 a0_0, .string a0_1]] w fun e w' => e = .returned (.int .i64 r) ∧ Below w.heap.size w w' := by
 have hu25 := Try.underlying25
 have HB := Aside0.mk (Below.refl w.heap.size w)
 have H : ((impl_IsAcyclic.f k a0_0 a0_1).bind fun t848 => (if t848 = true then ((impl_QuadsOf.f k a0_0 a0_1).bind fun t849 => (some (t849.length : Int))) else (some (-1)))) = some r := h
 clear h
 obtain ⟨t848, A2, H⟩ := zO H
 by_cases c3 : t848 = true
 ·subst c3
  replace H := (if_pos rfl).symm.trans H
  obtain ⟨t849, A4, H⟩ := zO H
  obtain rfl := Option.some.inj H
  go_enter Try.func39, Try.ntmps39
  go_wp2_with (first | ((with_reducible refine gate_dst (N := 1) rfl ?_); refine zBx (N := 1) #[.int .i64 a0_0, .string a0_1] 25 ?_; intro gb847 hg w5 hbox hb; have BK847 := Aside0.mk (hbox); have GW847 := zS hg; have GE847 := zS hg; replace HB := zX hb; clear hb hbox hg; obtain ⟨hcz6_0, hcz6_1, hfz6_0, hfz6_1⟩ := zq2 BK847.out) | ((with_reducible refine gate_callee (f := 23) rfl ?_); refine zD (some 4) Try.func23 #[.agg #[.int .i64 a0_0, .string a0_1]] ?_; (with_reducible refine (impl_IsAcyclic.calls k a0_0 a0_1 true _ A2.out).mono ?_); rintro e w7 ⟨rfl, hb⟩; refine ⟨_, rfl, ?_⟩; replace BK847 := zV BK847.out hb; replace HB := zX1 GE847.out hb; (try clear hb); obtain ⟨hcz8_0, hcz8_1, hfz8_0, hfz8_1⟩ := zq2 BK847.out) | ((with_reducible refine gate_callee (f := 33) rfl ?_); refine zD (some 7) Try.func33 #[.agg #[.int .i64 a0_0, .string a0_1]] ?_; (with_reducible refine (impl_QuadsOf.calls k a0_0 a0_1 t849 _ A4.out).mono ?_); rintro e w9 ⟨v850, rfl, ho0, hb⟩; refine ⟨_, rfl, ?_⟩; have HO851 := Aside0.mk (Kd.S_lower ho0 (below_size (zG GE847.out))); replace BK847 := zV BK847.out hb; replace HB := zX1 GE847.out hb; (try clear hb); (try clear ho0); obtain ⟨Ao10, co10, eo10⟩ := Kd.S_slice HO851.out; subst eo10))
  go_ret
  exact ⟨zE, zG GE847.out⟩
 replace c3 := Bool.eq_false_iff.mpr c3
 subst c3
 replace H := (if_neg zFf).symm.trans H
 obtain rfl := Option.some.inj H
 go_enter Try.func39, Try.ntmps39
 go_wp2_with (first | ((with_reducible refine gate_dst (N := 1) rfl ?_); refine zBx (N := 1) #[.int .i64 a0_0, .string a0_1] 25 ?_; intro gb847 hg w11 hbox hb; have BK847 := Aside0.mk (hbox); have GW847 := zS hg; have GE847 := zS hg; replace HB := zX hb; clear hb hbox hg; obtain ⟨hcz12_0, hcz12_1, hfz12_0, hfz12_1⟩ := zq2 BK847.out) | ((with_reducible refine gate_callee (f := 23) rfl ?_); refine zD (some 4) Try.func23 #[.agg #[.int .i64 a0_0, .string a0_1]] ?_; (with_reducible refine (impl_IsAcyclic.calls k a0_0 a0_1 false _ A2.out).mono ?_); rintro e w13 ⟨rfl, hb⟩; refine ⟨_, rfl, ?_⟩; replace BK847 := zV BK847.out hb; replace HB := zX1 GE847.out hb; (try clear hb)))
 go_ret
 exact ⟨zE, zG GE847.out⟩
/-! ### spec_CountQuads: function 40 -/
def spec_CountQuads.f (k : Nat) (a0_0 : Int) (a0_1 : ByteArray) : Option (Int) := (spec_IsAcyclic.f k a0_0 a0_1).bind fun t853 => (if t853 = true then ((spec_QuadsOf.f k a0_0 a0_1).bind fun t854 => (some (t854.length : Int))) else (some (-1)))
set_option maxHeartbeats 8000000 in
set_option maxRecDepth 100000 in
theorem spec_CountQuads.calls (k : Nat) (a0_0 : Int) (a0_1 : ByteArray) (r : Int) (w : World) (h : spec_CountQuads.f k a0_0 a0_1 = some r) :
  Calls Try.prog 40 #[.agg #[.int .i64 a0_0, .string a0_1]] w fun e w' => e = .returned (.int .i64 r) ∧ Below w.heap.size w w' := by
 have hu25 := Try.underlying25
 have HB := Aside0.mk (Below.refl w.heap.size w)
 have H : ((spec_IsAcyclic.f k a0_0 a0_1).bind fun t853 => (if t853 = true then ((spec_QuadsOf.f k a0_0 a0_1).bind fun t854 => (some (t854.length : Int))) else (some (-1)))) = some r := h
 clear h
 obtain ⟨t853, A2, H⟩ := zO H
 by_cases c3 : t853 = true
 ·subst c3
  replace H := (if_pos rfl).symm.trans H
  obtain ⟨t854, A4, H⟩ := zO H
  obtain rfl := Option.some.inj H
  go_enter Try.func40, Try.ntmps40
  go_wp2_with (first | ((with_reducible refine gate_dst (N := 1) rfl ?_); refine zBx (N := 1) #[.int .i64 a0_0, .string a0_1] 25 ?_; intro gb852 hg w5 hbox hb; have BK852 := Aside0.mk (hbox); have GW852 := zS hg; have GE852 := zS hg; replace HB := zX hb; clear hb hbox hg; obtain ⟨hcz6_0, hcz6_1, hfz6_0, hfz6_1⟩ := zq2 BK852.out) | ((with_reducible refine gate_callee (f := 24) rfl ?_); refine zD (some 4) Try.func24 #[.agg #[.int .i64 a0_0, .string a0_1]] ?_; (with_reducible refine (spec_IsAcyclic.calls k a0_0 a0_1 true _ A2.out).mono ?_); rintro e w7 ⟨rfl, hb⟩; refine ⟨_, rfl, ?_⟩; replace BK852 := zV BK852.out hb; replace HB := zX1 GE852.out hb; (try clear hb); obtain ⟨hcz8_0, hcz8_1, hfz8_0, hfz8_1⟩ := zq2 BK852.out) | ((with_reducible refine gate_callee (f := 38) rfl ?_); refine zD (some 7) Try.func38 #[.agg #[.int .i64 a0_0, .string a0_1]] ?_; (with_reducible refine (spec_QuadsOf.calls k a0_0 a0_1 t854 _ A4.out).mono ?_); rintro e w9 ⟨v855, rfl, ho0, hb⟩; refine ⟨_, rfl, ?_⟩; have HO856 := Aside0.mk (Kd.S_lower ho0 (below_size (zG GE852.out))); replace BK852 := zV BK852.out hb; replace HB := zX1 GE852.out hb; (try clear hb); (try clear ho0); obtain ⟨Ao10, co10, eo10⟩ := Kd.S_slice HO856.out; subst eo10))
  go_ret
  exact ⟨zE, zG GE852.out⟩
 replace c3 := Bool.eq_false_iff.mpr c3
 subst c3
 replace H := (if_neg zFf).symm.trans H
 obtain rfl := Option.some.inj H
 go_enter Try.func40, Try.ntmps40
 go_wp2_with (first | ((with_reducible refine gate_dst (N := 1) rfl ?_); refine zBx (N := 1) #[.int .i64 a0_0, .string a0_1] 25 ?_; intro gb852 hg w11 hbox hb; have BK852 := Aside0.mk (hbox); have GW852 := zS hg; have GE852 := zS hg; replace HB := zX hb; clear hb hbox hg; obtain ⟨hcz12_0, hcz12_1, hfz12_0, hfz12_1⟩ := zq2 BK852.out) | ((with_reducible refine gate_callee (f := 24) rfl ?_); refine zD (some 4) Try.func24 #[.agg #[.int .i64 a0_0, .string a0_1]] ?_; (with_reducible refine (spec_IsAcyclic.calls k a0_0 a0_1 false _ A2.out).mono ?_); rintro e w13 ⟨rfl, hb⟩; refine ⟨_, rfl, ?_⟩; replace BK852 := zV BK852.out hb; replace HB := zX1 GE852.out hb; (try clear hb)))
 go_ret
 exact ⟨zE, zG GE852.out⟩
/-! ### impl_chi_isInside: function 115 -/
def impl_chi_isInside.f (k : Nat) (l0 : List Int) (a1 : Int) (a2 : Int) (a3 : Int) (a4 : Int) : Option (Bool) := (impl_chi_inner.f k l0 a1 a2 a3 a4).bind fun t857 => (some (t857 == a1))
set_option maxHeartbeats 8000000 in
set_option maxRecDepth 100000 in
theorem impl_chi_isInside.calls (k : Nat) (g0 : Nat) (l0 : List Int) (a1 : Int) (a2 : Int) (a3 : Int) (a4 : Int) (r : Bool) (w : World) (hr0 : Kd.C (Kd.int .i64) w (some ⟨g0, 0, none⟩) l0.length l0) (hc0 : l0.length = 344) (h : impl_chi_isInside.f k l0 a1 a2 a3 a4 = some r) :
  Calls Try.prog 115 #[.pointer (some ⟨g0, 0, none⟩), .int .i64 a1, .int .i64 a2, .int .i64 a3, .int .i64 a4] w fun e w' => e = .returned (.bool r) ∧ Below w.heap.size w w' := by
 have HR0 := Aside0.mk hr0
 have HC0 := Aside0.mk hc0
 clear hr0 hc0
 have HB := Aside0.mk (Below.refl w.heap.size w)
 have H : ((impl_chi_inner.f k l0 a1 a2 a3 a4).bind fun t857 => (some (t857 == a1))) = some r := h
 clear h
 obtain ⟨t857, A6, H⟩ := zO H
 obtain rfl := Option.some.inj H
 go_enter Try.func115, Try.ntmps115
 go_wp2_with (first | ((with_reducible refine gate_callee (f := 111) rfl ?_); refine zD (some 16) Try.func111 #[.pointer (some ⟨g0, 0, none⟩), .int .i64 a1, .int .i64 a2, .int .i64 a3, .int .i64 a4] ?_; (with_reducible refine (impl_chi_inner.calls k _ l0 a1 a2 a3 a4 t857 _ ?side1 ?side2 A6.out).mono ?_); (case side1 => repeat (first | exact HR0.out | (with_reducible refine Kd.C_alloc ?_ _) | (with_reducible refine Kd.C_drewN ?_ _) | (with_reducible refine Kd.C_drew ?_))); (case side2 => exact HC0.out); rintro e w7 ⟨rfl, hb⟩; refine ⟨_, rfl, ?_⟩; replace HB := zX hb; (try clear hb)))
 go_ret
 exact ⟨zE, zB⟩
/-! ### impl_IsInside: function 41 -/
def impl_IsInside.f (k : Nat) (a0_0 : Int) (a0_1 : ByteArray) (a1 : Int) (a2 : Int) (a3 : Int) (a4 : Int) : Option (Bool) := (impl_orderOf.f k a0_0 a0_1).bind fun bt859 => (if bt859.2 = true then ((impl_areDifferent.f k a0_0 (([a1, a2, a3, a4] : List Int))).bind fun t866 => (if t866 = true then (if bt859.1.length = 344 then ((impl_chi_isInside.f k bt859.1 a1 a2 a3 a4).bind fun t867 => (some t867)) else (none)) else (some false))) else (some false))
set_option maxHeartbeats 8000000 in
set_option maxRecDepth 100000 in
theorem impl_IsInside.calls (k : Nat) (a0_0 : Int) (a0_1 : ByteArray) (a1 : Int) (a2 : Int) (a3 : Int) (a4 : Int) (r : Bool) (w : World) (h : impl_IsInside.f k a0_0 a0_1 a1 a2 a3 a4 = some r) :
  Calls Try.prog 41 #[.agg #[.int .i64 a0_0, .string a0_1], .int .i64 a1, .int .i64 a2, .int .i64 a3, .int .i64 a4] w fun e w' => e = .returned (.bool r) ∧ Below w.heap.size w w' := by
 have hu25 := Try.underlying25
 have HB := Aside0.mk (Below.refl w.heap.size w)
 have H : ((impl_orderOf.f k a0_0 a0_1).bind fun bt859 => (if bt859.2 = true then ((impl_areDifferent.f k a0_0 (([a1, a2, a3, a4] : List Int))).bind fun t866 => (if t866 = true then (if bt859.1.length = 344 then ((impl_chi_isInside.f k bt859.1 a1 a2 a3 a4).bind fun t867 => (some t867)) else (none)) else (some false))) else (some false))) = some r := h
 clear h
 obtain ⟨⟨t859, t862⟩, A6, H⟩ := zO H
 dsimp only at H
 by_cases c7 : t862 = true
 ·subst c7
  replace H := (if_pos rfl).symm.trans H
  obtain ⟨y863, hy863⟩ : ∃ y_ : List Int, y_ = (([a1, a2, a3, a4] : List Int)) := ⟨_, rfl⟩
  replace H : ((impl_areDifferent.f k a0_0 y863).bind fun t866 => (if t866 = true then (if t859.length = 344 then ((impl_chi_isInside.f k t859 a1 a2 a3 a4).bind fun t867 => (some t867)) else (none)) else (some false))) = some r := by first | (rw [hy863]; with_reducible exact H) | (have H2_ := (Option.bind_some _ _).symm.trans H; rw [hy863]; with_reducible exact H2_) | (have H2_ := (Option.bind_some _ _).symm.trans H; with_reducible exact H2_) | with_reducible exact H | (rw [hy863]; exact H) | exact H
  have Ny863 := Aside0.mk hy863
  clear hy863
  obtain ⟨t866, A8, H⟩ := zO H
  by_cases c9 : t866 = true
  ·subst c9
   replace H := (if_pos rfl).symm.trans H
   by_cases c10 : t859.length = 344
   ·rw [if_pos c10] at H
    have c10b0 := eq_true c10
    have c10b1 : decide (t859.length = 344) = true := decide_eq_true c10
    clear c10
    obtain ⟨t867, A11, H⟩ := zO H
    obtain rfl := Option.some.inj H
    go_enter Try.func41, Try.ntmps41
    go_wp2_with (first | ((with_reducible refine gate_dst (N := 5) rfl ?_); (try (refine gate_guard (by rfl) ?_; dsimp only)); refine zBx (N := 5) #[.int .i64 a0_0, .string a0_1] 25 ?_; intro gb858 hg w12 hbox hb; have BK858 := Aside0.mk (hbox); have GW858 := zS hg; have GE858 := zS hg; replace HB := zX hb; clear hb hbox hg; obtain ⟨hcz13_0, hcz13_1, hfz13_0, hfz13_1⟩ := zq2 BK858.out) | ((with_reducible refine gate_callee (f := 105) rfl ?_); refine zD (some 15) Try.func105 #[.agg #[.int .i64 a0_0, .string a0_1]] ?_; (with_reducible refine (impl_orderOf.calls k a0_0 a0_1 t859 true _ A6.out).mono ?_); rintro e w14 ⟨v860, rfl, ho0, hb⟩; refine ⟨_, rfl, ?_⟩; have HO861 := Aside0.mk (Kd.R_lower ho0 (below_size (zG GE858.out))); replace BK858 := zV BK858.out hb; replace HB := zX1 GE858.out hb; (try clear hb); (try clear ho0); obtain ⟨hcz15_0, hcz15_1, hfz15_0, hfz15_1⟩ := zq2 BK858.out) | ((with_reducible refine gate_dst (N := 26) rfl ?_); (try (refine gate_guard (by rfl) ?_; dsimp only)); refine Kd.R_lit (Kd.int .i64) _ 3 ?hg (N := 26) ?hd (xs := ([a1, a2, a3, a4] : List Int)) (inner := [.int .i64 a1, .int .i64 a2, .int .i64 a3, .int .i64 a4]) (ok := fun _ => True) (okp := fun _ => True) ?hr ?hp (fun _ hk => hk) trivial (Below.refl _ _) (Nat.le_refl _) (by simp) ?_; (case hd => rfl); (case hg => rfl); (case hr => first | (go_simp; done) | (go_simp; rfl)); (case hp => exact (Reps.one (show Kd.M (Kd.int .i64) _ _ _ a1 [.int .i64 a1] from rfl) (Reps.one (show Kd.M (Kd.int .i64) _ _ _ a2 [.int .i64 a2] from rfl) (Reps.one (show Kd.M (Kd.int .i64) _ _ _ a3 [.int .i64 a3] from rfl) (Reps.one (show Kd.M (Kd.int .i64) _ _ _ a4 [.int .i64 a4] from rfl) (Reps.none _ _)))))); intro v864 w16 ho17 hb hg_ hnew_; clear hg_ hnew_; (first | rw [← Ny863.out] at ho17 | (simp only [Int.reduceToNat] at ho17; rw [← Ny863.out] at ho17)); replace HO861 := zW HO861.out hb; have HO865 := Aside0.mk (Kd.R_lower ho17 (below_size (zG GE858.out))); replace BK858 := zV BK858.out hb; replace HB := zX1 GE858.out hb; clear hb ho17; obtain ⟨Ao18, co18, eo18⟩ := Kd.R_slice HO865.out; subst eo18) | (go_at_call 95; (with_reducible refine (impl_areDifferent.calls k a0_0 _ _ y863 true _ ?side1 ?side2 A8.out).mono ?_); (case side1 => repeat (first | exact (Kd.R_reads' HO865.out).2.2 | (with_reducible refine Kd.C_alloc ?_ _) | (with_reducible refine Kd.C_drewN ?_ _) | (with_reducible refine Kd.C_drew ?_))); (case side2 => exact (Kd.R_reads' HO865.out).2.1); rintro e w' ⟨rfl, ⟨nd, rfl⟩⟩; obtain ⟨go19, co19, eo19, gb19, gl19, cl19, HG19⟩ := Kd.R_form HO861.out (by have hl_ := Nat.le_of_eq (Eq.symm (zA : t859.length = 344)); omega); (first | cases eo19 | (injection eo19 with ea_ en_ ec_; (first | subst ea_ | (injection ea_ with ea_; subst ea_)); subst ec_; clear en_)); have GB19 := Aside0.mk gb19; have GG19 := Aside0.mk HG19; clear gb19 gl19 HG19) | (go_at_call 115; (with_reducible refine (impl_chi_isInside.calls k _ t859 a1 a2 a3 a4 t867 _ ?side1 ?side2 A11.out).mono ?_); (case side1 => repeat (first | exact (Kd.R_reads' HO861.out).2.2 | (with_reducible refine Kd.C_alloc ?_ _) | (with_reducible refine Kd.C_drewN ?_ _) | (with_reducible refine Kd.C_drew ?_))); (case side2 => exact (zA : t859.length = 344)); rintro e w20 ⟨rfl, hb⟩; replace HO861 := zW HO861.out hb; replace HO865 := zW HO865.out hb; replace BK858 := zV BK858.out hb; replace HB := zX1 GE858.out hb; (try clear hb); (try clear hb2); (try clear hk); (try clear hi)))
    go_ret
    exact ⟨zE, zG GE858.out⟩
   rw [if_neg c10] at H
   exact absurd H (by simp)
  replace c9 := Bool.eq_false_iff.mpr c9
  subst c9
  replace H := (if_neg zFf).symm.trans H
  obtain rfl := Option.some.inj H
  go_enter Try.func41, Try.ntmps41
  go_wp2_with (first | ((with_reducible refine gate_dst (N := 5) rfl ?_); (try (refine gate_guard (by rfl) ?_; dsimp only)); refine zBx (N := 5) #[.int .i64 a0_0, .string a0_1] 25 ?_; intro gb858 hg w21 hbox hb; have BK858 := Aside0.mk (hbox); have GW858 := zS hg; have GE858 := zS hg; replace HB := zX hb; clear hb hbox hg; obtain ⟨hcz22_0, hcz22_1, hfz22_0, hfz22_1⟩ := zq2 BK858.out) | ((with_reducible refine gate_callee (f := 105) rfl ?_); refine zD (some 15) Try.func105 #[.agg #[.int .i64 a0_0, .string a0_1]] ?_; (with_reducible refine (impl_orderOf.calls k a0_0 a0_1 t859 true _ A6.out).mono ?_); rintro e w23 ⟨v860, rfl, ho0, hb⟩; refine ⟨_, rfl, ?_⟩; have HO861 := Aside0.mk (Kd.R_lower ho0 (below_size (zG GE858.out))); replace BK858 := zV BK858.out hb; replace HB := zX1 GE858.out hb; (try clear hb); (try clear ho0); obtain ⟨hcz24_0, hcz24_1, hfz24_0, hfz24_1⟩ := zq2 BK858.out) | ((with_reducible refine gate_dst (N := 26) rfl ?_); (try (refine gate_guard (by rfl) ?_; dsimp only)); refine Kd.R_lit (Kd.int .i64) _ 3 ?hg (N := 26) ?hd (xs := ([a1, a2, a3, a4] : List Int)) (inner := [.int .i64 a1, .int .i64 a2, .int .i64 a3, .int .i64 a4]) (ok := fun _ => True) (okp := fun _ => True) ?hr ?hp (fun _ hk => hk) trivial (Below.refl _ _) (Nat.le_refl _) (by simp) ?_; (case hd => rfl); (case hg => rfl); (case hr => first | (go_simp; done) | (go_simp; rfl)); (case hp => exact (Reps.one (show Kd.M (Kd.int .i64) _ _ _ a1 [.int .i64 a1] from rfl) (Reps.one (show Kd.M (Kd.int .i64) _ _ _ a2 [.int .i64 a2] from rfl) (Reps.one (show Kd.M (Kd.int .i64) _ _ _ a3 [.int .i64 a3] from rfl) (Reps.one (show Kd.M (Kd.int .i64) _ _ _ a4 [.int .i64 a4] from rfl) (Reps.none _ _)))))); intro v864 w25 ho26 hb hg_ hnew_; clear hg_ hnew_; (first | rw [← Ny863.out] at ho26 | (simp only [Int.reduceToNat] at ho26; rw [← Ny863.out] at ho26)); replace HO861 := zW HO861.out hb; have HO865 := Aside0.mk (Kd.R_lower ho26 (below_size (zG GE858.out))); replace BK858 := zV BK858.out hb; replace HB := zX1 GE858.out hb; clear hb ho26; obtain ⟨Ao27, co27, eo27⟩ := Kd.R_slice HO865.out; subst eo27) | (go_at_call 95; (with_reducible refine (impl_areDifferent.calls k a0_0 _ _ y863 false _ ?side1 ?side2 A8.out).mono ?_); (case side1 => repeat (first | exact (Kd.R_reads' HO865.out).2.2 | (with_reducible refine Kd.C_alloc ?_ _) | (with_reducible refine Kd.C_drewN ?_ _) | (with_reducible refine Kd.C_drew ?_))); (case side2 => exact (Kd.R_reads' HO865.out).2.1); rintro e w' ⟨rfl, ⟨nd, rfl⟩⟩))
  go_ret
  exact ⟨zE, zG GE858.out⟩
 replace c7 := Bool.eq_false_iff.mpr c7
 subst c7
 replace H := (if_neg zFf).symm.trans H
 obtain rfl := Option.some.inj H
 go_enter Try.func41, Try.ntmps41
 go_wp2_with (first | ((with_reducible refine gate_dst (N := 5) rfl ?_); (try (refine gate_guard (by rfl) ?_; dsimp only)); refine zBx (N := 5) #[.int .i64 a0_0, .string a0_1] 25 ?_; intro gb858 hg w28 hbox hb; have BK858 := Aside0.mk (hbox); have GW858 := zS hg; have GE858 := zS hg; replace HB := zX hb; clear hb hbox hg; obtain ⟨hcz29_0, hcz29_1, hfz29_0, hfz29_1⟩ := zq2 BK858.out) | ((with_reducible refine gate_callee (f := 105) rfl ?_); refine zD (some 15) Try.func105 #[.agg #[.int .i64 a0_0, .string a0_1]] ?_; (with_reducible refine (impl_orderOf.calls k a0_0 a0_1 t859 false _ A6.out).mono ?_); rintro e w30 ⟨v860, rfl, ho0, hb⟩; refine ⟨_, rfl, ?_⟩; have HO861 := Aside0.mk (Kd.R_lower ho0 (below_size (zG GE858.out))); replace BK858 := zV BK858.out hb; replace HB := zX1 GE858.out hb; (try clear hb); (try clear ho0)))
 go_ret
 exact ⟨zE, zG GE858.out⟩
/-! ### spec_IsInside: function 42 -/
def spec_IsInside.f (k : Nat) (a0_0 : Int) (a0_1 : ByteArray) (a1 : Int) (a2 : Int) (a3 : Int) (a4 : Int) : Option (Bool) := (spec_IsAcyclic.f k a0_0 a0_1).bind fun t869 => (if t869 = true then ((spec_l5Different.f k a0_0 (([a1, a2, a3, a4] : List Int))).bind fun t873 => (if t873 = true then ((spec_l5Inner.f k a0_0 a0_1 (([a1, a2, a3, a4] : List Int))).bind fun t877 => (some (t877 == a1))) else (some false))) else (some false))
set_option maxHeartbeats 8000000 in
set_option maxRecDepth 100000 in
theorem spec_IsInside.calls (k : Nat) (a0_0 : Int) (a0_1 : ByteArray) (a1 : Int) (a2 : Int) (a3 : Int) (a4 : Int) (r : Bool) (w : World) (h : spec_IsInside.f k a0_0 a0_1 a1 a2 a3 a4 = some r) :
  Calls Try.prog 42 #[.agg #[.int .i64 a0_0, .string a0_1], .int .i64 a1, .int .i64 a2, .int .i64 a3, .int .i64 a4] w fun e w' => e = .returned (.bool r) ∧ Below w.heap.size w w' := by
 have hu25 := Try.underlying25
 have HB := Aside0.mk (Below.refl w.heap.size w)
 have H : ((spec_IsAcyclic.f k a0_0 a0_1).bind fun t869 => (if t869 = true then ((spec_l5Different.f k a0_0 (([a1, a2, a3, a4] : List Int))).bind fun t873 => (if t873 = true then ((spec_l5Inner.f k a0_0 a0_1 (([a1, a2, a3, a4] : List Int))).bind fun t877 => (some (t877 == a1))) else (some false))) else (some false))) = some r := h
 clear h
 obtain ⟨t869, A6, H⟩ := zO H
 by_cases c7 : t869 = true
 ·subst c7
  replace H := (if_pos rfl).symm.trans H
  obtain ⟨y870, hy870⟩ : ∃ y_ : List Int, y_ = (([a1, a2, a3, a4] : List Int)) := ⟨_, rfl⟩
  replace H : ((spec_l5Different.f k a0_0 y870).bind fun t873 => (if t873 = true then ((spec_l5Inner.f k a0_0 a0_1 (([a1, a2, a3, a4] : List Int))).bind fun t877 => (some (t877 == a1))) else (some false))) = some r := by first | (rw [hy870]; with_reducible exact H) | (have H2_ := (Option.bind_some _ _).symm.trans H; rw [hy870]; with_reducible exact H2_) | (have H2_ := (Option.bind_some _ _).symm.trans H; with_reducible exact H2_) | with_reducible exact H | (rw [hy870]; exact H) | exact H
  have Ny870 := Aside0.mk hy870
  clear hy870
  obtain ⟨t873, A8, H⟩ := zO H
  by_cases c9 : t873 = true
  ·subst c9
   replace H := (if_pos rfl).symm.trans H
   obtain ⟨y874, hy874⟩ : ∃ y_ : List Int, y_ = (([a1, a2, a3, a4] : List Int)) := ⟨_, rfl⟩
   replace H : ((spec_l5Inner.f k a0_0 a0_1 y874).bind fun t877 => (some (t877 == a1))) = some r := by first | (rw [hy874]; with_reducible exact H) | (have H2_ := (Option.bind_some _ _).symm.trans H; rw [hy874]; with_reducible exact H2_) | (have H2_ := (Option.bind_some _ _).symm.trans H; with_reducible exact H2_) | with_reducible exact H | (rw [hy874]; exact H) | exact H
   have Ny874 := Aside0.mk hy874
   clear hy874
   obtain ⟨t877, A10, H⟩ := zO H
   obtain rfl := Option.some.inj H
   go_enter Try.func42, Try.ntmps42
   go_wp2_with (first | ((with_reducible refine gate_dst (N := 5) rfl ?_); (try (refine gate_guard (by rfl) ?_; dsimp only)); refine zBx (N := 5) #[.int .i64 a0_0, .string a0_1] 25 ?_; intro gb868 hg w11 hbox hb; have BK868 := Aside0.mk (hbox); have GW868 := zS hg; have GE868 := zS hg; replace HB := zX hb; clear hb hbox hg; obtain ⟨hcz12_0, hcz12_1, hfz12_0, hfz12_1⟩ := zq2 BK868.out) | ((with_reducible refine gate_callee (f := 24) rfl ?_); refine zD (some 12) Try.func24 #[.agg #[.int .i64 a0_0, .string a0_1]] ?_; (with_reducible refine (spec_IsAcyclic.calls k a0_0 a0_1 true _ A6.out).mono ?_); rintro e w13 ⟨rfl, hb⟩; refine ⟨_, rfl, ?_⟩; replace BK868 := zV BK868.out hb; replace HB := zX1 GE868.out hb; (try clear hb); obtain ⟨hcz14_0, hcz14_1, hfz14_0, hfz14_1⟩ := zq2 BK868.out) | ((with_reducible refine gate_dst (N := 20) rfl ?_); (try (refine gate_guard (by rfl) ?_; dsimp only)); refine Kd.R_lit (Kd.int .i64) _ 3 ?hg (N := 20) ?hd (xs := ([a1, a2, a3, a4] : List Int)) (inner := [.int .i64 a1, .int .i64 a2, .int .i64 a3, .int .i64 a4]) (ok := fun _ => True) (okp := fun _ => True) ?hr ?hp (fun _ hk => hk) trivial (Below.refl _ _) (Nat.le_refl _) (by simp) ?_; (case hd => rfl); (case hg => rfl); (case hr => first | (go_simp; done) | (go_simp; rfl)); (case hp => exact (Reps.one (show Kd.M (Kd.int .i64) _ _ _ a1 [.int .i64 a1] from rfl) (Reps.one (show Kd.M (Kd.int .i64) _ _ _ a2 [.int .i64 a2] from rfl) (Reps.one (show Kd.M (Kd.int .i64) _ _ _ a3 [.int .i64 a3] from rfl) (Reps.one (show Kd.M (Kd.int .i64) _ _ _ a4 [.int .i64 a4] from rfl) (Reps.none _ _)))))); intro v871 w15 ho16 hb hg_ hnew_; clear hg_ hnew_; (first | rw [← Ny870.out] at ho16 | (simp only [Int.reduceToNat] at ho16; rw [← Ny870.out] at ho16)); have HO872 := Aside0.mk (Kd.R_lower ho16 (below_size (zG GE868.out))); replace BK868 := zV BK868.out hb; replace HB := zX1 GE868.out hb; clear hb ho16; obtain ⟨Ao17, co17, eo17⟩ := Kd.R_slice HO872.out; subst eo17) | (go_at_call 107; (with_reducible refine (spec_l5Different.calls k a0_0 _ _ y870 true _ ?side1 ?side2 A8.out).mono ?_); (case side1 => repeat (first | exact (Kd.R_reads' HO872.out).2.2 | (with_reducible refine Kd.C_alloc ?_ _) | (with_reducible refine Kd.C_drewN ?_ _) | (with_reducible refine Kd.C_drew ?_))); (case side2 => exact (Kd.R_reads' HO872.out).2.1); rintro e w' ⟨rfl, ⟨nd, rfl⟩⟩; obtain ⟨hcz18_0, hcz18_1, hfz18_0, hfz18_1⟩ := zq2 BK868.out) | ((with_reducible refine gate_dst (N := 29) rfl ?_); (try (refine gate_guard (by rfl) ?_; dsimp only)); refine Kd.R_lit (Kd.int .i64) _ 3 ?hg (N := 29) ?hd (xs := ([a1, a2, a3, a4] : List Int)) (inner := [.int .i64 a1, .int .i64 a2, .int .i64 a3, .int .i64 a4]) (ok := fun _ => True) (okp := fun _ => True) ?hr ?hp (fun _ hk => hk) trivial (Below.refl _ _) (Nat.le_refl _) (by simp) ?_; (case hd => rfl); (case hg => rfl); (case hr => first | (go_simp; done) | (go_simp; rfl)); (case hp => exact (Reps.one (show Kd.M (Kd.int .i64) _ _ _ a1 [.int .i64 a1] from rfl) (Reps.one (show Kd.M (Kd.int .i64) _ _ _ a2 [.int .i64 a2] from rfl) (Reps.one (show Kd.M (Kd.int .i64) _ _ _ a3 [.int .i64 a3] from rfl) (Reps.one (show Kd.M (Kd.int .i64) _ _ _ a4 [.int .i64 a4] from rfl) (Reps.none _ _)))))); intro v875 w19 ho20 hb hg_ hnew_; clear hg_ hnew_; (first | rw [← Ny874.out] at ho20 | (simp only [Int.reduceToNat] at ho20; rw [← Ny874.out] at ho20)); have HO876 := Aside0.mk (Kd.R_lower (Kd.R_new' ho20 (Kd.R_lt (zR HO872.out))) (below_size (zG GE868.out))); replace HO872 := Aside0.mk (Kd.R_elder' (zR HO872.out) (Kd.R_base ho20) hb); replace BK868 := zV BK868.out hb; replace HB := zX1 GE868.out hb; clear hb ho20; obtain ⟨Ao21, co21, eo21⟩ := Kd.R_slice HO876.out; subst eo21) | (go_at_call 114; (with_reducible refine (spec_l5Inner.calls k a0_0 a0_1 _ _ y874 t877 _ ?side1 ?side2 A10.out).mono ?_); (case side1 => repeat (first | exact (Kd.R_reads' HO876.out).2.2 | (with_reducible refine Kd.C_alloc ?_ _) | (with_reducible refine Kd.C_drewN ?_ _) | (with_reducible refine Kd.C_drew ?_))); (case side2 => exact (Kd.R_reads' HO876.out).2.1); rintro e w22 ⟨rfl, hb⟩; replace HO872 := zW HO872.out hb; replace HO876 := zW HO876.out hb; replace BK868 := zV BK868.out hb; replace HB := zX1 GE868.out hb; (try clear hb); (try clear hb2); (try clear hk); (try clear hi)))
   go_ret
   exact ⟨zE, zG GE868.out⟩
  replace c9 := Bool.eq_false_iff.mpr c9
  subst c9
  replace H := (if_neg zFf).symm.trans H
  obtain rfl := Option.some.inj H
  go_enter Try.func42, Try.ntmps42
  go_wp2_with (first | ((with_reducible refine gate_dst (N := 5) rfl ?_); (try (refine gate_guard (by rfl) ?_; dsimp only)); refine zBx (N := 5) #[.int .i64 a0_0, .string a0_1] 25 ?_; intro gb868 hg w23 hbox hb; have BK868 := Aside0.mk (hbox); have GW868 := zS hg; have GE868 := zS hg; replace HB := zX hb; clear hb hbox hg; obtain ⟨hcz24_0, hcz24_1, hfz24_0, hfz24_1⟩ := zq2 BK868.out) | ((with_reducible refine gate_callee (f := 24) rfl ?_); refine zD (some 12) Try.func24 #[.agg #[.int .i64 a0_0, .string a0_1]] ?_; (with_reducible refine (spec_IsAcyclic.calls k a0_0 a0_1 true _ A6.out).mono ?_); rintro e w25 ⟨rfl, hb⟩; refine ⟨_, rfl, ?_⟩; replace BK868 := zV BK868.out hb; replace HB := zX1 GE868.out hb; (try clear hb); obtain ⟨hcz26_0, hcz26_1, hfz26_0, hfz26_1⟩ := zq2 BK868.out) | ((with_reducible refine gate_dst (N := 20) rfl ?_); (try (refine gate_guard (by rfl) ?_; dsimp only)); refine Kd.R_lit (Kd.int .i64) _ 3 ?hg (N := 20) ?hd (xs := ([a1, a2, a3, a4] : List Int)) (inner := [.int .i64 a1, .int .i64 a2, .int .i64 a3, .int .i64 a4]) (ok := fun _ => True) (okp := fun _ => True) ?hr ?hp (fun _ hk => hk) trivial (Below.refl _ _) (Nat.le_refl _) (by simp) ?_; (case hd => rfl); (case hg => rfl); (case hr => first | (go_simp; done) | (go_simp; rfl)); (case hp => exact (Reps.one (show Kd.M (Kd.int .i64) _ _ _ a1 [.int .i64 a1] from rfl) (Reps.one (show Kd.M (Kd.int .i64) _ _ _ a2 [.int .i64 a2] from rfl) (Reps.one (show Kd.M (Kd.int .i64) _ _ _ a3 [.int .i64 a3] from rfl) (Reps.one (show Kd.M (Kd.int .i64) _ _ _ a4 [.int .i64 a4] from rfl) (Reps.none _ _)))))); intro v871 w27 ho28 hb hg_ hnew_; clear hg_ hnew_; (first | rw [← Ny870.out] at ho28 | (simp only [Int.reduceToNat] at ho28; rw [← Ny870.out] at ho28)); have HO872 := Aside0.mk (Kd.R_lower ho28 (below_size (zG GE868.out))); replace BK868 := zV BK868.out hb; replace HB := zX1 GE868.out hb; clear hb ho28; obtain ⟨Ao29, co29, eo29⟩ := Kd.R_slice HO872.out; subst eo29) | (go_at_call 107; (with_reducible refine (spec_l5Different.calls k a0_0 _ _ y870 false _ ?side1 ?side2 A8.out).mono ?_); (case side1 => repeat (first | exact (Kd.R_reads' HO872.out).2.2 | (with_reducible refine Kd.C_alloc ?_ _) | (with_reducible refine Kd.C_drewN ?_ _) | (with_reducible refine Kd.C_drew ?_))); (case side2 => exact (Kd.R_reads' HO872.out).2.1); rintro e w' ⟨rfl, ⟨nd, rfl⟩⟩))
  go_ret
  exact ⟨zE, zG GE868.out⟩
 replace c7 := Bool.eq_false_iff.mpr c7
 subst c7
 replace H := (if_neg zFf).symm.trans H
 obtain rfl := Option.some.inj H
 go_enter Try.func42, Try.ntmps42
 go_wp2_with (first | ((with_reducible refine gate_dst (N := 5) rfl ?_); (try (refine gate_guard (by rfl) ?_; dsimp only)); refine zBx (N := 5) #[.int .i64 a0_0, .string a0_1] 25 ?_; intro gb868 hg w30 hbox hb; have BK868 := Aside0.mk (hbox); have GW868 := zS hg; have GE868 := zS hg; replace HB := zX hb; clear hb hbox hg; obtain ⟨hcz31_0, hcz31_1, hfz31_0, hfz31_1⟩ := zq2 BK868.out) | ((with_reducible refine gate_callee (f := 24) rfl ?_); refine zD (some 12) Try.func24 #[.agg #[.int .i64 a0_0, .string a0_1]] ?_; (with_reducible refine (spec_IsAcyclic.calls k a0_0 a0_1 false _ A6.out).mono ?_); rintro e w32 ⟨rfl, hb⟩; refine ⟨_, rfl, ?_⟩; replace BK868 := zV BK868.out hb; replace HB := zX1 GE868.out hb; (try clear hb)))
 go_ret
 exact ⟨zE, zG GE868.out⟩
/-! ### impl_chi_countInside: function 116 -/
def impl_chi_countInside.l0 : Nat → List Int → Int → Int → Int → Int → Int → Option (Int)
 | 0, _, _, _, _, _, _ => none
 | k + 1, x0, x1, x2, x3, x9, x10 => if x10 < (rd x0 0) then (if x10 = x1 then (impl_chi_countInside.l0 k x0 x1 x2 x3 x9 (wrap64 (x10 + 1))) else (if x10 = x2 then (impl_chi_countInside.l0 k x0 x1 x2 x3 x9 (wrap64 (x10 + 1))) else (if x10 = x3 then (impl_chi_countInside.l0 k x0 x1 x2 x3 x9 (wrap64 (x10 + 1))) else ((impl_chi_isInside.f k x0 x10 x1 x2 x3).bind fun t879 => (if t879 = true then (impl_chi_countInside.l0 k x0 x1 x2 x3 (wrap64 (x9 + 1)) (wrap64 (x10 + 1))) else (impl_chi_countInside.l0 k x0 x1 x2 x3 x9 (wrap64 (x10 + 1)))))))) else (some x9)
def impl_chi_countInside.f (k : Nat) (l0 : List Int) (a1 : Int) (a2 : Int) (a3 : Int) : Option (Int) := impl_chi_countInside.l0 k l0 a1 a2 a3 0 0
set_option maxHeartbeats 8000000 in
set_option maxRecDepth 100000 in
theorem impl_chi_countInside.calls (k : Nat) (g0 : Nat) (l0 : List Int) (a1 : Int) (a2 : Int) (a3 : Int) (r : Int) (w : World) (hr0 : Kd.C (Kd.int .i64) w (some ⟨g0, 0, none⟩) l0.length l0) (hc0 : l0.length = 344) (h : impl_chi_countInside.f k l0 a1 a2 a3 = some r) :
  Calls Try.prog 116 #[.pointer (some ⟨g0, 0, none⟩), .int .i64 a1, .int .i64 a2, .int .i64 a3] w fun e w' => e = .returned (.int .i64 r) ∧ Below w.heap.size w w' := by
 have hu115 := Try.underlying115
 have HR0 := Aside0.mk hr0
 have HC0 := Aside0.mk hc0
 clear hr0 hc0
 have HB := Aside0.mk (Below.refl w.heap.size w)
 have H : (impl_chi_countInside.l0 k l0 a1 a2 a3 0 0) = some r := h
 clear h
 have H' := Aside0.mk H; clear H
 go_enter Try.func116, Try.ntmps116
 go_wp2
 go_loopg [9, 10] k (fun kq v9 v10 w' => ∃ (x9_1 : Int) (x10_1 : Int), v9 = .int .i64 x9_1 ∧ v10 = .int .i64 x10_1 ∧ Aside0 (impl_chi_countInside.l0 kq l0 a1 a2 a3 x9_1 x10_1 = some r) ∧ Aside0 (kq ≤ k) ∧ Aside0 (Below w.heap.size w w'))
 case atStart => exact ⟨(0), (0), zF, zF, H', ⟨Nat.le_refl _⟩, ⟨zB⟩⟩
 case round =>
 clear H'
 obtain ⟨x9_1, x10_1, rfl, rfl, HA, HK1, HB⟩ := hrel
 cases gk with
 | zero => exact absurd HA.out (by simp [impl_chi_countInside.l0])
 | succ k1 =>
 have H := HA.out
 clear HA
 simp only [impl_chi_countInside.l0] at H
 by_cases c5 : x10_1 < (rd l0 0)
 ·rw [if_pos c5] at H
  have c5b0 : decide (x10_1 < (rd l0 0)) = true := decide_eq_true c5
  clear c5
  by_cases c6 : x10_1 = a1
  ·rw [if_pos c6] at H
   have c6b0 : (x10_1 == a1) = true := beq_iff_eq.mpr c6
   have c6b1 : (x10_1 != a1) = false := bne_eq_false_iff_eq.mpr c6
   clear c6
   have H' := Aside0.mk H; clear H
   have hL878 := HC0.out
   have dq878 : decide (0 < (l0.length : Int)) = true := decide_eq_true (by omega)
   clear hL878
   have p878 : 0 ≤ (0 : Int) := (by omega)
   have q878 : 0 < (l0.length : Int) := zA
   obtain ⟨ad878, e878, hx878_0⟩ := Kd.at_int HR0.out 0 p878 q878
   obtain rfl : (⟨g0, 0, none⟩ : Addr) = ad878 := (by injection e878)
   (first | simp only [add_plain] at hx878_0 | simp only [add_at] at hx878_0 | simp only [Addr.add, Nat.zero_add] at hx878_0 | skip)
   have qi878 : (0 < l0.length) = True := eq_true (by omega)
   (try rw [show ((0 : Int)).toNat = 0 from rfl] at hx878_0)
   (try rw [Addr.add_zero'] at hx878_0)
   replace hx878_0 := (HB.out.cell (World.block_lt_of_cell? w _ hx878_0)).trans hx878_0
   replace p878 := eq_true p878
   replace q878 := eq_true q878
   clear dq878
   go_wp2
   go_roundg k1
   case measure => have := HK1.out; omega
   case rel => exact ⟨(x9_1), (wrap64 (x10_1 + 1)), zF, zF, H', ⟨by have := HK1.out; omega⟩, ⟨zB⟩⟩
  rw [if_neg c6] at H
  have c6b0 : (x10_1 == a1) = false := beq_eq_false_iff_ne.mpr c6
  have c6b1 : (x10_1 != a1) = true := bne_iff_ne.mpr c6
  by_cases c7 : x10_1 = a2
  ·rw [if_pos c7] at H
   have c7b0 : (x10_1 == a2) = true := beq_iff_eq.mpr c7
   have c7b1 : (x10_1 != a2) = false := bne_eq_false_iff_eq.mpr c7
   clear c7
   have H' := Aside0.mk H; clear H
   have hL878 := HC0.out
   have dq878 : decide (0 < (l0.length : Int)) = true := decide_eq_true (by omega)
   clear hL878
   have p878 : 0 ≤ (0 : Int) := (by omega)
   have q878 : 0 < (l0.length : Int) := zA
   obtain ⟨ad878, e878, hx878_0⟩ := Kd.at_int HR0.out 0 p878 q878
   obtain rfl : (⟨g0, 0, none⟩ : Addr) = ad878 := (by injection e878)
   (first | simp only [add_plain] at hx878_0 | simp only [add_at] at hx878_0 | simp only [Addr.add, Nat.zero_add] at hx878_0 | skip)
   have qi878 : (0 < l0.length) = True := eq_true (by omega)
   (try rw [show ((0 : Int)).toNat = 0 from rfl] at hx878_0)
   (try rw [Addr.add_zero'] at hx878_0)
   replace hx878_0 := (HB.out.cell (World.block_lt_of_cell? w _ hx878_0)).trans hx878_0
   replace p878 := eq_true p878
   replace q878 := eq_true q878
   clear dq878
   go_wp2
   go_roundg k1
   case measure => have := HK1.out; omega
   case rel => exact ⟨(x9_1), (wrap64 (x10_1 + 1)), zF, zF, H', ⟨by have := HK1.out; omega⟩, ⟨zB⟩⟩
  rw [if_neg c7] at H
  have c7b0 : (x10_1 == a2) = false := beq_eq_false_iff_ne.mpr c7
  have c7b1 : (x10_1 != a2) = true := bne_iff_ne.mpr c7
  by_cases c8 : x10_1 = a3
  ·rw [if_pos c8] at H
   have c8b0 : (x10_1 == a3) = true := beq_iff_eq.mpr c8
   have c8b1 : (x10_1 != a3) = false := bne_eq_false_iff_eq.mpr c8
   clear c8
   have H' := Aside0.mk H; clear H
   have hL878 := HC0.out
   have dq878 : decide (0 < (l0.length : Int)) = true := decide_eq_true (by omega)
   clear hL878
   have p878 : 0 ≤ (0 : Int) := (by omega)
   have q878 : 0 < (l0.length : Int) := zA
   obtain ⟨ad878, e878, hx878_0⟩ := Kd.at_int HR0.out 0 p878 q878
   obtain rfl : (⟨g0, 0, none⟩ : Addr) = ad878 := (by injection e878)
   (first | simp only [add_plain] at hx878_0 | simp only [add_at] at hx878_0 | simp only [Addr.add, Nat.zero_add] at hx878_0 | skip)
   have qi878 : (0 < l0.length) = True := eq_true (by omega)
   (try rw [show ((0 : Int)).toNat = 0 from rfl] at hx878_0)
   (try rw [Addr.add_zero'] at hx878_0)
   replace hx878_0 := (HB.out.cell (World.block_lt_of_cell? w _ hx878_0)).trans hx878_0
   replace p878 := eq_true p878
   replace q878 := eq_true q878
   clear dq878
   go_wp2
   go_roundg k1
   case measure => have := HK1.out; omega
   case rel => exact ⟨(x9_1), (wrap64 (x10_1 + 1)), zF, zF, H', ⟨by have := HK1.out; omega⟩, ⟨zB⟩⟩
  rw [if_neg c8] at H
  have c8b0 : (x10_1 == a3) = false := beq_eq_false_iff_ne.mpr c8
  have c8b1 : (x10_1 != a3) = true := bne_iff_ne.mpr c8
  obtain ⟨t879, A9, H⟩ := zO H
  by_cases c10 : t879 = true
  ·subst c10
   replace H := (if_pos rfl).symm.trans H
   have H' := Aside0.mk H; clear H
   have hL878 := HC0.out
   have dq878 : decide (0 < (l0.length : Int)) = true := decide_eq_true (by omega)
   clear hL878
   have p878 : 0 ≤ (0 : Int) := (by omega)
   have q878 : 0 < (l0.length : Int) := zA
   obtain ⟨ad878, e878, hx878_0⟩ := Kd.at_int HR0.out 0 p878 q878
   obtain rfl : (⟨g0, 0, none⟩ : Addr) = ad878 := (by injection e878)
   (first | simp only [add_plain] at hx878_0 | simp only [add_at] at hx878_0 | simp only [Addr.add, Nat.zero_add] at hx878_0 | skip)
   have qi878 : (0 < l0.length) = True := eq_true (by omega)
   (try rw [show ((0 : Int)).toNat = 0 from rfl] at hx878_0)
   (try rw [Addr.add_zero'] at hx878_0)
   replace hx878_0 := (HB.out.cell (World.block_lt_of_cell? w _ hx878_0)).trans hx878_0
   replace p878 := eq_true p878
   replace q878 := eq_true q878
   clear dq878
   go_wp2_with (first | (go_at_call 115; (with_reducible refine (impl_chi_isInside.calls k1 _ l0 x10_1 a1 a2 a3 true _ ?side1 ?side2 A9.out).mono ?_); (case side1 => repeat (first | exact (Kd.C_below HR0.out HB.out) | (with_reducible refine Kd.C_alloc ?_ _) | (with_reducible refine Kd.C_drewN ?_ _) | (with_reducible refine Kd.C_drew ?_))); (case side2 => exact HC0.out); rintro e w11 ⟨rfl, hb⟩; replace HB := zX hb; (try clear hb); (try clear hb2); (try clear hk); (try clear hi)))
   go_roundg k1
   case measure => have := HK1.out; omega
   case rel => exact ⟨(wrap64 (x9_1 + 1)), (wrap64 (x10_1 + 1)), zF, zF, H', ⟨by have := HK1.out; omega⟩, ⟨zB⟩⟩
  replace c10 := Bool.eq_false_iff.mpr c10
  subst c10
  replace H := (if_neg zFf).symm.trans H
  have H' := Aside0.mk H; clear H
  have hL878 := HC0.out
  have dq878 : decide (0 < (l0.length : Int)) = true := decide_eq_true (by omega)
  clear hL878
  have p878 : 0 ≤ (0 : Int) := (by omega)
  have q878 : 0 < (l0.length : Int) := zA
  obtain ⟨ad878, e878, hx878_0⟩ := Kd.at_int HR0.out 0 p878 q878
  obtain rfl : (⟨g0, 0, none⟩ : Addr) = ad878 := (by injection e878)
  (first | simp only [add_plain] at hx878_0 | simp only [add_at] at hx878_0 | simp only [Addr.add, Nat.zero_add] at hx878_0 | skip)
  have qi878 : (0 < l0.length) = True := eq_true (by omega)
  (try rw [show ((0 : Int)).toNat = 0 from rfl] at hx878_0)
  (try rw [Addr.add_zero'] at hx878_0)
  replace hx878_0 := (HB.out.cell (World.block_lt_of_cell? w _ hx878_0)).trans hx878_0
  replace p878 := eq_true p878
  replace q878 := eq_true q878
  clear dq878
  go_wp2_with (first | (go_at_call 115; (with_reducible refine (impl_chi_isInside.calls k1 _ l0 x10_1 a1 a2 a3 false _ ?side1 ?side2 A9.out).mono ?_); (case side1 => repeat (first | exact (Kd.C_below HR0.out HB.out) | (with_reducible refine Kd.C_alloc ?_ _) | (with_reducible refine Kd.C_drewN ?_ _) | (with_reducible refine Kd.C_drew ?_))); (case side2 => exact HC0.out); rintro e w12 ⟨rfl, hb⟩; replace HB := zX hb; (try clear hb); (try clear hb2); (try clear hk); (try clear hi)))
  go_roundg k1
  case measure => have := HK1.out; omega
  case rel => exact ⟨(x9_1), (wrap64 (x10_1 + 1)), zF, zF, H', ⟨by have := HK1.out; omega⟩, ⟨zB⟩⟩
 rw [if_neg c5] at H
 have c5b0 : decide (x10_1 < (rd l0 0)) = false := decide_eq_false c5
 clear c5
 obtain rfl := Option.some.inj H
 have hL878 := HC0.out
 have dq878 : decide (0 < (l0.length : Int)) = true := decide_eq_true (by omega)
 clear hL878
 have p878 : 0 ≤ (0 : Int) := (by omega)
 have q878 : 0 < (l0.length : Int) := zA
 obtain ⟨ad878, e878, hx878_0⟩ := Kd.at_int HR0.out 0 p878 q878
 obtain rfl : (⟨g0, 0, none⟩ : Addr) = ad878 := (by injection e878)
 (first | simp only [add_plain] at hx878_0 | simp only [add_at] at hx878_0 | simp only [Addr.add, Nat.zero_add] at hx878_0 | skip)
 have qi878 : (0 < l0.length) = True := eq_true (by omega)
 (try rw [show ((0 : Int)).toNat = 0 from rfl] at hx878_0)
 (try rw [Addr.add_zero'] at hx878_0)
 replace hx878_0 := (HB.out.cell (World.block_lt_of_cell? w _ hx878_0)).trans hx878_0
 replace p878 := eq_true p878
 replace q878 := eq_true q878
 clear dq878
 go_wp2
 go_ret
 exact ⟨zE, zB⟩
/-! ### impl_CountInside: function 43 -/
def impl_CountInside.f (k : Nat) (a0_0 : Int) (a0_1 : ByteArray) (a1 : Int) (a2 : Int) (a3 : Int) : Option (Int) := (impl_orderOf.f k a0_0 a0_1).bind fun bt881 => (if bt881.2 = true then ((impl_areDifferent.f k a0_0 (([a1, a2, a3] : List Int))).bind fun t888 => (if t888 = true then (if bt881.1.length = 344 then ((impl_chi_countInside.f k bt881.1 a1 a2 a3).bind fun t889 => (some t889)) else (none)) else (some (-1)))) else (some (-1)))
set_option maxHeartbeats 8000000 in
set_option maxRecDepth 100000 in
theorem impl_CountInside.calls (k : Nat) (a0_0 : Int) (a0_1 : ByteArray) (a1 : Int) (a2 : Int) (a3 : Int) (r : Int) (w : World) (h : impl_CountInside.f k a0_0 a0_1 a1 a2 a3 = some r) :
  Calls Try.prog 43 #[.agg #[.int .i64 a0_0, .string a0_1], .int .i64 a1, .int .i64 a2, .int .i64 a3] w fun e w' => e = .returned (.int .i64 r) ∧ Below w.heap.size w w' := by
 have hu25 := Try.underlying25
 have HB := Aside0.mk (Below.refl w.heap.size w)
 have H : ((impl_orderOf.f k a0_0 a0_1).bind fun bt881 => (if bt881.2 = true then ((impl_areDifferent.f k a0_0 (([a1, a2, a3] : List Int))).bind fun t888 => (if t888 = true then (if bt881.1.length = 344 then ((impl_chi_countInside.f k bt881.1 a1 a2 a3).bind fun t889 => (some t889)) else (none)) else (some (-1)))) else (some (-1)))) = some r := h
 clear h
 obtain ⟨⟨t881, t884⟩, A5, H⟩ := zO H
 dsimp only at H
 by_cases c6 : t884 = true
 ·subst c6
  replace H := (if_pos rfl).symm.trans H
  obtain ⟨y885, hy885⟩ : ∃ y_ : List Int, y_ = (([a1, a2, a3] : List Int)) := ⟨_, rfl⟩
  replace H : ((impl_areDifferent.f k a0_0 y885).bind fun t888 => (if t888 = true then (if t881.length = 344 then ((impl_chi_countInside.f k t881 a1 a2 a3).bind fun t889 => (some t889)) else (none)) else (some (-1)))) = some r := by first | (rw [hy885]; with_reducible exact H) | (have H2_ := (Option.bind_some _ _).symm.trans H; rw [hy885]; with_reducible exact H2_) | (have H2_ := (Option.bind_some _ _).symm.trans H; with_reducible exact H2_) | with_reducible exact H | (rw [hy885]; exact H) | exact H
  have Ny885 := Aside0.mk hy885
  clear hy885
  obtain ⟨t888, A7, H⟩ := zO H
  by_cases c8 : t888 = true
  ·subst c8
   replace H := (if_pos rfl).symm.trans H
   by_cases c9 : t881.length = 344
   ·rw [if_pos c9] at H
    have c9b0 := eq_true c9
    have c9b1 : decide (t881.length = 344) = true := decide_eq_true c9
    clear c9
    obtain ⟨t889, A10, H⟩ := zO H
    obtain rfl := Option.some.inj H
    go_enter Try.func43, Try.ntmps43
    go_wp2_with (first | ((with_reducible refine gate_dst (N := 4) rfl ?_); (try (refine gate_guard (by rfl) ?_; dsimp only)); refine zBx (N := 4) #[.int .i64 a0_0, .string a0_1] 25 ?_; intro gb880 hg w11 hbox hb; have BK880 := Aside0.mk (hbox); have GW880 := zS hg; have GE880 := zS hg; replace HB := zX hb; clear hb hbox hg; obtain ⟨hcz12_0, hcz12_1, hfz12_0, hfz12_1⟩ := zq2 BK880.out) | ((with_reducible refine gate_callee (f := 105) rfl ?_); refine zD (some 13) Try.func105 #[.agg #[.int .i64 a0_0, .string a0_1]] ?_; (with_reducible refine (impl_orderOf.calls k a0_0 a0_1 t881 true _ A5.out).mono ?_); rintro e w13 ⟨v882, rfl, ho0, hb⟩; refine ⟨_, rfl, ?_⟩; have HO883 := Aside0.mk (Kd.R_lower ho0 (below_size (zG GE880.out))); replace BK880 := zV BK880.out hb; replace HB := zX1 GE880.out hb; (try clear hb); (try clear ho0); obtain ⟨hcz14_0, hcz14_1, hfz14_0, hfz14_1⟩ := zq2 BK880.out) | ((with_reducible refine gate_dst (N := 24) rfl ?_); (try (refine gate_guard (by rfl) ?_; dsimp only)); refine Kd.R_lit (Kd.int .i64) _ 3 ?hg (N := 24) ?hd (xs := ([a1, a2, a3] : List Int)) (inner := [.int .i64 a1, .int .i64 a2, .int .i64 a3]) (ok := fun _ => True) (okp := fun _ => True) ?hr ?hp (fun _ hk => hk) trivial (Below.refl _ _) (Nat.le_refl _) (by simp) ?_; (case hd => rfl); (case hg => rfl); (case hr => first | (go_simp; done) | (go_simp; rfl)); (case hp => exact (Reps.one (show Kd.M (Kd.int .i64) _ _ _ a1 [.int .i64 a1] from rfl) (Reps.one (show Kd.M (Kd.int .i64) _ _ _ a2 [.int .i64 a2] from rfl) (Reps.one (show Kd.M (Kd.int .i64) _ _ _ a3 [.int .i64 a3] from rfl) (Reps.none _ _))))); intro v886 w15 ho16 hb hg_ hnew_; clear hg_ hnew_; (first | rw [← Ny885.out] at ho16 | (simp only [Int.reduceToNat] at ho16; rw [← Ny885.out] at ho16)); replace HO883 := zW HO883.out hb; have HO887 := Aside0.mk (Kd.R_lower ho16 (below_size (zG GE880.out))); replace BK880 := zV BK880.out hb; replace HB := zX1 GE880.out hb; clear hb ho16; obtain ⟨Ao17, co17, eo17⟩ := Kd.R_slice HO887.out; subst eo17) | (go_at_call 95; (with_reducible refine (impl_areDifferent.calls k a0_0 _ _ y885 true _ ?side1 ?side2 A7.out).mono ?_); (case side1 => repeat (first | exact (Kd.R_reads' HO887.out).2.2 | (with_reducible refine Kd.C_alloc ?_ _) | (with_reducible refine Kd.C_drewN ?_ _) | (with_reducible refine Kd.C_drew ?_))); (case side2 => exact (Kd.R_reads' HO887.out).2.1); rintro e w' ⟨rfl, ⟨nd, rfl⟩⟩; obtain ⟨go18, co18, eo18, gb18, gl18, cl18, HG18⟩ := Kd.R_form HO883.out (by have hl_ := Nat.le_of_eq (Eq.symm (zA : t881.length = 344)); omega); (first | cases eo18 | (injection eo18 with ea_ en_ ec_; (first | subst ea_ | (injection ea_ with ea_; subst ea_)); subst ec_; clear en_)); have GB18 := Aside0.mk gb18; have GG18 := Aside0.mk HG18; clear gb18 gl18 HG18) | ((with_reducible refine gate_callee (f := 116) rfl ?_); refine zD (some 32) Try.func116 #[.pointer (some ⟨go18, 0, none⟩), .int .i64 a1, .int .i64 a2, .int .i64 a3] ?_; (with_reducible refine (impl_chi_countInside.calls k _ t881 a1 a2 a3 t889 _ ?side1 ?side2 A10.out).mono ?_); (case side1 => repeat (first | exact (Kd.R_reads' HO883.out).2.2 | (with_reducible refine Kd.C_alloc ?_ _) | (with_reducible refine Kd.C_drewN ?_ _) | (with_reducible refine Kd.C_drew ?_))); (case side2 => exact (zA : t881.length = 344)); rintro e w19 ⟨rfl, hb⟩; refine ⟨_, rfl, ?_⟩; replace HO883 := zW HO883.out hb; replace HO887 := zW HO887.out hb; replace BK880 := zV BK880.out hb; replace HB := zX1 GE880.out hb; (try clear hb)))
    go_ret
    exact ⟨zE, zG GE880.out⟩
   rw [if_neg c9] at H
   exact absurd H (by simp)
  replace c8 := Bool.eq_false_iff.mpr c8
  subst c8
  replace H := (if_neg zFf).symm.trans H
  obtain rfl := Option.some.inj H
  go_enter Try.func43, Try.ntmps43
  go_wp2_with (first | ((with_reducible refine gate_dst (N := 4) rfl ?_); (try (refine gate_guard (by rfl) ?_; dsimp only)); refine zBx (N := 4) #[.int .i64 a0_0, .string a0_1] 25 ?_; intro gb880 hg w20 hbox hb; have BK880 := Aside0.mk (hbox); have GW880 := zS hg; have GE880 := zS hg; replace HB := zX hb; clear hb hbox hg; obtain ⟨hcz21_0, hcz21_1, hfz21_0, hfz21_1⟩ := zq2 BK880.out) | ((with_reducible refine gate_callee (f := 105) rfl ?_); refine zD (some 13) Try.func105 #[.agg #[.int .i64 a0_0, .string a0_1]] ?_; (with_reducible refine (impl_orderOf.calls k a0_0 a0_1 t881 true _ A5.out).mono ?_); rintro e w22 ⟨v882, rfl, ho0, hb⟩; refine ⟨_, rfl, ?_⟩; have HO883 := Aside0.mk (Kd.R_lower ho0 (below_size (zG GE880.out))); replace BK880 := zV BK880.out hb; replace HB := zX1 GE880.out hb; (try clear hb); (try clear ho0); obtain ⟨hcz23_0, hcz23_1, hfz23_0, hfz23_1⟩ := zq2 BK880.out) | ((with_reducible refine gate_dst (N := 24) rfl ?_); (try (refine gate_guard (by rfl) ?_; dsimp only)); refine Kd.R_lit (Kd.int .i64) _ 3 ?hg (N := 24) ?hd (xs := ([a1, a2, a3] : List Int)) (inner := [.int .i64 a1, .int .i64 a2, .int .i64 a3]) (ok := fun _ => True) (okp := fun _ => True) ?hr ?hp (fun _ hk => hk) trivial (Below.refl _ _) (Nat.le_refl _) (by simp) ?_; (case hd => rfl); (case hg => rfl); (case hr => first | (go_simp; done) | (go_simp; rfl)); (case hp => exact (Reps.one (show Kd.M (Kd.int .i64) _ _ _ a1 [.int .i64 a1] from rfl) (Reps.one (show Kd.M (Kd.int .i64) _ _ _ a2 [.int .i64 a2] from rfl) (Reps.one (show Kd.M (Kd.int .i64) _ _ _ a3 [.int .i64 a3] from rfl) (Reps.none _ _))))); intro v886 w24 ho25 hb hg_ hnew_; clear hg_ hnew_; (first | rw [← Ny885.out] at ho25 | (simp only [Int.reduceToNat] at ho25; rw [← Ny885.out] at ho25)); replace HO883 := zW HO883.out hb; have HO887 := Aside0.mk (Kd.R_lower ho25 (below_size (zG GE880.out))); replace BK880 := zV BK880.out hb; replace HB := zX1 GE880.out hb; clear hb ho25; obtain ⟨Ao26, co26, eo26⟩ := Kd.R_slice HO887.out; subst eo26) | (go_at_call 95; (with_reducible refine (impl_areDifferent.calls k a0_0 _ _ y885 false _ ?side1 ?side2 A7.out).mono ?_); (case side1 => repeat (first | exact (Kd.R_reads' HO887.out).2.2 | (with_reducible refine Kd.C_alloc ?_ _) | (with_reducible refine Kd.C_drewN ?_ _) | (with_reducible refine Kd.C_drew ?_))); (case side2 => exact (Kd.R_reads' HO887.out).2.1); rintro e w' ⟨rfl, ⟨nd, rfl⟩⟩))
  go_ret
  exact ⟨zE, zG GE880.out⟩
 replace c6 := Bool.eq_false_iff.mpr c6
 subst c6
 replace H := (if_neg zFf).symm.trans H
 obtain rfl := Option.some.inj H
 go_enter Try.func43, Try.ntmps43
 go_wp2_with (first | ((with_reducible refine gate_dst (N := 4) rfl ?_); (try (refine gate_guard (by rfl) ?_; dsimp only)); refine zBx (N := 4) #[.int .i64 a0_0, .string a0_1] 25 ?_; intro gb880 hg w27 hbox hb; have BK880 := Aside0.mk (hbox); have GW880 := zS hg; have GE880 := zS hg; replace HB := zX hb; clear hb hbox hg; obtain ⟨hcz28_0, hcz28_1, hfz28_0, hfz28_1⟩ := zq2 BK880.out) | ((with_reducible refine gate_callee (f := 105) rfl ?_); refine zD (some 13) Try.func105 #[.agg #[.int .i64 a0_0, .string a0_1]] ?_; (with_reducible refine (impl_orderOf.calls k a0_0 a0_1 t881 false _ A5.out).mono ?_); rintro e w29 ⟨v882, rfl, ho0, hb⟩; refine ⟨_, rfl, ?_⟩; have HO883 := Aside0.mk (Kd.R_lower ho0 (below_size (zG GE880.out))); replace BK880 := zV BK880.out hb; replace HB := zX1 GE880.out hb; (try clear hb); (try clear ho0)))
 go_ret
 exact ⟨zE, zG GE880.out⟩
/-! ### spec_l5Inside: function 117 -/
def spec_l5Inside.l0 : Nat → Int → Int → Int → Int → Int → Int → ByteArray → Option (Int)
 | 0, _, _, _, _, _, _, _ => none
 | k + 1, x1, x2, x3, x9, x10, x891000, x891001 => if x10 < x891000 then (if x10 = x1 then (spec_l5Inside.l0 k x1 x2 x3 x9 (wrap64 (x10 + 1)) x891000 x891001) else (if x10 = x2 then (spec_l5Inside.l0 k x1 x2 x3 x9 (wrap64 (x10 + 1)) x891000 x891001) else (if x10 = x3 then (spec_l5Inside.l0 k x1 x2 x3 x9 (wrap64 (x10 + 1)) x891000 x891001) else ((spec_l5Inner.f k x891000 x891001 (([x10, x1, x2, x3] : List Int))).bind fun t894 => (if t894 = x10 then (spec_l5Inside.l0 k x1 x2 x3 (wrap64 (x9 + 1)) (wrap64 (x10 + 1)) x891000 x891001) else (spec_l5Inside.l0 k x1 x2 x3 x9 (wrap64 (x10 + 1)) x891000 x891001)))))) else (some x9)
def spec_l5Inside.f (k : Nat) (a0_0 : Int) (a0_1 : ByteArray) (a1 : Int) (a2 : Int) (a3 : Int) : Option (Int) := spec_l5Inside.l0 k a1 a2 a3 0 0 a0_0 a0_1
set_option maxHeartbeats 8000000 in
set_option maxRecDepth 100000 in
theorem spec_l5Inside.calls (k : Nat) (a0_0 : Int) (a0_1 : ByteArray) (a1 : Int) (a2 : Int) (a3 : Int) (r : Int) (w : World) (h : spec_l5Inside.f k a0_0 a0_1 a1 a2 a3 = some r) :
  Calls Try.prog 117 #[.agg #[.int .i64 a0_0, .string a0_1], .int .i64 a1, .int .i64 a2, .int .i64 a3] w fun e w' => e = .returned (.int .i64 r) ∧ Below w.heap.size w w' := by
 have hu25 := Try.underlying25
 have HB := Aside0.mk (Below.refl w.heap.size w)
 have H : (spec_l5Inside.l0 k a1 a2 a3 0 0 a0_0 a0_1) = some r := h
 clear h
 have H' := Aside0.mk H; clear H
 go_enter Try.func117, Try.ntmps117
 go_wp2_with (first | ((with_reducible refine gate_dst (N := 4) rfl ?_); (try (refine gate_guard (by rfl) ?_; dsimp only)); refine zBx (N := 4) #[.int .i64 a0_0, .string a0_1] 25 ?_; intro gb890 hg w5 hbox hb; have BK890 := Aside0.mk (hbox); have GW890 := zS hg; have GE890 := zS hg; replace HB := zX hb; clear hb hbox hg))
 go_loopg [9, 10] k (fun kq v9 v10 w' => ∃ (x9_1 : Int) (x10_1 : Int), v9 = .int .i64 x9_1 ∧ v10 = .int .i64 x10_1 ∧ Aside0 (spec_l5Inside.l0 kq a1 a2 a3 x9_1 x10_1 a0_0 a0_1 = some r) ∧ Aside0 (kq ≤ k) ∧ Aside0 (w'.heap[gb890]? = some (.cells #[.int .i64 a0_0, .string a0_1] 25 (0, 0))) ∧ Aside0 (Below w.heap.size w w'))
 case atStart => exact ⟨(0), (0), zF, zF, H', ⟨Nat.le_refl _⟩, ⟨zK BK890.out⟩, ⟨zG GE890.out⟩⟩
 case round =>
 clear H'
 obtain ⟨x9_1, x10_1, rfl, rfl, HA, HK1, BK890, HB⟩ := hrel
 cases gk with
 | zero => exact absurd HA.out (by simp [spec_l5Inside.l0])
 | succ k1 =>
 have H := HA.out
 clear HA
 simp only [spec_l5Inside.l0] at H
 by_cases c6 : x10_1 < a0_0
 ·rw [if_pos c6] at H
  have c6b0 : decide (x10_1 < a0_0) = true := decide_eq_true c6
  clear c6
  by_cases c7 : x10_1 = a1
  ·rw [if_pos c7] at H
   have c7b0 : (x10_1 == a1) = true := beq_iff_eq.mpr c7
   have c7b1 : (x10_1 != a1) = false := bne_eq_false_iff_eq.mpr c7
   clear c7
   have H' := Aside0.mk H; clear H
   obtain ⟨hcz8_0, hcz8_1, hfz8_0, hfz8_1⟩ := zq2 BK890.out
   go_wp2
   go_roundg k1
   case measure => have := HK1.out; omega
   case rel => exact ⟨(x9_1), (wrap64 (x10_1 + 1)), zF, zF, H', ⟨by have := HK1.out; omega⟩, ⟨zK BK890.out⟩, ⟨zG GE890.out⟩⟩
  rw [if_neg c7] at H
  have c7b0 : (x10_1 == a1) = false := beq_eq_false_iff_ne.mpr c7
  have c7b1 : (x10_1 != a1) = true := bne_iff_ne.mpr c7
  by_cases c9 : x10_1 = a2
  ·rw [if_pos c9] at H
   have c9b0 : (x10_1 == a2) = true := beq_iff_eq.mpr c9
   have c9b1 : (x10_1 != a2) = false := bne_eq_false_iff_eq.mpr c9
   clear c9
   have H' := Aside0.mk H; clear H
   obtain ⟨hcz10_0, hcz10_1, hfz10_0, hfz10_1⟩ := zq2 BK890.out
   go_wp2
   go_roundg k1
   case measure => have := HK1.out; omega
   case rel => exact ⟨(x9_1), (wrap64 (x10_1 + 1)), zF, zF, H', ⟨by have := HK1.out; omega⟩, ⟨zK BK890.out⟩, ⟨zG GE890.out⟩⟩
  rw [if_neg c9] at H
  have c9b0 : (x10_1 == a2) = false := beq_eq_false_iff_ne.mpr c9
  have c9b1 : (x10_1 != a2) = true := bne_iff_ne.mpr c9
  by_cases c11 : x10_1 = a3
  ·rw [if_pos c11] at H
   have c11b0 : (x10_1 == a3) = true := beq_iff_eq.mpr c11
   have c11b1 : (x10_1 != a3) = false := bne_eq_false_iff_eq.mpr c11
   clear c11
   have H' := Aside0.mk H; clear H
   obtain ⟨hcz12_0, hcz12_1, hfz12_0, hfz12_1⟩ := zq2 BK890.out
   go_wp2
   go_roundg k1
   case measure => have := HK1.out; omega
   case rel => exact ⟨(x9_1), (wrap64 (x10_1 + 1)), zF, zF, H', ⟨by have := HK1.out; omega⟩, ⟨zK BK890.out⟩, ⟨zG GE890.out⟩⟩
  rw [if_neg c11] at H
  have c11b0 : (x10_1 == a3) = false := beq_eq_false_iff_ne.mpr c11
  have c11b1 : (x10_1 != a3) = true := bne_iff_ne.mpr c11
  obtain ⟨y891, hy891⟩ : ∃ y_ : List Int, y_ = (([x10_1, a1, a2, a3] : List Int)) := ⟨_, rfl⟩
  replace H : ((spec_l5Inner.f k1 a0_0 a0_1 y891).bind fun t894 => (if t894 = x10_1 then (spec_l5Inside.l0 k1 a1 a2 a3 (wrap64 (x9_1 + 1)) (wrap64 (x10_1 + 1)) a0_0 a0_1) else (spec_l5Inside.l0 k1 a1 a2 a3 x9_1 (wrap64 (x10_1 + 1)) a0_0 a0_1))) = some r := by first | (rw [hy891]; with_reducible exact H) | (have H2_ := (Option.bind_some _ _).symm.trans H; rw [hy891]; with_reducible exact H2_) | (have H2_ := (Option.bind_some _ _).symm.trans H; with_reducible exact H2_) | with_reducible exact H | (rw [hy891]; exact H) | exact H
  have Ny891 := Aside0.mk hy891
  clear hy891
  obtain ⟨t894, A13, H⟩ := zO H
  by_cases c14 : t894 = x10_1
  ·rw [if_pos c14] at H
   have c14b0 : (t894 == x10_1) = true := beq_iff_eq.mpr c14
   have c14b1 : (t894 != x10_1) = false := bne_eq_false_iff_eq.mpr c14
   clear c14
   have H' := Aside0.mk H; clear H
   obtain ⟨hcz15_0, hcz15_1, hfz15_0, hfz15_1⟩ := zq2 BK890.out
   go_wp2_with (first | ((with_reducible refine gate_dst (N := 36) rfl ?_); (try (refine gate_guard (by rfl) ?_; dsimp only)); refine Kd.R_lit (Kd.int .i64) _ 3 ?hg (N := 36) ?hd (xs := ([x10_1, a1, a2, a3] : List Int)) (inner := [.int .i64 x10_1, .int .i64 a1, .int .i64 a2, .int .i64 a3]) (ok := fun _ => True) (okp := fun _ => True) ?hr ?hp (fun _ hk => hk) trivial (Below.refl _ _) (Nat.le_refl _) (by simp) ?_; (case hd => rfl); (case hg => rfl); (case hr => first | (go_simp; done) | (go_simp; rfl)); (case hp => exact (Reps.one (show Kd.M (Kd.int .i64) _ _ _ x10_1 [.int .i64 x10_1] from rfl) (Reps.one (show Kd.M (Kd.int .i64) _ _ _ a1 [.int .i64 a1] from rfl) (Reps.one (show Kd.M (Kd.int .i64) _ _ _ a2 [.int .i64 a2] from rfl) (Reps.one (show Kd.M (Kd.int .i64) _ _ _ a3 [.int .i64 a3] from rfl) (Reps.none _ _)))))); intro v892 w16 ho17 hb hg_ hnew_; clear hg_ hnew_; (first | rw [← Ny891.out] at ho17 | (simp only [Int.reduceToNat] at ho17; rw [← Ny891.out] at ho17)); have HO893 := Aside0.mk (Kd.R_lower ho17 (below_size (zG GE890.out))); replace BK890 := zV BK890.out hb; replace HB := zX1 GE890.out hb; clear hb ho17; obtain ⟨Ao18, co18, eo18⟩ := Kd.R_slice HO893.out; subst eo18) | (go_at_call 114; (with_reducible refine (spec_l5Inner.calls k1 a0_0 a0_1 _ _ y891 t894 _ ?side1 ?side2 A13.out).mono ?_); (case side1 => repeat (first | exact (Kd.R_reads' HO893.out).2.2 | (with_reducible refine Kd.C_alloc ?_ _) | (with_reducible refine Kd.C_drewN ?_ _) | (with_reducible refine Kd.C_drew ?_))); (case side2 => exact (Kd.R_reads' HO893.out).2.1); rintro e w19 ⟨rfl, hb⟩; replace HO893 := zW HO893.out hb; replace BK890 := zV BK890.out hb; replace HB := zX1 GE890.out hb; (try clear hb); (try clear hb2); (try clear hk); (try clear hi)))
   go_roundg k1
   case measure => have := HK1.out; omega
   case rel => exact ⟨(wrap64 (x9_1 + 1)), (wrap64 (x10_1 + 1)), zF, zF, H', ⟨by have := HK1.out; omega⟩, ⟨zK BK890.out⟩, ⟨zG GE890.out⟩⟩
  rw [if_neg c14] at H
  have c14b0 : (t894 == x10_1) = false := beq_eq_false_iff_ne.mpr c14
  have c14b1 : (t894 != x10_1) = true := bne_iff_ne.mpr c14
  have H' := Aside0.mk H; clear H
  obtain ⟨hcz20_0, hcz20_1, hfz20_0, hfz20_1⟩ := zq2 BK890.out
  go_wp2_with (first | ((with_reducible refine gate_dst (N := 36) rfl ?_); (try (refine gate_guard (by rfl) ?_; dsimp only)); refine Kd.R_lit (Kd.int .i64) _ 3 ?hg (N := 36) ?hd (xs := ([x10_1, a1, a2, a3] : List Int)) (inner := [.int .i64 x10_1, .int .i64 a1, .int .i64 a2, .int .i64 a3]) (ok := fun _ => True) (okp := fun _ => True) ?hr ?hp (fun _ hk => hk) trivial (Below.refl _ _) (Nat.le_refl _) (by simp) ?_; (case hd => rfl); (case hg => rfl); (case hr => first | (go_simp; done) | (go_simp; rfl)); (case hp => exact (Reps.one (show Kd.M (Kd.int .i64) _ _ _ x10_1 [.int .i64 x10_1] from rfl) (Reps.one (show Kd.M (Kd.int .i64) _ _ _ a1 [.int .i64 a1] from rfl) (Reps.one (show Kd.M (Kd.int .i64) _ _ _ a2 [.int .i64 a2] from rfl) (Reps.one (show Kd.M (Kd.int .i64) _ _ _ a3 [.int .i64 a3] from rfl) (Reps.none _ _)))))); intro v892 w21 ho22 hb hg_ hnew_; clear hg_ hnew_; (first | rw [← Ny891.out] at ho22 | (simp only [Int.reduceToNat] at ho22; rw [← Ny891.out] at ho22)); have HO893 := Aside0.mk (Kd.R_lower ho22 (below_size (zG GE890.out))); replace BK890 := zV BK890.out hb; replace HB := zX1 GE890.out hb; clear hb ho22; obtain ⟨Ao23, co23, eo23⟩ := Kd.R_slice HO893.out; subst eo23) | (go_at_call 114; (with_reducible refine (spec_l5Inner.calls k1 a0_0 a0_1 _ _ y891 t894 _ ?side1 ?side2 A13.out).mono ?_); (case side1 => repeat (first | exact (Kd.R_reads' HO893.out).2.2 | (with_reducible refine Kd.C_alloc ?_ _) | (with_reducible refine Kd.C_drewN ?_ _) | (with_reducible refine Kd.C_drew ?_))); (case side2 => exact (Kd.R_reads' HO893.out).2.1); rintro e w24 ⟨rfl, hb⟩; replace HO893 := zW HO893.out hb; replace BK890 := zV BK890.out hb; replace HB := zX1 GE890.out hb; (try clear hb); (try clear hb2); (try clear hk); (try clear hi)))
  go_roundg k1
  case measure => have := HK1.out; omega
  case rel => exact ⟨(x9_1), (wrap64 (x10_1 + 1)), zF, zF, H', ⟨by have := HK1.out; omega⟩, ⟨zK BK890.out⟩, ⟨zG GE890.out⟩⟩
 rw [if_neg c6] at H
 have c6b0 : decide (x10_1 < a0_0) = false := decide_eq_false c6
 clear c6
 obtain rfl := Option.some.inj H
 obtain ⟨hcz25_0, hcz25_1, hfz25_0, hfz25_1⟩ := zq2 BK890.out
 go_wp2
 go_ret
 exact ⟨zE, zG GE890.out⟩
/-! ### spec_CountInside: function 44 -/
def spec_CountInside.f (k : Nat) (a0_0 : Int) (a0_1 : ByteArray) (a1 : Int) (a2 : Int) (a3 : Int) : Option (Int) := (spec_IsAcyclic.f k a0_0 a0_1).bind fun t896 => (if t896 = true then ((spec_l5Different.f k a0_0 (([a1, a2, a3] : List Int))).bind fun t900 => (if t900 = true then ((spec_l5Inside.f k a0_0 a0_1 a1 a2 a3).bind fun t901 => (some t901)) else (some (-1)))) else (some (-1)))
set_option maxHeartbeats 8000000 in
set_option maxRecDepth 100000 in
theorem spec_CountInside.calls (k : Nat) (a0_0 : Int) (a0_1 : ByteArray) (a1 : Int) (a2 : Int) (a3 : Int) (r : Int) (w : World) (h : spec_CountInside.f k a0_0 a0_1 a1 a2 a3 = some r) :
  Calls Try.prog 44 #[.agg #[.int .i64 a0_0, .string a0_1], .int .i64 a1, .int .i64 a2, .int .i64 a3] w fun e w' => e = .returned (.int .i64 r) ∧ Below w.heap.size w w' := by
 have hu25 := Try.underlying25
 have HB := Aside0.mk (Below.refl w.heap.size w)
 have H : ((spec_IsAcyclic.f k a0_0 a0_1).bind fun t896 => (if t896 = true then ((spec_l5Different.f k a0_0 (([a1, a2, a3] : List Int))).bind fun t900 => (if t900 = true then ((spec_l5Inside.f k a0_0 a0_1 a1 a2 a3).bind fun t901 => (some t901)) else (some (-1)))) else (some (-1)))) = some r := h
 clear h
 obtain ⟨t896, A5, H⟩ := zO H
 by_cases c6 : t896 = true
 ·subst c6
  replace H := (if_pos rfl).symm.trans H
  obtain ⟨y897, hy897⟩ : ∃ y_ : List Int, y_ = (([a1, a2, a3] : List Int)) := ⟨_, rfl⟩
  replace H : ((spec_l5Different.f k a0_0 y897).bind fun t900 => (if t900 = true then ((spec_l5Inside.f k a0_0 a0_1 a1 a2 a3).bind fun t901 => (some t901)) else (some (-1)))) = some r := by first | (rw [hy897]; with_reducible exact H) | (have H2_ := (Option.bind_some _ _).symm.trans H; rw [hy897]; with_reducible exact H2_) | (have H2_ := (Option.bind_some _ _).symm.trans H; with_reducible exact H2_) | with_reducible exact H | (rw [hy897]; exact H) | exact H
  have Ny897 := Aside0.mk hy897
  clear hy897
  obtain ⟨t900, A7, H⟩ := zO H
  by_cases c8 : t900 = true
  ·subst c8
   replace H := (if_pos rfl).symm.trans H
   obtain ⟨t901, A9, H⟩ := zO H
   obtain rfl := Option.some.inj H
   go_enter Try.func44, Try.ntmps44
   go_wp2_with (first | ((with_reducible refine gate_dst (N := 4) rfl ?_); (try (refine gate_guard (by rfl) ?_; dsimp only)); refine zBx (N := 4) #[.int .i64 a0_0, .string a0_1] 25 ?_; intro gb895 hg w10 hbox hb; have BK895 := Aside0.mk (hbox); have GW895 := zS hg; have GE895 := zS hg; replace HB := zX hb; clear hb hbox hg; obtain ⟨hcz11_0, hcz11_1, hfz11_0, hfz11_1⟩ := zq2 BK895.out) | ((with_reducible refine gate_callee (f := 24) rfl ?_); refine zD (some 10) Try.func24 #[.agg #[.int .i64 a0_0, .string a0_1]] ?_; (with_reducible refine (spec_IsAcyclic.calls k a0_0 a0_1 true _ A5.out).mono ?_); rintro e w12 ⟨rfl, hb⟩; refine ⟨_, rfl, ?_⟩; replace BK895 := zV BK895.out hb; replace HB := zX1 GE895.out hb; (try clear hb); obtain ⟨hcz13_0, hcz13_1, hfz13_0, hfz13_1⟩ := zq2 BK895.out) | ((with_reducible refine gate_dst (N := 18) rfl ?_); (try (refine gate_guard (by rfl) ?_; dsimp only)); refine Kd.R_lit (Kd.int .i64) _ 3 ?hg (N := 18) ?hd (xs := ([a1, a2, a3] : List Int)) (inner := [.int .i64 a1, .int .i64 a2, .int .i64 a3]) (ok := fun _ => True) (okp := fun _ => True) ?hr ?hp (fun _ hk => hk) trivial (Below.refl _ _) (Nat.le_refl _) (by simp) ?_; (case hd => rfl); (case hg => rfl); (case hr => first | (go_simp; done) | (go_simp; rfl)); (case hp => exact (Reps.one (show Kd.M (Kd.int .i64) _ _ _ a1 [.int .i64 a1] from rfl) (Reps.one (show Kd.M (Kd.int .i64) _ _ _ a2 [.int .i64 a2] from rfl) (Reps.one (show Kd.M (Kd.int .i64) _ _ _ a3 [.int .i64 a3] from rfl) (Reps.none _ _))))); intro v898 w14 ho15 hb hg_ hnew_; clear hg_ hnew_; (first | rw [← Ny897.out] at ho15 | (simp only [Int.reduceToNat] at ho15; rw [← Ny897.out] at ho15)); have HO899 := Aside0.mk (Kd.R_lower ho15 (below_size (zG GE895.out))); replace BK895 := zV BK895.out hb; replace HB := zX1 GE895.out hb; clear hb ho15; obtain ⟨Ao16, co16, eo16⟩ := Kd.R_slice HO899.out; subst eo16) | (go_at_call 107; (with_reducible refine (spec_l5Different.calls k a0_0 _ _ y897 true _ ?side1 ?side2 A7.out).mono ?_); (case side1 => repeat (first | exact (Kd.R_reads' HO899.out).2.2 | (with_reducible refine Kd.C_alloc ?_ _) | (with_reducible refine Kd.C_drewN ?_ _) | (with_reducible refine Kd.C_drew ?_))); (case side2 => exact (Kd.R_reads' HO899.out).2.1); rintro e w' ⟨rfl, ⟨nd, rfl⟩⟩; obtain ⟨hcz17_0, hcz17_1, hfz17_0, hfz17_1⟩ := zq2 BK895.out) | ((with_reducible refine gate_callee (f := 117) rfl ?_); refine zD (some 26) Try.func117 #[.agg #[.int .i64 a0_0, .string a0_1], .int .i64 a1, .int .i64 a2, .int .i64 a3] ?_; (with_reducible refine (spec_l5Inside.calls k a0_0 a0_1 a1 a2 a3 t901 _ A9.out).mono ?_); rintro e w18 ⟨rfl, hb⟩; refine ⟨_, rfl, ?_⟩; replace HO899 := zW HO899.out hb; replace BK895 := zV BK895.out hb; replace HB := zX1 GE895.out hb; (try clear hb)))
   go_ret
   exact ⟨zE, zG GE895.out⟩
  replace c8 := Bool.eq_false_iff.mpr c8
  subst c8
  replace H := (if_neg zFf).symm.trans H
  obtain rfl := Option.some.inj H
  go_enter Try.func44, Try.ntmps44
  go_wp2_with (first | ((with_reducible refine gate_dst (N := 4) rfl ?_); (try (refine gate_guard (by rfl) ?_; dsimp only)); refine zBx (N := 4) #[.int .i64 a0_0, .string a0_1] 25 ?_; intro gb895 hg w19 hbox hb; have BK895 := Aside0.mk (hbox); have GW895 := zS hg; have GE895 := zS hg; replace HB := zX hb; clear hb hbox hg; obtain ⟨hcz20_0, hcz20_1, hfz20_0, hfz20_1⟩ := zq2 BK895.out) | ((with_reducible refine gate_callee (f := 24) rfl ?_); refine zD (some 10) Try.func24 #[.agg #[.int .i64 a0_0, .string a0_1]] ?_; (with_reducible refine (spec_IsAcyclic.calls k a0_0 a0_1 true _ A5.out).mono ?_); rintro e w21 ⟨rfl, hb⟩; refine ⟨_, rfl, ?_⟩; replace BK895 := zV BK895.out hb; replace HB := zX1 GE895.out hb; (try clear hb); obtain ⟨hcz22_0, hcz22_1, hfz22_0, hfz22_1⟩ := zq2 BK895.out) | ((with_reducible refine gate_dst (N := 18) rfl ?_); (try (refine gate_guard (by rfl) ?_; dsimp only)); refine Kd.R_lit (Kd.int .i64) _ 3 ?hg (N := 18) ?hd (xs := ([a1, a2, a3] : List Int)) (inner := [.int .i64 a1, .int .i64 a2, .int .i64 a3]) (ok := fun _ => True) (okp := fun _ => True) ?hr ?hp (fun _ hk => hk) trivial (Below.refl _ _) (Nat.le_refl _) (by simp) ?_; (case hd => rfl); (case hg => rfl); (case hr => first | (go_simp; done) | (go_simp; rfl)); (case hp => exact (Reps.one (show Kd.M (Kd.int .i64) _ _ _ a1 [.int .i64 a1] from rfl) (Reps.one (show Kd.M (Kd.int .i64) _ _ _ a2 [.int .i64 a2] from rfl) (Reps.one (show Kd.M (Kd.int .i64) _ _ _ a3 [.int .i64 a3] from rfl) (Reps.none _ _))))); intro v898 w23 ho24 hb hg_ hnew_; clear hg_ hnew_; (first | rw [← Ny897.out] at ho24 | (simp only [Int.reduceToNat] at ho24; rw [← Ny897.out] at ho24)); have HO899 := Aside0.mk (Kd.R_lower ho24 (below_size (zG GE895.out))); replace BK895 := zV BK895.out hb; replace HB := zX1 GE895.out hb; clear hb ho24; obtain ⟨Ao25, co25, eo25⟩ := Kd.R_slice HO899.out; subst eo25) | (go_at_call 107; (with_reducible refine (spec_l5Different.calls k a0_0 _ _ y897 false _ ?side1 ?side2 A7.out).mono ?_); (case side1 => repeat (first | exact (Kd.R_reads' HO899.out).2.2 | (with_reducible refine Kd.C_alloc ?_ _) | (with_reducible refine Kd.C_drewN ?_ _) | (with_reducible refine Kd.C_drew ?_))); (case side2 => exact (Kd.R_reads' HO899.out).2.1); rintro e w' ⟨rfl, ⟨nd, rfl⟩⟩))
  go_ret
  exact ⟨zE, zG GE895.out⟩
 replace c6 := Bool.eq_false_iff.mpr c6
 subst c6
 replace H := (if_neg zFf).symm.trans H
 obtain rfl := Option.some.inj H
 go_enter Try.func44, Try.ntmps44
 go_wp2_with (first | ((with_reducible refine gate_dst (N := 4) rfl ?_); (try (refine gate_guard (by rfl) ?_; dsimp only)); refine zBx (N := 4) #[.int .i64 a0_0, .string a0_1] 25 ?_; intro gb895 hg w26 hbox hb; have BK895 := Aside0.mk (hbox); have GW895 := zS hg; have GE895 := zS hg; replace HB := zX hb; clear hb hbox hg; obtain ⟨hcz27_0, hcz27_1, hfz27_0, hfz27_1⟩ := zq2 BK895.out) | ((with_reducible refine gate_callee (f := 24) rfl ?_); refine zD (some 10) Try.func24 #[.agg #[.int .i64 a0_0, .string a0_1]] ?_; (with_reducible refine (spec_IsAcyclic.calls k a0_0 a0_1 false _ A5.out).mono ?_); rintro e w28 ⟨rfl, hb⟩; refine ⟨_, rfl, ?_⟩; replace BK895 := zV BK895.out hb; replace HB := zX1 GE895.out hb; (try clear hb)))
 go_ret
 exact ⟨zE, zG GE895.out⟩
/-! ### impl_EmptyTriangles: function 45 -/
def impl_EmptyTriangles.l0 : Nat → List Int → Int → List (S99) → Int → Int → Option (Int)
 | 0, _, _, _, _, _ => none
 | k + 1, x3, x5, x17, x18, x19 => if x19 < x18 then (if 0 ≤ x19 then (if x19 < (x17.length : Int) then (if x3.length = 344 then ((impl_chi_countInside.f k x3 ((rd_T99 x17 x19).f0) ((rd_T99 x17 x19).f1) ((rd_T99 x17 x19).f2)).bind fun t912 => (if t912 = 0 then (impl_EmptyTriangles.l0 k x3 (wrap64 (x5 + 1)) x17 x18 (wrap64 (x19 + 1))) else (impl_EmptyTriangles.l0 k x3 x5 x17 x18 (wrap64 (x19 + 1))))) else (none)) else (none)) else (none)) else (some x5)
def impl_EmptyTriangles.f (k : Nat) (a0_0 : Int) (a0_1 : ByteArray) : Option (Int) := (impl_orderOf.f k a0_0 a0_1).bind fun bt903 => (if bt903.2 = true then ((impl_triplesOf.f k a0_0).bind fun t907 => (impl_EmptyTriangles.l0 k bt903.1 0 t907 (t907.length : Int) 0)) else (some (-1)))
set_option maxHeartbeats 8000000 in
set_option maxRecDepth 100000 in
theorem impl_EmptyTriangles.calls (k : Nat) (a0_0 : Int) (a0_1 : ByteArray) (r : Int) (w : World) (h : impl_EmptyTriangles.f k a0_0 a0_1 = some r) :
  Calls Try.prog 45 #[.agg #[.int .i64 a0_0, .string a0_1]] w fun e w' => e = .returned (.int .i64 r) ∧ Below w.heap.size w w' := by
 have hu25 := Try.underlying25
 have hu99 := Try.underlying99
 have HB := Aside0.mk (Below.refl w.heap.size w)
 have H : ((impl_orderOf.f k a0_0 a0_1).bind fun bt903 => (if bt903.2 = true then ((impl_triplesOf.f k a0_0).bind fun t907 => (impl_EmptyTriangles.l0 k bt903.1 0 t907 (t907.length : Int) 0)) else (some (-1)))) = some r := h
 clear h
 obtain ⟨⟨t903, t906⟩, A2, H⟩ := zO H
 dsimp only at H
 by_cases c3 : t906 = true
 ·subst c3
  replace H := (if_pos rfl).symm.trans H
  obtain ⟨t907, A4, H⟩ := zO H
  have H' := Aside0.mk H; clear H
  go_enter Try.func45, Try.ntmps45
  go_wp2_with (first | ((with_reducible refine gate_dst (N := 1) rfl ?_); refine zBx (N := 1) #[.int .i64 a0_0, .string a0_1] 25 ?_; intro gb902 hg w5 hbox hb; have BK902 := Aside0.mk (hbox); have GW902 := zS hg; have GE902 := zS hg; replace HB := zX hb; clear hb hbox hg; obtain ⟨hcz6_0, hcz6_1, hfz6_0, hfz6_1⟩ := zq2 BK902.out) | ((with_reducible refine gate_callee (f := 105) rfl ?_); refine zD (some 10) Try.func105 #[.agg #[.int .i64 a0_0, .string a0_1]] ?_; (with_reducible refine (impl_orderOf.calls k a0_0 a0_1 t903 true _ A2.out).mono ?_); rintro e w7 ⟨v904, rfl, ho0, hb⟩; refine ⟨_, rfl, ?_⟩; have HO905 := Aside0.mk (Kd.R_lower ho0 (below_size (zG GE902.out))); replace BK902 := zV BK902.out hb; replace HB := zX1 GE902.out hb; (try clear hb); (try clear ho0); obtain ⟨hcz8_0, hcz8_1, hfz8_0, hfz8_1⟩ := zq2 BK902.out) | ((with_reducible refine gate_callee (f := 118) rfl ?_); refine zD (some 17) Try.func118 #[.int .i64 a0_0] ?_; (with_reducible refine (impl_triplesOf.calls k a0_0 t907 _ A4.out).mono ?_); rintro e w9 ⟨v908, rfl, ho0, hb⟩; refine ⟨_, rfl, ?_⟩; replace HO905 := zW HO905.out hb; have HO909 := Aside0.mk (Kd.R_lower ho0 (below_size (zG GE902.out))); replace BK902 := zV BK902.out hb; replace HB := zX1 GE902.out hb; (try clear hb); (try clear ho0); obtain ⟨Ao10, co10, eo10⟩ := Kd.R_slice HO909.out; subst eo10))
  go_loopg [5, 19] k (fun kq v5 v19 w' => ∃ (x5_1 : Int) (x19_1 : Int), v5 = .int .i64 x5_1 ∧ v19 = .int .i64 x19_1 ∧ Aside0 (impl_EmptyTriangles.l0 kq t903 x5_1 t907 (t907.length : Int) x19_1 = some r) ∧ Aside0 (kq ≤ k) ∧ Aside0 (Kd.R (Kd.int .i64) 115 w' w.heap.size (fun _ => True) v904 t903) ∧ Aside0 (Kd.R k99 99 w' w.heap.size (fun _ => True) (.slice Ao10 t907.length co10) t907) ∧ Aside0 (w'.heap[gb902]? = some (.cells #[.int .i64 a0_0, .string a0_1] 25 (0, 0))) ∧ Aside0 (Below w.heap.size w w'))
  case atStart => exact ⟨(0), (0), zF, zF, H', ⟨Nat.le_refl _⟩, ⟨zR HO905.out⟩, ⟨zR HO909.out⟩, ⟨zK BK902.out⟩, ⟨zG GE902.out⟩⟩
  case round =>
  clear H'
  try clear c3
  try clear hcz6_0
  try clear hcz6_1
  try clear hcz8_0
  try clear hcz8_1
  try clear hfz6_0
  try clear hfz6_1
  try clear hfz8_0
  try clear hfz8_1
  obtain ⟨x5_1, x19_1, rfl, rfl, HA, HK1, HO_3, HO_17, BK902, HB⟩ := hrel
  cases gk with
  | zero => exact absurd HA.out (by simp [impl_EmptyTriangles.l0])
  | succ k1 =>
  have H := HA.out
  clear HA
  simp only [impl_EmptyTriangles.l0] at H
  by_cases c11 : x19_1 < (t907.length : Int)
  ·rw [if_pos c11] at H
   have c11b0 : decide (x19_1 < (t907.length : Int)) = true := decide_eq_true c11
   clear c11
   by_cases c12 : 0 ≤ x19_1
   ·rw [if_pos c12] at H
    have c12b0 : decide (0 ≤ x19_1) = true := decide_eq_true c12
    clear c12
    by_cases c13 : x19_1 < (t907.length : Int)
    ·rw [if_pos c13] at H
     have c13b0 : decide (x19_1 < (t907.length : Int)) = true := decide_eq_true c13
     clear c13
     by_cases c14 : t903.length = 344
     ·rw [if_pos c14] at H
      have c14b0 := eq_true c14
      have c14b1 : decide (t903.length = 344) = true := decide_eq_true c14
      clear c14
      obtain ⟨t912, A15, H⟩ := zO H
      by_cases c16 : t912 = 0
      ·rw [if_pos c16] at H
       have c16b0 : (t912 == 0) = true := beq_iff_eq.mpr c16
       have c16b1 : (t912 != 0) = false := bne_eq_false_iff_eq.mpr c16
       clear c16
       have H' := Aside0.mk H; clear H
       have p910 : 0 ≤ (x19_1 : Int) := zA
       have q910 : x19_1 < (t907.length : Int) := zA
       obtain ⟨ad910, e910, hx910_0, hx910_1, hx910_2⟩ := at_T99 (Kd.R_reads' HO_17.out).2.2 x19_1 p910 q910
       cases e910
       replace p910 := eq_true p910
       replace q910 := eq_true q910
       go_wp2_with (first | ((with_reducible refine gate_dst (N := 7) rfl ?_); refine zBx (N := 7) #[.int .i64 0, .int .i64 0, .int .i64 0] 99 ?_; intro gb911 hg w17 hbox hb; replace HO_3 := zW HO_3.out hb; replace HO_17 := Aside0.mk (Kd.R_below (Kd.R_elderB (zR HO_17.out) gb911 (Nat.le_of_eq hg.symm)) hb); have BK911 := Aside0.mk (hbox); have GW911 := zSg hg (zG GE902.out); have GE911 := zSg hg (zG GE902.out); have NB902_911 := zL hg BK902.out; have NB911_902 := zLg hg BK902.out; replace BK902 := zV BK902.out hb; replace HB := zX1 GE902.out hb; clear hb hbox hg; have hnb18 := NB911_902.out; have hnc18 := NB902_911.out; obtain ⟨hcz19_0, hcz19_1, hcz19_2, hfz19_0, hfz19_1, hfz19_2⟩ := zq3 BK911.out; obtain ⟨go20, co20, eo20, gb20, gl20, cl20, HG20⟩ := Kd.R_form HO_3.out (by have hl_ := Nat.le_of_eq (Eq.symm (zA : t903.length = 344)); omega); (first | cases eo20 | (injection eo20 with ea_ en_ ec_; (first | subst ea_ | (injection ea_ with ea_; subst ea_)); subst ec_; clear en_)); have GB20 := Aside0.mk gb20; have GG20 := Aside0.mk HG20; clear gb20 gl20 HG20) | ((with_reducible refine gate_callee (f := 116) rfl ?_); refine zD (some 30) Try.func116 #[.pointer (some ⟨go20, 0, none⟩), .int .i64 ((rd_T99 t907 x19_1).f0), .int .i64 ((rd_T99 t907 x19_1).f1), .int .i64 ((rd_T99 t907 x19_1).f2)] ?_; (with_reducible refine (impl_chi_countInside.calls k1 _ t903 ((rd_T99 t907 x19_1).f0) ((rd_T99 t907 x19_1).f1) ((rd_T99 t907 x19_1).f2) t912 _ ?side1 ?side2 A15.out).mono ?_); (case side1 => refine (Kd.R_reads' (e := 115) (base := w.heap.size) (ok := fun k_ => True) (n := t903.length) (c := co20) ?_).2.2; exact (by (with_reducible repeat (first | apply Kd.R_alloc | apply Kd.R_drewN | apply Kd.R_drew)); exact (Kd.R_mono (Kd.R_far (p := ⟨gb911, 2, none⟩) (Kd.R_far (p := ⟨gb911, 1, none⟩) (Kd.R_far (p := ⟨gb911, 0, none⟩) (Kd.R_types HO_3.out BK911.out (by decide)) (fun _ hk => hk.2) (.int .i64 ((rd_T99 t907 x19_1).f0))) (fun _ hk => hk.2) (.int .i64 ((rd_T99 t907 x19_1).f1))) (fun _ hk => hk.2) (.int .i64 ((rd_T99 t907 x19_1).f2))) (fun _ h_ => h_.1)))); (case side2 => exact (zA : t903.length = 344)); rintro e w21 ⟨rfl, hb⟩; refine ⟨_, rfl, ?_⟩; replace HO_3 := Aside0.mk (Kd.R_below (by (with_reducible repeat (first | apply Kd.R_alloc | apply Kd.R_drewN | apply Kd.R_drew)); exact (Kd.R_mono (Kd.R_far (p := ⟨gb911, 2, none⟩) (Kd.R_far (p := ⟨gb911, 1, none⟩) (Kd.R_far (p := ⟨gb911, 0, none⟩) (Kd.R_types HO_3.out BK911.out (by decide)) (fun _ hk => hk.2) (.int .i64 ((rd_T99 t907 x19_1).f0))) (fun _ hk => hk.2) (.int .i64 ((rd_T99 t907 x19_1).f1))) (fun _ hk => hk.2) (.int .i64 ((rd_T99 t907 x19_1).f2))) (fun _ h_ => h_.1))) hb); replace HO_17 := Aside0.mk (Kd.R_below (by (with_reducible repeat (first | apply Kd.R_alloc | apply Kd.R_drewN | apply Kd.R_drew)); exact (Kd.R_mono (Kd.R_far (p := ⟨gb911, 2, none⟩) (Kd.R_far (p := ⟨gb911, 1, none⟩) (Kd.R_far (p := ⟨gb911, 0, none⟩) (Kd.R_mono HO_17.out (fun k_ hk => (⟨hk, hk.2⟩ : _ ∧ k_ ≠ gb911))) (fun _ hk => hk.2) (.int .i64 ((rd_T99 t907 x19_1).f0))) (fun _ hk => hk.2) (.int .i64 ((rd_T99 t907 x19_1).f1))) (fun _ hk => hk.2) (.int .i64 ((rd_T99 t907 x19_1).f2))) (fun _ h_ => h_.1))) hb); replace BK902 := Aside0.mk (blk_below (g := gb902) (o := .cells #[.int .i64 a0_0, .string a0_1] 25 (0, 0)) (zk3 BK902.out NB902_911.out NB902_911.out NB902_911.out) hb); replace BK911 := Aside0.mk (blk_below (g := gb911) (o := .cells #[.int .i64 ((rd_T99 t907 x19_1).f0), .int .i64 ((rd_T99 t907 x19_1).f1), .int .i64 ((rd_T99 t907 x19_1).f2)] 99 (0, 0)) (zk0 BK911.out) hb); replace HB := Aside0.mk (below_step (zG2 GE902.out GE911.out) hb); (try clear hb)))
       go_roundg k1
       case measure => have := HK1.out; omega
       case rel => exact ⟨(wrap64 (x5_1 + 1)), (wrap64 (x19_1 + 1)), zF, zF, H', ⟨by have := HK1.out; omega⟩, ⟨zR HO_3.out⟩, ⟨by (with_reducible repeat (first | apply Kd.R_alloc | apply Kd.R_drewN | apply Kd.R_drew)); exact Kd.R_mono HO_17.out (fun _ hk => trivial)⟩, ⟨zK BK902.out⟩, ⟨zG2 GE902.out GE911.out⟩⟩
      rw [if_neg c16] at H
      have c16b0 : (t912 == 0) = false := beq_eq_false_iff_ne.mpr c16
      have c16b1 : (t912 != 0) = true := bne_iff_ne.mpr c16
      have H' := Aside0.mk H; clear H
      have p910 : 0 ≤ (x19_1 : Int) := zA
      have q910 : x19_1 < (t907.length : Int) := zA
      obtain ⟨ad910, e910, hx910_0, hx910_1, hx910_2⟩ := at_T99 (Kd.R_reads' HO_17.out).2.2 x19_1 p910 q910
      cases e910
      replace p910 := eq_true p910
      replace q910 := eq_true q910
      go_wp2_with (first | ((with_reducible refine gate_dst (N := 7) rfl ?_); refine zBx (N := 7) #[.int .i64 0, .int .i64 0, .int .i64 0] 99 ?_; intro gb911 hg w22 hbox hb; replace HO_3 := zW HO_3.out hb; replace HO_17 := Aside0.mk (Kd.R_below (Kd.R_elderB (zR HO_17.out) gb911 (Nat.le_of_eq hg.symm)) hb); have BK911 := Aside0.mk (hbox); have GW911 := zSg hg (zG GE902.out); have GE911 := zSg hg (zG GE902.out); have NB902_911 := zL hg BK902.out; have NB911_902 := zLg hg BK902.out; replace BK902 := zV BK902.out hb; replace HB := zX1 GE902.out hb; clear hb hbox hg; have hnb23 := NB911_902.out; have hnc23 := NB902_911.out; obtain ⟨hcz24_0, hcz24_1, hcz24_2, hfz24_0, hfz24_1, hfz24_2⟩ := zq3 BK911.out; obtain ⟨go25, co25, eo25, gb25, gl25, cl25, HG25⟩ := Kd.R_form HO_3.out (by have hl_ := Nat.le_of_eq (Eq.symm (zA : t903.length = 344)); omega); (first | cases eo25 | (injection eo25 with ea_ en_ ec_; (first | subst ea_ | (injection ea_ with ea_; subst ea_)); subst ec_; clear en_)); have GB25 := Aside0.mk gb25; have GG25 := Aside0.mk HG25; clear gb25 gl25 HG25) | ((with_reducible refine gate_callee (f := 116) rfl ?_); refine zD (some 30) Try.func116 #[.pointer (some ⟨go25, 0, none⟩), .int .i64 ((rd_T99 t907 x19_1).f0), .int .i64 ((rd_T99 t907 x19_1).f1), .int .i64 ((rd_T99 t907 x19_1).f2)] ?_; (with_reducible refine (impl_chi_countInside.calls k1 _ t903 ((rd_T99 t907 x19_1).f0) ((rd_T99 t907 x19_1).f1) ((rd_T99 t907 x19_1).f2) t912 _ ?side1 ?side2 A15.out).mono ?_); (case side1 => refine (Kd.R_reads' (e := 115) (base := w.heap.size) (ok := fun k_ => True) (n := t903.length) (c := co25) ?_).2.2; exact (by (with_reducible repeat (first | apply Kd.R_alloc | apply Kd.R_drewN | apply Kd.R_drew)); exact (Kd.R_mono (Kd.R_far (p := ⟨gb911, 2, none⟩) (Kd.R_far (p := ⟨gb911, 1, none⟩) (Kd.R_far (p := ⟨gb911, 0, none⟩) (Kd.R_types HO_3.out BK911.out (by decide)) (fun _ hk => hk.2) (.int .i64 ((rd_T99 t907 x19_1).f0))) (fun _ hk => hk.2) (.int .i64 ((rd_T99 t907 x19_1).f1))) (fun _ hk => hk.2) (.int .i64 ((rd_T99 t907 x19_1).f2))) (fun _ h_ => h_.1)))); (case side2 => exact (zA : t903.length = 344)); rintro e w26 ⟨rfl, hb⟩; refine ⟨_, rfl, ?_⟩; replace HO_3 := Aside0.mk (Kd.R_below (by (with_reducible repeat (first | apply Kd.R_alloc | apply Kd.R_drewN | apply Kd.R_drew)); exact (Kd.R_mono (Kd.R_far (p := ⟨gb911, 2, none⟩) (Kd.R_far (p := ⟨gb911, 1, none⟩) (Kd.R_far (p := ⟨gb911, 0, none⟩) (Kd.R_types HO_3.out BK911.out (by decide)) (fun _ hk => hk.2) (.int .i64 ((rd_T99 t907 x19_1).f0))) (fun _ hk => hk.2) (.int .i64 ((rd_T99 t907 x19_1).f1))) (fun _ hk => hk.2) (.int .i64 ((rd_T99 t907 x19_1).f2))) (fun _ h_ => h_.1))) hb); replace HO_17 := Aside0.mk (Kd.R_below (by (with_reducible repeat (first | apply Kd.R_alloc | apply Kd.R_drewN | apply Kd.R_drew)); exact (Kd.R_mono (Kd.R_far (p := ⟨gb911, 2, none⟩) (Kd.R_far (p := ⟨gb911, 1, none⟩) (Kd.R_far (p := ⟨gb911, 0, none⟩) (Kd.R_mono HO_17.out (fun k_ hk => (⟨hk, hk.2⟩ : _ ∧ k_ ≠ gb911))) (fun _ hk => hk.2) (.int .i64 ((rd_T99 t907 x19_1).f0))) (fun _ hk => hk.2) (.int .i64 ((rd_T99 t907 x19_1).f1))) (fun _ hk => hk.2) (.int .i64 ((rd_T99 t907 x19_1).f2))) (fun _ h_ => h_.1))) hb); replace BK902 := Aside0.mk (blk_below (g := gb902) (o := .cells #[.int .i64 a0_0, .string a0_1] 25 (0, 0)) (zk3 BK902.out NB902_911.out NB902_911.out NB902_911.out) hb); replace BK911 := Aside0.mk (blk_below (g := gb911) (o := .cells #[.int .i64 ((rd_T99 t907 x19_1).f0), .int .i64 ((rd_T99 t907 x19_1).f1), .int .i64 ((rd_T99 t907 x19_1).f2)] 99 (0, 0)) (zk0 BK911.out) hb); replace HB := Aside0.mk (below_step (zG2 GE902.out GE911.out) hb); (try clear hb)))
      go_roundg k1
      case measure => have := HK1.out; omega
      case rel => exact ⟨(x5_1), (wrap64 (x19_1 + 1)), zF, zF, H', ⟨by have := HK1.out; omega⟩, ⟨zR HO_3.out⟩, ⟨by (with_reducible repeat (first | apply Kd.R_alloc | apply Kd.R_drewN | apply Kd.R_drew)); exact Kd.R_mono HO_17.out (fun _ hk => trivial)⟩, ⟨zK BK902.out⟩, ⟨zG2 GE902.out GE911.out⟩⟩
     rw [if_neg c14] at H
     exact absurd H (by simp)
    rw [if_neg c13] at H
    exact absurd H (by simp)
   rw [if_neg c12] at H
   exact absurd H (by simp)
  rw [if_neg c11] at H
  have c11b0 : decide (x19_1 < (t907.length : Int)) = false := decide_eq_false c11
  clear c11
  obtain rfl := Option.some.inj H
  go_wp2
  go_ret
  exact ⟨zE, zG GE902.out⟩
 replace c3 := Bool.eq_false_iff.mpr c3
 subst c3
 replace H := (if_neg zFf).symm.trans H
 obtain rfl := Option.some.inj H
 go_enter Try.func45, Try.ntmps45
 go_wp2_with (first | ((with_reducible refine gate_dst (N := 1) rfl ?_); refine zBx (N := 1) #[.int .i64 a0_0, .string a0_1] 25 ?_; intro gb902 hg w27 hbox hb; have BK902 := Aside0.mk (hbox); have GW902 := zS hg; have GE902 := zS hg; replace HB := zX hb; clear hb hbox hg; obtain ⟨hcz28_0, hcz28_1, hfz28_0, hfz28_1⟩ := zq2 BK902.out) | ((with_reducible refine gate_callee (f := 105) rfl ?_); refine zD (some 10) Try.func105 #[.agg #[.int .i64 a0_0, .string a0_1]] ?_; (with_reducible refine (impl_orderOf.calls k a0_0 a0_1 t903 false _ A2.out).mono ?_); rintro e w29 ⟨v904, rfl, ho0, hb⟩; refine ⟨_, rfl, ?_⟩; have HO905 := Aside0.mk (Kd.R_lower ho0 (below_size (zG GE902.out))); replace BK902 := zV BK902.out hb; replace HB := zX1 GE902.out hb; (try clear hb); (try clear ho0)))
 go_ret
 exact ⟨zE, zG GE902.out⟩
/-! ### spec_l1Bit: function 119 -/
def spec_l1Bit.f (a0 : Bool) : Option (Int) := if a0 = true then (some 1) else (some 0)
set_option maxHeartbeats 8000000 in
set_option maxRecDepth 100000 in
theorem spec_l1Bit.calls (a0 : Bool) (r : Int) (w : World) (h : spec_l1Bit.f a0 = some r) :
  Calls Try.prog 119 #[.bool a0] w fun e w' => e = .returned (.int .i64 r) ∧ Drawn0 w w' := by
 have H : (if a0 = true then (some 1) else (some 0)) = some r := h
 clear h
 by_cases c2 : a0 = true
 ·subst c2
  replace H := (if_pos rfl).symm.trans H
  obtain rfl := Option.some.inj H
  go_enter Try.func119, Try.ntmps119
  go_wp2
  go_ret
  exact ⟨by first | rfl | (simp; done) | (simp [*]; done), by repeat (first | exact Drawn0.refl _ | apply Drawn0.step)⟩
 replace c2 := Bool.eq_false_iff.mpr c2
 subst c2
 replace H := (if_neg zFf).symm.trans H
 obtain rfl := Option.some.inj H
 go_enter Try.func119, Try.ntmps119
 go_wp2
 go_ret
 exact ⟨by first | rfl | (simp; done) | (simp [*]; done), by repeat (first | exact Drawn0.refl _ | apply Drawn0.step)⟩
/-! ### spec_EmptyTriangles: function 46 -/
mutual
def spec_EmptyTriangles.l0 : Nat → Int → Int → Int → ByteArray → Option (Int)
 | 0, _, _, _, _ => none
 | k + 1, x3, x4, x914000, x914001 => if x4 < x914000 then (spec_EmptyTriangles.l1 k x3 x4 (wrap64 (x4 + 1)) x914000 x914001) else (some x3)
def spec_EmptyTriangles.l1 : Nat → Int → Int → Int → Int → ByteArray → Option (Int)
 | 0, _, _, _, _, _ => none
 | k + 1, x3, x4, x5, x914000, x914001 => if x5 < x914000 then (spec_EmptyTriangles.l2 k x3 x4 x5 (wrap64 (x5 + 1)) x914000 x914001) else (spec_EmptyTriangles.l0 k x3 (wrap64 (x4 + 1)) x914000 x914001)
def spec_EmptyTriangles.l2 : Nat → Int → Int → Int → Int → Int → ByteArray → Option (Int)
 | 0, _, _, _, _, _, _ => none
 | k + 1, x3, x4, x5, x6, x914000, x914001 => if x6 < x914000 then ((spec_l5Inside.f k x914000 x914001 x4 x5 x6).bind fun t915 => ((spec_l1Bit.f (t915 == 0)).bind fun t916 => (spec_EmptyTriangles.l2 k (wrap64 (x3 + t916)) x4 x5 (wrap64 (x6 + 1)) x914000 x914001))) else (spec_EmptyTriangles.l1 k x3 x4 (wrap64 (x5 + 1)) x914000 x914001)
end
def spec_EmptyTriangles.f (k : Nat) (a0_0 : Int) (a0_1 : ByteArray) : Option (Int) := (spec_IsAcyclic.f k a0_0 a0_1).bind fun t914 => (if t914 = true then (spec_EmptyTriangles.l0 k 0 0 a0_0 a0_1) else (some (-1)))
set_option maxHeartbeats 8000000 in
set_option maxRecDepth 100000 in
theorem spec_EmptyTriangles.calls (k : Nat) (a0_0 : Int) (a0_1 : ByteArray) (r : Int) (w : World) (h : spec_EmptyTriangles.f k a0_0 a0_1 = some r) :
  Calls Try.prog 46 #[.agg #[.int .i64 a0_0, .string a0_1]] w fun e w' => e = .returned (.int .i64 r) ∧ Below w.heap.size w w' := by
 have hu25 := Try.underlying25
 have HB := Aside0.mk (Below.refl w.heap.size w)
 have H : ((spec_IsAcyclic.f k a0_0 a0_1).bind fun t914 => (if t914 = true then (spec_EmptyTriangles.l0 k 0 0 a0_0 a0_1) else (some (-1)))) = some r := h
 clear h
 obtain ⟨t914, A2, H⟩ := zO H
 by_cases c3 : t914 = true
 ·subst c3
  replace H := (if_pos rfl).symm.trans H
  have H' := Aside0.mk H; clear H
  go_enter Try.func46, Try.ntmps46
  go_wp2_with (first | ((with_reducible refine gate_dst (N := 1) rfl ?_); refine zBx (N := 1) #[.int .i64 a0_0, .string a0_1] 25 ?_; intro gb913 hg w4 hbox hb; have BK913 := Aside0.mk (hbox); have GW913 := zS hg; have GE913 := zS hg; replace HB := zX hb; clear hb hbox hg; obtain ⟨hcz5_0, hcz5_1, hfz5_0, hfz5_1⟩ := zq2 BK913.out) | ((with_reducible refine gate_callee (f := 24) rfl ?_); refine zD (some 8) Try.func24 #[.agg #[.int .i64 a0_0, .string a0_1]] ?_; (with_reducible refine (spec_IsAcyclic.calls k a0_0 a0_1 true _ A2.out).mono ?_); rintro e w6 ⟨rfl, hb⟩; refine ⟨_, rfl, ?_⟩; replace BK913 := zV BK913.out hb; replace HB := zX1 GE913.out hb; (try clear hb)))
  go_loopg [3, 4] k (fun kq v3 v4 w' => ∃ (x3_1 : Int) (x4_1 : Int), v3 = .int .i64 x3_1 ∧ v4 = .int .i64 x4_1 ∧ Aside0 (spec_EmptyTriangles.l0 kq x3_1 x4_1 a0_0 a0_1 = some r) ∧ Aside0 (kq ≤ k) ∧ Aside0 (w'.heap[gb913]? = some (.cells #[.int .i64 a0_0, .string a0_1] 25 (0, 0))) ∧ Aside0 (Below w.heap.size w w'))
  case atStart => exact ⟨(0), (0), zF, zF, H', ⟨Nat.le_refl _⟩, ⟨zK BK913.out⟩, ⟨zG GE913.out⟩⟩
  case round =>
  clear H'
  try clear c3
  try clear hcz5_0
  try clear hcz5_1
  try clear hfz5_0
  try clear hfz5_1
  obtain ⟨x3_1, x4_1, rfl, rfl, HA, HK1, BK913, HB⟩ := hrel
  cases gk with
  | zero => exact absurd HA.out (by simp [spec_EmptyTriangles.l0])
  | succ k1 =>
  have H := HA.out
  clear HA
  simp only [spec_EmptyTriangles.l0] at H
  by_cases c7 : x4_1 < a0_0
  ·rw [if_pos c7] at H
   have c7b0 : decide (x4_1 < a0_0) = true := decide_eq_true c7
   clear c7
   have H' := Aside0.mk H; clear H
   obtain ⟨hcz8_0, hcz8_1, hfz8_0, hfz8_1⟩ := zq2 BK913.out
   go_wp2
   go_loopg [3, 5] k1 (fun kq v3 v5 w' => ∃ (x3_2 : Int) (x5_2 : Int), v3 = .int .i64 x3_2 ∧ v5 = .int .i64 x5_2 ∧ Aside0 (spec_EmptyTriangles.l1 kq x3_2 x4_1 x5_2 a0_0 a0_1 = some r) ∧ Aside0 (kq ≤ k1) ∧ Aside0 (w'.heap[gb913]? = some (.cells #[.int .i64 a0_0, .string a0_1] 25 (0, 0))) ∧ Aside0 (Below w.heap.size w w'))
   case atStart => exact ⟨(x3_1), (wrap64 (x4_1 + 1)), zF, zF, H', ⟨Nat.le_refl _⟩, ⟨zK BK913.out⟩, ⟨zG GE913.out⟩⟩
   case round =>
   clear H'
   try clear c3
   try clear c7
   try clear c7b0
   try clear hcz5_0
   try clear hcz5_1
   try clear hcz8_0
   try clear hcz8_1
   try clear hfz5_0
   try clear hfz5_1
   try clear hfz8_0
   try clear hfz8_1
   obtain ⟨x3_2, x5_2, rfl, rfl, HA, HK2, BK913, HB⟩ := hrel
   cases gk with
   | zero => exact absurd HA.out (by simp [spec_EmptyTriangles.l1])
   | succ k2 =>
   have H := HA.out
   clear HA
   simp only [spec_EmptyTriangles.l1] at H
   by_cases c9 : x5_2 < a0_0
   ·rw [if_pos c9] at H
    have c9b0 : decide (x5_2 < a0_0) = true := decide_eq_true c9
    clear c9
    have H' := Aside0.mk H; clear H
    obtain ⟨hcz10_0, hcz10_1, hfz10_0, hfz10_1⟩ := zq2 BK913.out
    go_wp2
    go_loopg [3, 6] k2 (fun kq v3 v6 w' => ∃ (x3_3 : Int) (x6_3 : Int), v3 = .int .i64 x3_3 ∧ v6 = .int .i64 x6_3 ∧ Aside0 (spec_EmptyTriangles.l2 kq x3_3 x4_1 x5_2 x6_3 a0_0 a0_1 = some r) ∧ Aside0 (kq ≤ k2) ∧ Aside0 (w'.heap[gb913]? = some (.cells #[.int .i64 a0_0, .string a0_1] 25 (0, 0))) ∧ Aside0 (Below w.heap.size w w'))
    case atStart => exact ⟨(x3_2), (wrap64 (x5_2 + 1)), zF, zF, H', ⟨Nat.le_refl _⟩, ⟨zK BK913.out⟩, ⟨zG GE913.out⟩⟩
    case round =>
    clear H'
    try clear c3
    try clear c7
    try clear c7b0
    try clear c9
    try clear c9b0
    try clear hcz10_0
    try clear hcz10_1
    try clear hcz5_0
    try clear hcz5_1
    try clear hcz8_0
    try clear hcz8_1
    try clear hfz10_0
    try clear hfz10_1
    try clear hfz5_0
    try clear hfz5_1
    try clear hfz8_0
    try clear hfz8_1
    obtain ⟨x3_3, x6_3, rfl, rfl, HA, HK3, BK913, HB⟩ := hrel
    cases gk with
    | zero => exact absurd HA.out (by simp [spec_EmptyTriangles.l2])
    | succ k3 =>
    have H := HA.out
    clear HA
    simp only [spec_EmptyTriangles.l2] at H
    by_cases c11 : x6_3 < a0_0
    ·rw [if_pos c11] at H
     have c11b0 : decide (x6_3 < a0_0) = true := decide_eq_true c11
     clear c11
     obtain ⟨t915, A12, H⟩ := zO H
     obtain ⟨t916, A13, H⟩ := zO H
     have H' := Aside0.mk H; clear H
     obtain ⟨hcz14_0, hcz14_1, hfz14_0, hfz14_1⟩ := zq2 BK913.out
     go_wp2_with (first | ((with_reducible refine gate_callee (f := 117) rfl ?_); refine zD (some 37) Try.func117 #[.agg #[.int .i64 a0_0, .string a0_1], .int .i64 x4_1, .int .i64 x5_2, .int .i64 x6_3] ?_; (with_reducible refine (spec_l5Inside.calls k3 a0_0 a0_1 x4_1 x5_2 x6_3 t915 _ A12.out).mono ?_); rintro e w15 ⟨rfl, hb⟩; refine ⟨_, rfl, ?_⟩; replace BK913 := zV BK913.out hb; replace HB := zX1 GE913.out hb; (try clear hb)) | ((with_reducible refine gate_callee (f := 119) rfl ?_); refine zD (some 39) Try.func119 #[.bool (t915 == 0)] ?_; (with_reducible refine (spec_l1Bit.calls (t915 == 0) t916 _ A13.out).mono ?_); rintro e w' ⟨rfl, ⟨nd, rfl⟩⟩; refine ⟨_, rfl, ?_⟩))
     go_roundg k3
     case measure => have := HK1.out; have := HK2.out; have := HK3.out; omega
     case rel => exact ⟨(wrap64 (x3_3 + t916)), (wrap64 (x6_3 + 1)), zF, zF, H', ⟨by have := HK1.out; have := HK2.out; have := HK3.out; omega⟩, ⟨zK BK913.out⟩, ⟨zG GE913.out⟩⟩
    rw [if_neg c11] at H
    have c11b0 : decide (x6_3 < a0_0) = false := decide_eq_false c11
    clear c11
    have H' := Aside0.mk H; clear H
    obtain ⟨hcz16_0, hcz16_1, hfz16_0, hfz16_1⟩ := zq2 BK913.out
    go_wp2
    go_roundg k3
    case measure => have := HK1.out; have := HK2.out; have := HK3.out; omega
    case rel => exact ⟨(x3_3), (wrap64 (x5_2 + 1)), zF, zF, H', ⟨by have := HK1.out; have := HK2.out; have := HK3.out; omega⟩, ⟨zK BK913.out⟩, ⟨zG GE913.out⟩⟩
   rw [if_neg c9] at H
   have c9b0 : decide (x5_2 < a0_0) = false := decide_eq_false c9
   clear c9
   have H' := Aside0.mk H; clear H
   obtain ⟨hcz17_0, hcz17_1, hfz17_0, hfz17_1⟩ := zq2 BK913.out
   go_wp2
   go_roundg k2
   case measure => have := HK1.out; have := HK2.out; omega
   case rel => exact ⟨(x3_2), (wrap64 (x4_1 + 1)), zF, zF, H', ⟨by have := HK1.out; have := HK2.out; omega⟩, ⟨zK BK913.out⟩, ⟨zG GE913.out⟩⟩
  rw [if_neg c7] at H
  have c7b0 : decide (x4_1 < a0_0) = false := decide_eq_false c7
  clear c7
  obtain rfl := Option.some.inj H
  obtain ⟨hcz18_0, hcz18_1, hfz18_0, hfz18_1⟩ := zq2 BK913.out
  go_wp2
  go_ret
  exact ⟨zE, zG GE913.out⟩
 replace c3 := Bool.eq_false_iff.mpr c3
 subst c3
 replace H := (if_neg zFf).symm.trans H
 obtain rfl := Option.some.inj H
 go_enter Try.func46, Try.ntmps46
 go_wp2_with (first | ((with_reducible refine gate_dst (N := 1) rfl ?_); refine zBx (N := 1) #[.int .i64 a0_0, .string a0_1] 25 ?_; intro gb913 hg w19 hbox hb; have BK913 := Aside0.mk (hbox); have GW913 := zS hg; have GE913 := zS hg; replace HB := zX hb; clear hb hbox hg; obtain ⟨hcz20_0, hcz20_1, hfz20_0, hfz20_1⟩ := zq2 BK913.out) | ((with_reducible refine gate_callee (f := 24) rfl ?_); refine zD (some 8) Try.func24 #[.agg #[.int .i64 a0_0, .string a0_1]] ?_; (with_reducible refine (spec_IsAcyclic.calls k a0_0 a0_1 false _ A2.out).mono ?_); rintro e w21 ⟨rfl, hb⟩; refine ⟨_, rfl, ?_⟩; replace BK913 := zV BK913.out hb; replace HB := zX1 GE913.out hb; (try clear hb)))
 go_ret
 exact ⟨zE, zG GE913.out⟩
/-! ### laws_size: function 47 -/
def laws_size.l0 : Nat → Int → Int → Option (Int)
 | 0, _, _ => none
 | k + 1, x0, x3 => if x0 > 0 then (laws_size.l0 k (wrap64 (Int.tdiv x0 2)) (wrap64 (x3 + (Int.tmod x0 2)))) else (some x3)
def laws_size.f (k : Nat) (a0 : Int) : Option (Int) := laws_size.l0 k a0 0
theorem laws_size.mono_l : ∀ k, (∀ y0 y1, LeO (laws_size.l0 k y0 y1) (laws_size.l0 (k + 1) y0 y1))
 | 0 => fun _ _ r h => by simp [laws_size.l0] at h
 | k + 1 => by
  have ih0 := laws_size.mono_l k
  ·intro y0 y1
   unfold laws_size.l0
   repeat' first
   | (with_reducible first | exact ih0 .. | exact LeO.refl _ | exact LeO.none _ | refine LeO.ite ?_ ?_ | refine LeO.bind ?_ (fun _ => ?_))
   | exact ih0 .. | exact LeO.none _ | refine LeO.ite ?_ ?_ | refine LeO.bind ?_ (fun _ => ?_)
theorem laws_size.mono : ∀ a0 k, LeO (laws_size.f k a0) (laws_size.f (k + 1) a0) := by
 intro a0 k
 have ih0 := laws_size.mono_l k
 unfold laws_size.f
 repeat' first
   | (with_reducible first | exact ih0 .. | exact LeO.refl _ | exact LeO.none _ | refine LeO.ite ?_ ?_ | refine LeO.bind ?_ (fun _ => ?_))
   | exact ih0 .. | exact LeO.none _ | refine LeO.ite ?_ ?_ | refine LeO.bind ?_ (fun _ => ?_)
set_option maxHeartbeats 8000000 in
set_option maxRecDepth 100000 in
theorem laws_size.calls (k : Nat) (a0 : Int) (r : Int) (w : World) (h : laws_size.f k a0 = some r) :
  Calls Try.prog 47 #[.int .i64 a0] w fun e w' => e = .returned (.int .i64 r) ∧ Drawn0 w w' := by
 have H : (laws_size.l0 k a0 0) = some r := h
 clear h
 have H' := Aside0.mk H; clear H
 go_enter Try.func47, Try.ntmps47
 go_wp2
 go_loopg [0, 3] k (fun kq v0 v3 w' => ∃ (x0_1 : Int) (x3_1 : Int), v0 = .int .i64 x0_1 ∧ v3 = .int .i64 x3_1 ∧ Aside0 (laws_size.l0 kq x0_1 x3_1 = some r) ∧ Aside0 (kq ≤ k) ∧ Drawn0 w w')
 case atStart => exact ⟨(a0), (0), zF, zF, H', ⟨Nat.le_refl _⟩, by repeat (first | exact Drawn0.refl _ | apply Drawn0.step)⟩
 case round =>
 clear H'
 obtain ⟨x0_1, x3_1, rfl, rfl, HA, HK1, ⟨m1, rfl⟩⟩ := hrel
 cases gk with
 | zero => exact absurd HA.out (by simp [laws_size.l0])
 | succ k1 =>
 have H := HA.out
 clear HA
 simp only [laws_size.l0] at H
 by_cases c2 : x0_1 > 0
 ·rw [if_pos c2] at H
  have c2b0 : decide (0 < x0_1) = true := decide_eq_true c2
  clear c2
  have H' := Aside0.mk H; clear H
  go_wp2
  go_roundg k1
  case measure => have := HK1.out; omega
  case rel => exact ⟨(wrap64 (Int.tdiv x0_1 2)), (wrap64 (x3_1 + (Int.tmod x0_1 2))), zF, zF, H', ⟨by have := HK1.out; omega⟩, by repeat (first | exact Drawn0.refl _ | apply Drawn0.step)⟩
 rw [if_neg c2] at H
 have c2b0 : decide (0 < x0_1) = false := decide_eq_false c2
 clear c2
 obtain rfl := Option.some.inj H
 go_wp2
 go_ret
 exact ⟨by first | rfl | (simp; done) | (simp [*]; done), by repeat (first | exact Drawn0.refl _ | apply Drawn0.step)⟩
end Go.Proofs.Ytckkfjdkaimmhaa.PX
