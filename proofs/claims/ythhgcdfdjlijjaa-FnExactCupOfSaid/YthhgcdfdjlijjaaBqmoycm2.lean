/- A part of proofs about signs and points: what some functions answer, and that their calls answer so. No condition. -/
import Derived.Test.YthhgcdfdjlijjaaProg
import Derived.Test.YthhgcdfdjlijjaaV1
import Derived.Test.YthhgcdfdjlijjaaBqmoycm1
set_option linter.unusedVariables false
set_option linter.unusedSimpArgs false
namespace Go.Proofs.Ythhgcdfdjlijjaa.PX
open Go.RowKit Go.Proofs.Ythhgcdfdjlijjaa.G Go.Proofs.YthhgcdfdjlijjaaW.PrintWords Go.Proofs.YthhgcdfdjlijjaaW.PrintLast Go.Proofs.YthhgcdfdjlijjaaW.PrintMore
attribute [local go_sem] max2_int min2_int max_two min_two max_three min_three max_four min_four   -- for this text's walks alone
set_option linter.unusedVariables false
set_option linter.unusedSimpArgs false
/-! ### impl_tableOf: function 46 -/
def impl_tableOf.l0 : Nat → List Int → List (S59) → Int → Int → Int → ByteArray → Option (List Int)
 | 0, _, _, _, _, _, _ => none
 | k + 1, x3, x13, x14, x15, x265000, x265001 => if x15 < x14 then (if 0 ≤ x15 then (if x15 < (x13.length : Int) then (if x15 < (x265001.size : Int) then (if (bt x265001 x15) = 45 then (if x3.length = 344 then ((impl_chi_set.f x3 ((rd_T59 x13 x15).f0) ((rd_T59 x13 x15).f1) ((rd_T59 x13 x15).f2) (-1)).bind fun t273 => (impl_tableOf.l0 k t273 x13 x14 (wrap64 (x15 + 1)) x265000 x265001)) else (none)) else (if x3.length = 344 then ((impl_chi_set.f x3 ((rd_T59 x13 x15).f0) ((rd_T59 x13 x15).f1) ((rd_T59 x13 x15).f2) 1).bind fun t274 => (impl_tableOf.l0 k t274 x13 x14 (wrap64 (x15 + 1)) x265000 x265001)) else (none))) else (none)) else (none)) else (none)) else (some x3)
def impl_tableOf.f (k : Nat) (a0_0 : Int) (a0_1 : ByteArray) : Option (List Int) := (impl_triplesOf.f k a0_0).bind fun t268 => (impl_tableOf.l0 k (a0_0 :: List.replicate 343 (0 : Int)) t268 (t268.length : Int) 0 a0_0 a0_1)
theorem zl53_0 {p q p0 p1 : Prop} (g : p) (g0 : p0) (g1 : p1) (h : p → p0 → p1 → q := by intro zg_ z0_ z1_; repeat (first | (with_reducible first | exact zg_ | apply below_alloc | apply pw_below_drewN | apply below_drew1 | refine below_set ?_ z0_ | refine below_set ?_ z1_) | exact zg_)) : q := h g g0 g1
set_option maxHeartbeats 8000000 in
set_option maxRecDepth 100000 in
theorem impl_tableOf.calls (k : Nat) (a0_0 : Int) (a0_1 : ByteArray) (r : List Int) (w : World) (h : impl_tableOf.f k a0_0 a0_1 = some r) :
  Calls Try.prog 46 #[.agg #[.int .i64 a0_0, .string a0_1]] w fun e w' => ∃ v0_ : Value, e = .returned (ptrOf v0_) ∧ Kd.R (Kd.int .i64) 73 w' w.heap.size (fun _ => True) v0_ r ∧ Below w.heap.size w w' := by
 have hu35 := Try.underlying35
 have hu59 := Try.underlying59
 have HB := Aside0.mk (Below.refl w.heap.size w)
 have H : ((impl_triplesOf.f k a0_0).bind fun t268 => (impl_tableOf.l0 k (a0_0 :: List.replicate 343 (0 : Int)) t268 (t268.length : Int) 0 a0_0 a0_1)) = some r := h
 clear h
 obtain ⟨y265, hy265⟩ : ∃ y_ : List Int, y_ = (a0_0 :: List.replicate 343 (0 : Int)) := ⟨_, rfl⟩
 replace H : ((impl_triplesOf.f k a0_0).bind fun t268 => (impl_tableOf.l0 k y265 t268 (t268.length : Int) 0 a0_0 a0_1)) = some r := by first | (rw [hy265]; with_reducible exact H) | (have H2_ := (Option.bind_some _ _).symm.trans H; rw [hy265]; with_reducible exact H2_) | (have H2_ := (Option.bind_some _ _).symm.trans H; with_reducible exact H2_) | with_reducible exact H | (rw [hy265]; exact H) | exact H
 have Ny265 := Aside0.mk hy265
 clear hy265
 obtain ⟨t268, A2, H⟩ := zO H
 have H' := Aside0.mk H; clear H
 go_enter Try.func46, Try.ntmps46
 go_wp2_with (first | ((with_reducible refine gate_dst (N := 1) rfl ?_); refine zBx (N := 1) #[.int .i64 a0_0, .string a0_1] 35 ?_; intro gb264 hg w3 hbox hb; have BK264 := Aside0.mk (hbox); have GW264 := zS hg; have GE264 := zS hg; replace HB := zX hb; clear hb hbox hg; obtain ⟨hcz4_0, hcz4_1, hfz4_0, hfz4_1⟩ := zq2 BK264.out) | ((with_reducible refine gate_dst (N := 9) rfl ?_); refine chi_build_event (T := 73) (s := 8) (n := a0_0) rfl rfl ?hx chi_built ?_; (case hx => first | rfl | (go_simp; done) | (go_simp; rfl))) | ((with_reducible refine gate_dst (N := 10) rfl ?_); refine chi_box_event (n := a0_0) (T := 73) (N := 10) ?hg ?hd ?hr w.heap.size ?hs ?_; (case hd => rfl); (case hg => rfl); (case hr => first | (go_simp; done) | (go_simp; rfl)); (case hs => exact (below_size (zG GE264.out))); intro v266 w5 ho hb; rw [← Ny265.out] at ho; replace BK264 := zV BK264.out hb; have HO267 := Aside0.mk (ho); replace HB := zX1 GE264.out hb; clear hb ho; obtain ⟨hcz6_0, hcz6_1, hfz6_0, hfz6_1⟩ := zq2 BK264.out) | ((with_reducible refine gate_callee (f := 39) rfl ?_); refine zD (some 13) Try.func39 #[.int .i64 a0_0] ?_; (with_reducible refine (impl_triplesOf.calls k a0_0 t268 _ A2.out).mono ?_); rintro e w7 ⟨v269, rfl, ho0, hb⟩; refine ⟨_, rfl, ?_⟩; replace HO267 := zW HO267.out hb; have HO270 := Aside0.mk (Kd.R_lower ho0 (below_size (zG GE264.out))); replace BK264 := zV BK264.out hb; replace HB := zX1 GE264.out hb; (try clear hb); (try clear ho0); obtain ⟨Ao8, co8, eo8⟩ := Kd.R_slice HO270.out; subst eo8))
 go_loopg [15] k (fun kq v15 w' => ∃ (x3_1 : List Int) (x15_1 : Int), v15 = .int .i64 x15_1 ∧ Aside0 (impl_tableOf.l0 kq x3_1 t268 (t268.length : Int) x15_1 a0_0 a0_1 = some r) ∧ Aside0 (kq ≤ k) ∧ Aside0 (Kd.R (Kd.int .i64) 73 w' w.heap.size (fun _ => True) v266 x3_1) ∧ Aside0 (Kd.R k59 59 w' w.heap.size (fun _ => True) (.slice Ao8 t268.length co8) t268) ∧ Aside0 (w'.heap[gb264]? = some (.cells #[.int .i64 a0_0, .string a0_1] 35 (0, 0))) ∧ Aside0 (Below w.heap.size w w'))
 case atStart => exact ⟨(y265), (0), zF, H', ⟨Nat.le_refl _⟩, ⟨zR HO267.out⟩, ⟨zR HO270.out⟩, ⟨zK BK264.out⟩, ⟨zG GE264.out⟩⟩
 case round =>
 clear H'
 try clear hcz4_0
 try clear hcz4_1
 try clear hcz6_0
 try clear hcz6_1
 try clear hfz4_0
 try clear hfz4_1
 try clear hfz6_0
 try clear hfz6_1
 obtain ⟨x3_1, x15_1, rfl, HA, HK1, HO_3, HO_13, BK264, HB⟩ := hrel
 cases gk with
 | zero => exact absurd HA.out (by simp [impl_tableOf.l0])
 | succ k1 =>
 have H := HA.out
 clear HA
 simp only [impl_tableOf.l0] at H
 by_cases c9 : x15_1 < (t268.length : Int)
 ·rw [if_pos c9] at H
  have c9b0 := decide_eq_true c9
  clear c9
  by_cases c10 : 0 ≤ x15_1
  ·rw [if_pos c10] at H
   have c10b0 := decide_eq_true c10
   clear c10
   by_cases c11 : x15_1 < (t268.length : Int)
   ·rw [if_pos c11] at H
    have c11b0 := decide_eq_true c11
    clear c11
    by_cases c12 : x15_1 < (a0_1.size : Int)
    ·rw [if_pos c12] at H
     have c12b0 := decide_eq_true c12
     clear c12
     by_cases c14 : (bt a0_1 x15_1) = 45
     ·rw [if_pos c14] at H
      have c14b0 := beq_iff_eq.mpr c14
      have c14b1 := bne_eq_false_iff_eq.mpr c14
      clear c14
      by_cases c15 : x3_1.length = 344
      ·rw [if_pos c15] at H
       have c15b0 := eq_true c15
       have c15b1 := decide_eq_true c15
       clear c15
       obtain ⟨t273, A16, H⟩ := zO H
       have H' := Aside0.mk H; clear H
       have p271 : 0 ≤ (x15_1 : Int) := zA
       have q271 : x15_1 < (t268.length : Int) := zA
       obtain ⟨ad271, e271, hx271_0, hx271_1, hx271_2⟩ := at_T59 (Kd.R_reads' HO_13.out).2.2 x15_1 p271 q271
       cases e271
       replace p271 := eq_true p271
       replace q271 := eq_true q271
       go_wp2_with (first | ((with_reducible refine gate_dst (N := 5) rfl ?_); refine zBx (N := 5) #[.int .i64 0, .int .i64 0, .int .i64 0] 59 ?_; intro gb272 hg w17 hbox hb; replace HO_3 := zW HO_3.out hb; replace HO_13 := Aside0.mk (Kd.R_below (Kd.R_elderB (zR HO_13.out) gb272 (Nat.le_of_eq hg.symm)) hb); have BK272 := Aside0.mk (hbox); have GW272 := zSg hg (zG GE264.out); have GE272 := zSg hg (zG GE264.out); have NB264_272 := zL hg BK264.out; have NB272_264 := zLg hg BK264.out; replace BK264 := zV BK264.out hb; replace HB := zX1 GE264.out hb; clear hb hbox hg; have hnb18 := NB272_264.out; have hnc18 := NB264_272.out; obtain ⟨hcz19_0, hcz19_1, hcz19_2, hfz19_0, hfz19_1, hfz19_2⟩ := zq3 BK272.out) | ((with_reducible refine gate_store (t := 59) (p := 5) rfl ?_); refine store_event (t := 59) (p := 5) (v := ?vo_w20) (w1 := (((w17.setCell ⟨gb272, 0, none⟩ (.int .i64 ((rd_T59 t268 x15_1).f0))).setCell ⟨gb272, 1, none⟩ (.int .i64 ((rd_T59 t268 x15_1).f1))).setCell ⟨gb272, 2, none⟩ (.int .i64 ((rd_T59 t268 x15_1).f2)))) ?hg ?ho ?hn ?hr ?_; (case ho => rfl); (case hg => rfl); (case hn => rfl); (case hr => first | (go_simp; done) | (go_simp; rfl)); intro w20 hw; have n0_ : Aside0 (Kd.R (Kd.int .i64) 73 w20 w.heap.size (fun _ => True) v266 x3_1) := ⟨(by rw [hw]; exact (by (with_reducible repeat (first | apply Kd.R_alloc | apply Kd.R_drewN | apply Kd.R_drew)); exact Kd.R_mono (Kd.R_far (p := ⟨gb272, 2, none⟩) (Kd.R_far (p := ⟨gb272, 1, none⟩) (Kd.R_far (p := ⟨gb272, 0, none⟩) (Kd.R_types HO_3.out BK272.out (by decide)) (fun _ hk => hk.2) (.int .i64 ((rd_T59 t268 x15_1).f0))) (fun _ hk => hk.2) (.int .i64 ((rd_T59 t268 x15_1).f1))) (fun _ hk => hk.2) (.int .i64 ((rd_T59 t268 x15_1).f2))) (fun _ hk => trivial)))⟩; have n1_ : Aside0 (Kd.R k59 59 w20 w.heap.size (fun k_ => k_ ≠ gb272) (.slice (some ad271) t268.length co8) t268) := ⟨(by rw [hw]; exact (by (with_reducible repeat (first | apply Kd.R_alloc | apply Kd.R_drewN | apply Kd.R_drew)); exact Kd.R_mono (Kd.R_far (p := ⟨gb272, 2, none⟩) (Kd.R_far (p := ⟨gb272, 1, none⟩) (Kd.R_far (p := ⟨gb272, 0, none⟩) (Kd.R_mono HO_13.out (fun k_ hk => (⟨hk, hk.2⟩ : _ ∧ k_ ≠ gb272))) (fun _ hk => hk.2) (.int .i64 ((rd_T59 t268 x15_1).f0))) (fun _ hk => hk.2) (.int .i64 ((rd_T59 t268 x15_1).f1))) (fun _ hk => hk.2) (.int .i64 ((rd_T59 t268 x15_1).f2))) (fun _ hk => hk.1.2)))⟩; have n2_ : Aside0 (w20.heap[gb264]? = some (.cells #[.int .i64 a0_0, .string a0_1] 35 (0, 0))) := ⟨(by rw [hw]; exact (zk3 BK264.out NB264_272.out NB264_272.out NB264_272.out))⟩; have n3_ : Aside0 (w20.heap[gb272]? = some (.cells #[.int .i64 ((rd_T59 t268 x15_1).f0), .int .i64 ((rd_T59 t268 x15_1).f1), .int .i64 ((rd_T59 t268 x15_1).f2)] 59 (0, 0))) := ⟨(by rw [hw]; exact (zk0 BK272.out))⟩; have n4_ : Aside0 (Below w.heap.size w w20) := ⟨(by rw [hw]; exact (zG2 GE264.out GE272.out))⟩; clear hw; clear HO_3; clear HO_13; clear BK264; clear BK272; clear HB; have HO_3 := n0_; have HO_13 := n1_; have BK264 := n2_; have BK272 := n3_; have HB := n4_; clear n0_ n1_ n2_ n3_ n4_; obtain ⟨hcz21_0, hcz21_1, hfz21_0, hfz21_1⟩ := zq2 BK264.out; have p13 : 0 ≤ (x15_1 : Int) := zA; have q13 : x15_1 < (a0_1.size : Int) := zA; have hx13 := bt_at a0_1 x15_1; replace p13 := eq_true p13; replace q13 := eq_true q13; obtain ⟨hcz22_0, hcz22_1, hcz22_2, hfz22_0, hfz22_1, hfz22_2⟩ := zq3 BK272.out; obtain ⟨go23, co23, eo23, gb23, gl23, cl23, HG23⟩ := Kd.R_form HO_3.out (by have hl_ := Nat.le_of_eq (Eq.symm (zA : x3_1.length = 344)); omega); (first | cases eo23 | (injection eo23 with ea_ en_ ec_; (first | subst ea_ | (injection ea_ with ea_; subst ea_)); subst ec_; clear en_)); have GB23 := Aside0.mk gb23; have GG23 := Aside0.mk HG23; clear gb23 gl23 HG23) | ((with_reducible refine gate_callee (f := 66) rfl ?_); refine zD (some 33) Try.func66 #[.pointer (some ⟨go23, 0, none⟩), .int .i64 ((rd_T59 t268 x15_1).f0), .int .i64 ((rd_T59 t268 x15_1).f1), .int .i64 ((rd_T59 t268 x15_1).f2), .int .i64 (-1)] ?_; (with_reducible refine (impl_chi_set.calls (fun k_ => some k_ = (.slice (some ⟨go23, 0, none⟩) x3_1.length co23 : Value).ownBlock) (.slice (some ⟨go23, 0, none⟩) x3_1.length co23) x3_1 ((rd_T59 t268 x15_1).f0) ((rd_T59 t268 x15_1).f1) ((rd_T59 t268 x15_1).f2) (-1) t273 w _ ?side1 ?side2 A16.out).mono ?_); (case side1 => exact (zl53_0 HB.out GE264.out GE272.out)); (case side2 => exact Kd.R_tight rfl HO_3.out); rintro e w24 ⟨rfl, hy0, hb, hkp⟩; refine ⟨_, rfl, ?_⟩; replace HO_13 := Aside0.mk (Kd.R_mono (ok' := fun k_ => k_ ≠ gb272) (Kd.R_keptB ((Kd.R_apart' HO_13.out (Kd.R_typed HO_3.out) (by decide))) hkp (fun k_ hk_ hs_ => (hk_.2) hs_)) (fun k_ hk_ => hk_.1.1)); replace BK264 := Aside0.mk (blk_kept (zK BK264.out) hkp (fun hs_ => (fun e_ => (Kd.R_ne HO_3.out BK264.out (by decide)) e_) hs_)); replace BK272 := Aside0.mk (blk_kept (zK BK272.out) hkp (fun hs_ => (fun e_ => (Kd.R_ne HO_3.out BK272.out (by decide)) e_) hs_)); replace HO_3 := Aside0.mk (Kd.R_reok rfl hy0 (fun k_ e_ => HO_3.out.1 k_ e_)); replace HB := Aside0.mk (hb); (try clear hb); (try clear hkp); (try clear hy0)))
       go_roundg k1
       case measure => have := HK1.out; omega
       case rel => exact ⟨(t273), (wrap64 (x15_1 + 1)), zF, H', ⟨by have := HK1.out; omega⟩, ⟨zR HO_3.out⟩, ⟨by (with_reducible repeat (first | apply Kd.R_alloc | apply Kd.R_drewN | apply Kd.R_drew)); exact Kd.R_mono HO_13.out (fun _ hk => trivial)⟩, ⟨zK BK264.out⟩, ⟨zG2 GE264.out GE272.out⟩⟩
      rw [if_neg c15] at H
      exact absurd H (by simp)
     rw [if_neg c14] at H
     have c14b0 := beq_eq_false_iff_ne.mpr c14
     have c14b1 := bne_iff_ne.mpr c14
     by_cases c25 : x3_1.length = 344
     ·rw [if_pos c25] at H
      have c25b0 := eq_true c25
      have c25b1 := decide_eq_true c25
      clear c25
      obtain ⟨t274, A26, H⟩ := zO H
      have H' := Aside0.mk H; clear H
      have p271 : 0 ≤ (x15_1 : Int) := zA
      have q271 : x15_1 < (t268.length : Int) := zA
      obtain ⟨ad271, e271, hx271_0, hx271_1, hx271_2⟩ := at_T59 (Kd.R_reads' HO_13.out).2.2 x15_1 p271 q271
      cases e271
      replace p271 := eq_true p271
      replace q271 := eq_true q271
      go_wp2_with (first | ((with_reducible refine gate_dst (N := 5) rfl ?_); refine zBx (N := 5) #[.int .i64 0, .int .i64 0, .int .i64 0] 59 ?_; intro gb272 hg w27 hbox hb; replace HO_3 := zW HO_3.out hb; replace HO_13 := Aside0.mk (Kd.R_below (Kd.R_elderB (zR HO_13.out) gb272 (Nat.le_of_eq hg.symm)) hb); have BK272 := Aside0.mk (hbox); have GW272 := zSg hg (zG GE264.out); have GE272 := zSg hg (zG GE264.out); have NB264_272 := zL hg BK264.out; have NB272_264 := zLg hg BK264.out; replace BK264 := zV BK264.out hb; replace HB := zX1 GE264.out hb; clear hb hbox hg; have hnb28 := NB272_264.out; have hnc28 := NB264_272.out; obtain ⟨hcz29_0, hcz29_1, hcz29_2, hfz29_0, hfz29_1, hfz29_2⟩ := zq3 BK272.out) | ((with_reducible refine gate_store (t := 59) (p := 5) rfl ?_); refine store_event (t := 59) (p := 5) (v := ?vo_w30) (w1 := (((w27.setCell ⟨gb272, 0, none⟩ (.int .i64 ((rd_T59 t268 x15_1).f0))).setCell ⟨gb272, 1, none⟩ (.int .i64 ((rd_T59 t268 x15_1).f1))).setCell ⟨gb272, 2, none⟩ (.int .i64 ((rd_T59 t268 x15_1).f2)))) ?hg ?ho ?hn ?hr ?_; (case ho => rfl); (case hg => rfl); (case hn => rfl); (case hr => first | (go_simp; done) | (go_simp; rfl)); intro w30 hw; have n0_ : Aside0 (Kd.R (Kd.int .i64) 73 w30 w.heap.size (fun _ => True) v266 x3_1) := ⟨(by rw [hw]; exact (by (with_reducible repeat (first | apply Kd.R_alloc | apply Kd.R_drewN | apply Kd.R_drew)); exact Kd.R_mono (Kd.R_far (p := ⟨gb272, 2, none⟩) (Kd.R_far (p := ⟨gb272, 1, none⟩) (Kd.R_far (p := ⟨gb272, 0, none⟩) (Kd.R_types HO_3.out BK272.out (by decide)) (fun _ hk => hk.2) (.int .i64 ((rd_T59 t268 x15_1).f0))) (fun _ hk => hk.2) (.int .i64 ((rd_T59 t268 x15_1).f1))) (fun _ hk => hk.2) (.int .i64 ((rd_T59 t268 x15_1).f2))) (fun _ hk => trivial)))⟩; have n1_ : Aside0 (Kd.R k59 59 w30 w.heap.size (fun k_ => k_ ≠ gb272) (.slice (some ad271) t268.length co8) t268) := ⟨(by rw [hw]; exact (by (with_reducible repeat (first | apply Kd.R_alloc | apply Kd.R_drewN | apply Kd.R_drew)); exact Kd.R_mono (Kd.R_far (p := ⟨gb272, 2, none⟩) (Kd.R_far (p := ⟨gb272, 1, none⟩) (Kd.R_far (p := ⟨gb272, 0, none⟩) (Kd.R_mono HO_13.out (fun k_ hk => (⟨hk, hk.2⟩ : _ ∧ k_ ≠ gb272))) (fun _ hk => hk.2) (.int .i64 ((rd_T59 t268 x15_1).f0))) (fun _ hk => hk.2) (.int .i64 ((rd_T59 t268 x15_1).f1))) (fun _ hk => hk.2) (.int .i64 ((rd_T59 t268 x15_1).f2))) (fun _ hk => hk.1.2)))⟩; have n2_ : Aside0 (w30.heap[gb264]? = some (.cells #[.int .i64 a0_0, .string a0_1] 35 (0, 0))) := ⟨(by rw [hw]; exact (zk3 BK264.out NB264_272.out NB264_272.out NB264_272.out))⟩; have n3_ : Aside0 (w30.heap[gb272]? = some (.cells #[.int .i64 ((rd_T59 t268 x15_1).f0), .int .i64 ((rd_T59 t268 x15_1).f1), .int .i64 ((rd_T59 t268 x15_1).f2)] 59 (0, 0))) := ⟨(by rw [hw]; exact (zk0 BK272.out))⟩; have n4_ : Aside0 (Below w.heap.size w w30) := ⟨(by rw [hw]; exact (zG2 GE264.out GE272.out))⟩; clear hw; clear HO_3; clear HO_13; clear BK264; clear BK272; clear HB; have HO_3 := n0_; have HO_13 := n1_; have BK264 := n2_; have BK272 := n3_; have HB := n4_; clear n0_ n1_ n2_ n3_ n4_; obtain ⟨hcz31_0, hcz31_1, hfz31_0, hfz31_1⟩ := zq2 BK264.out; have p13 : 0 ≤ (x15_1 : Int) := zA; have q13 : x15_1 < (a0_1.size : Int) := zA; have hx13 := bt_at a0_1 x15_1; replace p13 := eq_true p13; replace q13 := eq_true q13; obtain ⟨hcz32_0, hcz32_1, hcz32_2, hfz32_0, hfz32_1, hfz32_2⟩ := zq3 BK272.out; obtain ⟨go33, co33, eo33, gb33, gl33, cl33, HG33⟩ := Kd.R_form HO_3.out (by have hl_ := Nat.le_of_eq (Eq.symm (zA : x3_1.length = 344)); omega); (first | cases eo33 | (injection eo33 with ea_ en_ ec_; (first | subst ea_ | (injection ea_ with ea_; subst ea_)); subst ec_; clear en_)); have GB33 := Aside0.mk gb33; have GG33 := Aside0.mk HG33; clear gb33 gl33 HG33) | ((with_reducible refine gate_callee (f := 66) rfl ?_); refine zD (some 33) Try.func66 #[.pointer (some ⟨go33, 0, none⟩), .int .i64 ((rd_T59 t268 x15_1).f0), .int .i64 ((rd_T59 t268 x15_1).f1), .int .i64 ((rd_T59 t268 x15_1).f2), .int .i64 1] ?_; (with_reducible refine (impl_chi_set.calls (fun k_ => some k_ = (.slice (some ⟨go33, 0, none⟩) x3_1.length co33 : Value).ownBlock) (.slice (some ⟨go33, 0, none⟩) x3_1.length co33) x3_1 ((rd_T59 t268 x15_1).f0) ((rd_T59 t268 x15_1).f1) ((rd_T59 t268 x15_1).f2) 1 t274 w _ ?side1 ?side2 A26.out).mono ?_); (case side1 => exact (zl53_0 HB.out GE264.out GE272.out)); (case side2 => exact Kd.R_tight rfl HO_3.out); rintro e w34 ⟨rfl, hy0, hb, hkp⟩; refine ⟨_, rfl, ?_⟩; replace HO_13 := Aside0.mk (Kd.R_mono (ok' := fun k_ => k_ ≠ gb272) (Kd.R_keptB ((Kd.R_apart' HO_13.out (Kd.R_typed HO_3.out) (by decide))) hkp (fun k_ hk_ hs_ => (hk_.2) hs_)) (fun k_ hk_ => hk_.1.1)); replace BK264 := Aside0.mk (blk_kept (zK BK264.out) hkp (fun hs_ => (fun e_ => (Kd.R_ne HO_3.out BK264.out (by decide)) e_) hs_)); replace BK272 := Aside0.mk (blk_kept (zK BK272.out) hkp (fun hs_ => (fun e_ => (Kd.R_ne HO_3.out BK272.out (by decide)) e_) hs_)); replace HO_3 := Aside0.mk (Kd.R_reok rfl hy0 (fun k_ e_ => HO_3.out.1 k_ e_)); replace HB := Aside0.mk (hb); (try clear hb); (try clear hkp); (try clear hy0)))
      go_roundg k1
      case measure => have := HK1.out; omega
      case rel => exact ⟨(t274), (wrap64 (x15_1 + 1)), zF, H', ⟨by have := HK1.out; omega⟩, ⟨zR HO_3.out⟩, ⟨by (with_reducible repeat (first | apply Kd.R_alloc | apply Kd.R_drewN | apply Kd.R_drew)); exact Kd.R_mono HO_13.out (fun _ hk => trivial)⟩, ⟨zK BK264.out⟩, ⟨zG2 GE264.out GE272.out⟩⟩
     rw [if_neg c25] at H
     exact absurd H (by simp)
    rw [if_neg c12] at H
    exact absurd H (by simp)
   rw [if_neg c11] at H
   exact absurd H (by simp)
  rw [if_neg c10] at H
  exact absurd H (by simp)
 rw [if_neg c9] at H
 have c9b0 := decide_eq_false c9
 clear c9
 obtain rfl := Option.some.inj H
 go_wp2
 go_ret
 exact ⟨v266, zE, zR HO_3.out, zG GE264.out⟩
/-! ### impl_fullSet: function 47 -/
def impl_fullSet.f (a0 : Int) : Option (Int) := if 0 ≤ a0 then (some (wrap64 ((shl .i64 1 a0) - 1))) else (none)
set_option maxHeartbeats 8000000 in
set_option maxRecDepth 100000 in
theorem impl_fullSet.calls (a0 : Int) (r : Int) (w : World) (h : impl_fullSet.f a0 = some r) :
  Calls Try.prog 47 #[.int .i64 a0] w fun e w' => e = .returned (.int .i64 r) ∧ Drawn0 w w' := by
 have H : (if 0 ≤ a0 then (some (wrap64 ((shl .i64 1 a0) - 1))) else (none)) = some r := h
 clear h
 by_cases c2 : 0 ≤ a0
 ·rw [if_pos c2] at H
  have c2b0 := eq_true c2
  have c2b1 := decide_eq_true c2
  clear c2
  obtain ⟨ji3, hji3⟩ : ∃ j_ : Int, (shl .i64 1 a0) = j_ := ⟨_, rfl⟩
  replace H : (some (wrap64 ((ji3) - 1))) = some r := by first | (rw [hji3] at H; exact H) | (simp only [hji3] at H ⊢; exact H)
  have hji3_ : (IntKind.i64.wrap (1 * 2 ^ min a0.toNat 64)) = ji3 := hji3
  have hji3z : a0 ≤ 64 → (IntKind.i64.wrap (1 * 2 ^ a0.toNat)) = ji3 := shl_small hji3
  have hji3u : (IntKind.i64.wrap (2 ^ min a0.toNat 64)) = ji3 := by have h_ := hji3_; rw [Int.one_mul] at h_; exact h_
  have hji3v : a0 ≤ 64 → (IntKind.i64.wrap (2 ^ a0.toNat)) = ji3 := fun hle_ => by have h_ := hji3z hle_; rw [Int.one_mul] at h_; exact h_
  have hji3y : (wrap64 (1 * 2 ^ min a0.toNat 64)) = ji3 := (i64_w _).symm.trans hji3_
  have hji3x : a0 ≤ 64 → (wrap64 (1 * 2 ^ a0.toNat)) = ji3 := fun h_ => (i64_w _).symm.trans (hji3z h_)
  obtain rfl := Option.some.inj H
  go_enter Try.func47, Try.ntmps47
  go_wp2
  go_ret
  exact ⟨by first | rfl | (simp; done) | (simp only [← hji3] <;> (first | rfl | simp)) | (simp [*]; done), by repeat (first | exact Drawn0.refl _ | apply Drawn0.step)⟩
 rw [if_neg c2] at H
 exact absurd H (by simp)
/-! ### impl_elementsOf: function 48 -/
def impl_elementsOf.l0 : Nat → Int → List Int → Int → Option (List Int)
 | 0, _, _, _ => none
 | k + 1, x0, x3, x4 => if x4 < 63 then (if 0 ≤ x4 then (if (Go.bits .and .i64 (shr .i64 x0 x4) 1) = 1 then (if x3.length < 17592186044416 then (impl_elementsOf.l0 k x0 (x3 ++ [x4]) (wrap64 (x4 + 1))) else (none)) else (impl_elementsOf.l0 k x0 x3 (wrap64 (x4 + 1)))) else (none)) else (some x3)
def impl_elementsOf.f (k : Nat) (a0 : Int) : Option (List Int) := impl_elementsOf.l0 k a0 ([] : List Int) 0
theorem impl_elementsOf.mono_l : ∀ k, (∀ y0 y1 y2, LeO (impl_elementsOf.l0 k y0 y1 y2) (impl_elementsOf.l0 (k + 1) y0 y1 y2))
 | 0 => fun _ _ _ r h => by simp [impl_elementsOf.l0] at h
 | k + 1 => by
  have ih0 := impl_elementsOf.mono_l k
  ·intro y0 y1 y2
   unfold impl_elementsOf.l0
   repeat' first
   | (with_reducible first | exact ih0 .. | exact LeO.refl _ | exact LeO.none _ | refine LeO.ite ?_ ?_ | refine LeO.bind ?_ (fun _ => ?_))
   | exact ih0 .. | exact LeO.none _ | refine LeO.ite ?_ ?_ | refine LeO.bind ?_ (fun _ => ?_)
theorem impl_elementsOf.mono : ∀ a0 k, LeO (impl_elementsOf.f k a0) (impl_elementsOf.f (k + 1) a0) := by
 intro a0 k
 have ih0 := impl_elementsOf.mono_l k
 unfold impl_elementsOf.f
 repeat' first
   | (with_reducible first | exact ih0 .. | exact LeO.refl _ | exact LeO.none _ | refine LeO.ite ?_ ?_ | refine LeO.bind ?_ (fun _ => ?_))
   | exact ih0 .. | exact LeO.none _ | refine LeO.ite ?_ ?_ | refine LeO.bind ?_ (fun _ => ?_)
set_option maxHeartbeats 8000000 in
set_option maxRecDepth 100000 in
theorem impl_elementsOf.calls (k : Nat) (a0 : Int) (r : List Int) (w : World) (h : impl_elementsOf.f k a0 = some r) :
  Calls Try.prog 48 #[.int .i64 a0] w fun e w' => ∃ v0_ : Value, e = .returned (v0_) ∧ Kd.R (Kd.int .i64) 3 w' w.heap.size (fun _ => True) v0_ r ∧ Below w.heap.size w w' := by
 have HB := Aside0.mk (Below.refl w.heap.size w)
 have H : (impl_elementsOf.l0 k a0 ([] : List Int) 0) = some r := h
 clear h
 have H' := Aside0.mk H; clear H
 go_enter Try.func48, Try.ntmps48
 go_wp2
 go_loopg [3, 4] k (fun kq v3 v4 w' => ∃ (x3_1 : List Int) (x4_1 : Int), v4 = .int .i64 x4_1 ∧ Aside0 (impl_elementsOf.l0 kq a0 x3_1 x4_1 = some r) ∧ Aside0 (kq ≤ k) ∧ Aside0 (Kd.R (Kd.int .i64) 3 w' w.heap.size (fun _ => True) v3 x3_1) ∧ Aside0 (Below w.heap.size w w'))
 case atStart => exact ⟨(([] : List Int)), (0), zF, H', ⟨Nat.le_refl _⟩, ⟨by first | exact Kd.R_nil _ _ _ _ _ | exact Kd.N_nil _ _ _ _ _ | exact Kd.V_nil _ _ _ _ _ | exact Kd.Q_nil _ _ _ _ _ | exact Kd.S_nil _ _ _ _ _⟩, ⟨zB⟩⟩
 case round =>
 clear H'
 obtain ⟨x3_1, x4_1, rfl, HA, HK1, HO_3, HB⟩ := hrel
 cases gk with
 | zero => exact absurd HA.out (by simp [impl_elementsOf.l0])
 | succ k1 =>
 have H := HA.out
 clear HA
 simp only [impl_elementsOf.l0] at H
 by_cases c2 : x4_1 < 63
 ·rw [if_pos c2] at H
  have c2b0 := decide_eq_true c2
  clear c2
  by_cases c3 : 0 ≤ x4_1
  ·rw [if_pos c3] at H
   have c3b0 := eq_true c3
   have c3b1 := decide_eq_true c3
   clear c3
   obtain ⟨ji4, hji4⟩ : ∃ j_ : Int, (shr .i64 a0 x4_1) = j_ := ⟨_, rfl⟩
   replace H : (if (Go.bits .and .i64 (ji4) 1) = 1 then (if x3_1.length < 17592186044416 then (impl_elementsOf.l0 k1 a0 (x3_1 ++ [x4_1]) (wrap64 (x4_1 + 1))) else (none)) else (impl_elementsOf.l0 k1 a0 x3_1 (wrap64 (x4_1 + 1)))) = some r := by first | (rw [hji4] at H; exact H) | (simp only [hji4] at H ⊢; exact H)
   have hji4_ : (a0 / 2 ^ min x4_1.toNat 64) = ji4 := hji4
   have hji4z : x4_1 ≤ 64 → (a0 / 2 ^ x4_1.toNat) = ji4 := shr_small hji4
   by_cases c5 : (Go.bits .and .i64 (ji4) 1) = 1
   ·rw [if_pos c5] at H
    have c5b0 := beq_iff_eq.mpr c5
    have c5b1 := bne_eq_false_iff_eq.mpr c5
    clear c5
    by_cases c6 : x3_1.length < 17592186044416
    ·rw [if_pos c6] at H
     have LMc6 := Aside0.mk c6
     clear c6
     obtain ⟨y275, hy275⟩ : ∃ y_ : List Int, y_ = (x3_1 ++ [x4_1]) := ⟨_, rfl⟩
     replace H : (impl_elementsOf.l0 k1 a0 y275 (wrap64 (x4_1 + 1))) = some r := by first | (rw [hy275]; with_reducible exact H) | (have H2_ := (Option.bind_some _ _).symm.trans H; rw [hy275]; with_reducible exact H2_) | (have H2_ := (Option.bind_some _ _).symm.trans H; with_reducible exact H2_) | with_reducible exact H | (rw [hy275]; exact H) | exact H
     have Ny275 := Aside0.mk hy275
     clear hy275
     have H' := Aside0.mk H; clear H
     go_wp2_with (first | ((with_reducible refine gate_builtin (b := .append) (xs := #[.tmp 14, .tmp 16]) rfl ?_); at_builtin; refine Kd.R_append (Kd.int .i64) (w0 := w) w.heap.size rfl (.tmp 14) (.tmp 16) 33 3 (.int .i64 0) 8 rfl Try.underlying33 info3 rfl (by decide) (by omega) u3 x3_1 x4_1 [.int .i64 x4_1] (fun _ => True) (fun _ => False) rfl rfl ?aP (fun _ hk => hk.elim) ?aF ?aO ?aB ?aS ?aL ?_; (case aP => exact rfl); (case aB => exact zB); (case aF => exact (fun _ _ => trivial)); (case aO => exact (zR HO_3.out)); (case aS => exact (below_size zB)); (case aL => have := LMc6.out; omega); intro v276 w7 ho hb hg hat; rw [← Ny275.out] at ho; have n0_ := Aside0.mk (hb); have n1_ := Aside0.mk (ho); clear HB; clear HO_3; have HB := n0_; have HO277 := n1_; clear n0_ n1_; clear ho hb hg hat))
     go_roundg k1
     case measure => have := HK1.out; omega
     case rel => exact ⟨(y275), (wrap64 (x4_1 + 1)), zF, H', ⟨by have := HK1.out; omega⟩, ⟨zR HO277.out⟩, ⟨zB⟩⟩
    rw [if_neg c6] at H
    exact absurd H (by simp)
   rw [if_neg c5] at H
   have c5b0 := beq_eq_false_iff_ne.mpr c5
   have c5b1 := bne_iff_ne.mpr c5
   have H' := Aside0.mk H; clear H
   go_wp2
   go_roundg k1
   case measure => have := HK1.out; omega
   case rel => exact ⟨(x3_1), (wrap64 (x4_1 + 1)), zF, H', ⟨by have := HK1.out; omega⟩, ⟨zR HO_3.out⟩, ⟨zB⟩⟩
  rw [if_neg c3] at H
  exact absurd H (by simp)
 rw [if_neg c2] at H
 have c2b0 := decide_eq_false c2
 clear c2
 obtain rfl := Option.some.inj H
 go_wp2
 go_ret
 exact ⟨_, zE, zR HO_3.out, zB⟩
/-! ### cmp_isNaN_int: function 43 -/
def cmp_isNaN_int.f (a0 : Int) : Option (Bool) := some (a0 != a0)
set_option maxHeartbeats 8000000 in
set_option maxRecDepth 100000 in
theorem cmp_isNaN_int.calls (a0 : Int) (r : Bool) (w : World) (h : cmp_isNaN_int.f a0 = some r) :
  Calls Try.prog 43 #[.int .i64 a0] w fun e w' => e = .returned (.bool r) ∧ Drawn0 w w' := by
 have H : (some (a0 != a0)) = some r := h
 clear h
 obtain rfl := Option.some.inj H
 go_enter Try.func43, Try.ntmps43
 go_wp2
 go_ret
 exact ⟨by first | rfl | (simp; done) | (simp [*]; done), by repeat (first | exact Drawn0.refl _ | apply Drawn0.step)⟩
/-! ### cmp_Compare_int: function 30 -/
def cmp_Compare_int.f (a0 : Int) (a1 : Int) : Option (Int) := (cmp_isNaN_int.f a0).bind fun t176 => ((cmp_isNaN_int.f a1).bind fun t177 => (if t176 = true then (if t177 = true then (some 0) else (some (-1))) else (if t177 = true then (some 1) else (if a0 < a1 then (some (-1)) else (if a0 > a1 then (some 1) else (some 0))))))
set_option maxHeartbeats 8000000 in
set_option maxRecDepth 100000 in
theorem cmp_Compare_int.calls (a0 : Int) (a1 : Int) (r : Int) (w : World) (h : cmp_Compare_int.f a0 a1 = some r) :
  Calls Try.prog 30 #[.int .i64 a0, .int .i64 a1] w fun e w' => e = .returned (.int .i64 r) ∧ Drawn0 w w' := by
 have H : ((cmp_isNaN_int.f a0).bind fun t176 => ((cmp_isNaN_int.f a1).bind fun t177 => (if t176 = true then (if t177 = true then (some 0) else (some (-1))) else (if t177 = true then (some 1) else (if a0 < a1 then (some (-1)) else (if a0 > a1 then (some 1) else (some 0))))))) = some r := h
 clear h
 obtain ⟨t176, A3, H⟩ := zO H
 obtain ⟨t177, A4, H⟩ := zO H
 by_cases c5 : t176 = true
 ·subst c5
  replace H := (if_pos rfl).symm.trans H
  by_cases c6 : t177 = true
  ·subst c6
   replace H := (if_pos rfl).symm.trans H
   obtain rfl := Option.some.inj H
   go_enter Try.func30, Try.ntmps30
   go_wp2_with (first | ((with_reducible refine gate_callee (f := 43) rfl ?_); refine zD (some 8) Try.func43 #[.int .i64 a0] ?_; (with_reducible refine (cmp_isNaN_int.calls a0 true _ A3.out).mono ?_); rintro e w' ⟨rfl, ⟨nd, rfl⟩⟩; refine ⟨_, rfl, ?_⟩) | ((with_reducible refine gate_callee (f := 43) rfl ?_); refine zD (some 10) Try.func43 #[.int .i64 a1] ?_; (with_reducible refine (cmp_isNaN_int.calls a1 true _ A4.out).mono ?_); rintro e w' ⟨rfl, ⟨nd, rfl⟩⟩; refine ⟨_, rfl, ?_⟩))
   go_ret
   exact ⟨by first | rfl | (simp; done) | (simp [*]; done), by repeat (first | exact Drawn0.refl _ | apply Drawn0.step)⟩
  replace c6 := Bool.eq_false_iff.mpr c6
  subst c6
  replace H := (if_neg zFf).symm.trans H
  obtain rfl := Option.some.inj H
  go_enter Try.func30, Try.ntmps30
  go_wp2_with (first | ((with_reducible refine gate_callee (f := 43) rfl ?_); refine zD (some 8) Try.func43 #[.int .i64 a0] ?_; (with_reducible refine (cmp_isNaN_int.calls a0 true _ A3.out).mono ?_); rintro e w' ⟨rfl, ⟨nd, rfl⟩⟩; refine ⟨_, rfl, ?_⟩) | ((with_reducible refine gate_callee (f := 43) rfl ?_); refine zD (some 10) Try.func43 #[.int .i64 a1] ?_; (with_reducible refine (cmp_isNaN_int.calls a1 false _ A4.out).mono ?_); rintro e w' ⟨rfl, ⟨nd, rfl⟩⟩; refine ⟨_, rfl, ?_⟩))
  go_ret
  exact ⟨by first | rfl | (simp; done) | (simp [*]; done), by repeat (first | exact Drawn0.refl _ | apply Drawn0.step)⟩
 replace c5 := Bool.eq_false_iff.mpr c5
 subst c5
 replace H := (if_neg zFf).symm.trans H
 by_cases c7 : t177 = true
 ·subst c7
  replace H := (if_pos rfl).symm.trans H
  obtain rfl := Option.some.inj H
  go_enter Try.func30, Try.ntmps30
  go_wp2_with (first | ((with_reducible refine gate_callee (f := 43) rfl ?_); refine zD (some 8) Try.func43 #[.int .i64 a0] ?_; (with_reducible refine (cmp_isNaN_int.calls a0 false _ A3.out).mono ?_); rintro e w' ⟨rfl, ⟨nd, rfl⟩⟩; refine ⟨_, rfl, ?_⟩) | ((with_reducible refine gate_callee (f := 43) rfl ?_); refine zD (some 10) Try.func43 #[.int .i64 a1] ?_; (with_reducible refine (cmp_isNaN_int.calls a1 true _ A4.out).mono ?_); rintro e w' ⟨rfl, ⟨nd, rfl⟩⟩; refine ⟨_, rfl, ?_⟩))
  go_ret
  exact ⟨by first | rfl | (simp; done) | (simp [*]; done), by repeat (first | exact Drawn0.refl _ | apply Drawn0.step)⟩
 replace c7 := Bool.eq_false_iff.mpr c7
 subst c7
 replace H := (if_neg zFf).symm.trans H
 by_cases c8 : a0 < a1
 ·rw [if_pos c8] at H
  have c8b0 := decide_eq_true c8
  clear c8
  obtain rfl := Option.some.inj H
  go_enter Try.func30, Try.ntmps30
  go_wp2_with (first | ((with_reducible refine gate_callee (f := 43) rfl ?_); refine zD (some 8) Try.func43 #[.int .i64 a0] ?_; (with_reducible refine (cmp_isNaN_int.calls a0 false _ A3.out).mono ?_); rintro e w' ⟨rfl, ⟨nd, rfl⟩⟩; refine ⟨_, rfl, ?_⟩) | ((with_reducible refine gate_callee (f := 43) rfl ?_); refine zD (some 10) Try.func43 #[.int .i64 a1] ?_; (with_reducible refine (cmp_isNaN_int.calls a1 false _ A4.out).mono ?_); rintro e w' ⟨rfl, ⟨nd, rfl⟩⟩; refine ⟨_, rfl, ?_⟩))
  go_ret
  exact ⟨by first | rfl | (simp; done) | (simp [*]; done), by repeat (first | exact Drawn0.refl _ | apply Drawn0.step)⟩
 rw [if_neg c8] at H
 have c8b0 := decide_eq_false c8
 clear c8
 by_cases c9 : a0 > a1
 ·rw [if_pos c9] at H
  have c9b0 : decide (a1 < a0) = true := decide_eq_true c9
  clear c9
  obtain rfl := Option.some.inj H
  go_enter Try.func30, Try.ntmps30
  go_wp2_with (first | ((with_reducible refine gate_callee (f := 43) rfl ?_); refine zD (some 8) Try.func43 #[.int .i64 a0] ?_; (with_reducible refine (cmp_isNaN_int.calls a0 false _ A3.out).mono ?_); rintro e w' ⟨rfl, ⟨nd, rfl⟩⟩; refine ⟨_, rfl, ?_⟩) | ((with_reducible refine gate_callee (f := 43) rfl ?_); refine zD (some 10) Try.func43 #[.int .i64 a1] ?_; (with_reducible refine (cmp_isNaN_int.calls a1 false _ A4.out).mono ?_); rintro e w' ⟨rfl, ⟨nd, rfl⟩⟩; refine ⟨_, rfl, ?_⟩))
  go_ret
  exact ⟨by first | rfl | (simp; done) | (simp [*]; done), by repeat (first | exact Drawn0.refl _ | apply Drawn0.step)⟩
 rw [if_neg c9] at H
 have c9b0 : decide (a1 < a0) = false := decide_eq_false c9
 clear c9
 obtain rfl := Option.some.inj H
 go_enter Try.func30, Try.ntmps30
 go_wp2_with (first | ((with_reducible refine gate_callee (f := 43) rfl ?_); refine zD (some 8) Try.func43 #[.int .i64 a0] ?_; (with_reducible refine (cmp_isNaN_int.calls a0 false _ A3.out).mono ?_); rintro e w' ⟨rfl, ⟨nd, rfl⟩⟩; refine ⟨_, rfl, ?_⟩) | ((with_reducible refine gate_callee (f := 43) rfl ?_); refine zD (some 10) Try.func43 #[.int .i64 a1] ?_; (with_reducible refine (cmp_isNaN_int.calls a1 false _ A4.out).mono ?_); rintro e w' ⟨rfl, ⟨nd, rfl⟩⟩; refine ⟨_, rfl, ?_⟩))
 go_ret
 exact ⟨by first | rfl | (simp; done) | (simp [*]; done), by repeat (first | exact Drawn0.refl _ | apply Drawn0.step)⟩
/-! ### slices_Compare_int_int: function 49 -/
def slices_Compare_int_int.l0 : Nat → List Int → List Int → List Int → Int → Int → Option (Int)
 | 0, _, _, _, _, _ => none
 | k + 1, x0, x1, x9, x10, x11 => if x11 < x10 then (if 0 ≤ x11 then (if x11 < (x9.length : Int) then (if x11 ≥ (x1.length : Int) then (some 1) else (if x11 < (x1.length : Int) then ((cmp_Compare_int.f (rd x9 x11) (rd x1 x11)).bind fun t280 => (if t280 = 0 then (slices_Compare_int_int.l0 k x0 x1 x9 x10 (wrap64 (x11 + 1))) else (some t280))) else (none))) else (none)) else (none)) else (if (x0.length : Int) < (x1.length : Int) then (some (-1)) else (some 0))
def slices_Compare_int_int.f (k : Nat) (l0 : List Int) (l1 : List Int) : Option (Int) := slices_Compare_int_int.l0 k l0 l1 l0 (l0.length : Int) 0
theorem slices_Compare_int_int.mono_l : ∀ k, (∀ y0 y1 y2 y3 y4, LeO (slices_Compare_int_int.l0 k y0 y1 y2 y3 y4) (slices_Compare_int_int.l0 (k + 1) y0 y1 y2 y3 y4))
 | 0 => fun _ _ _ _ _ r h => by simp [slices_Compare_int_int.l0] at h
 | k + 1 => by
  have ih0 := slices_Compare_int_int.mono_l k
  ·intro y0 y1 y2 y3 y4
   unfold slices_Compare_int_int.l0
   repeat' first
   | (with_reducible first | exact ih0 .. | exact LeO.refl _ | exact LeO.none _ | refine LeO.ite ?_ ?_ | refine LeO.bind ?_ (fun _ => ?_))
   | exact ih0 .. | exact LeO.none _ | refine LeO.ite ?_ ?_ | refine LeO.bind ?_ (fun _ => ?_)
theorem slices_Compare_int_int.mono : ∀ a0 a1 k, LeO (slices_Compare_int_int.f k a0 a1) (slices_Compare_int_int.f (k + 1) a0 a1) := by
 intro a0 a1 k
 have ih0 := slices_Compare_int_int.mono_l k
 unfold slices_Compare_int_int.f
 repeat' first
   | (with_reducible first | exact ih0 .. | exact LeO.refl _ | exact LeO.none _ | refine LeO.ite ?_ ?_ | refine LeO.bind ?_ (fun _ => ?_))
   | exact ih0 .. | exact LeO.none _ | refine LeO.ite ?_ ?_ | refine LeO.bind ?_ (fun _ => ?_)
set_option maxHeartbeats 8000000 in
set_option maxRecDepth 100000 in
theorem slices_Compare_int_int.calls (k : Nat) (A0 : Option Addr) (c0 : Nat) (l0 : List Int) (A1 : Option Addr) (c1 : Nat) (l1 : List Int) (r : Int) (w : World) (hr0 : Kd.C (Kd.int .i64) w A0 l0.length l0) (hc0 : l0.length ≤ c0) (hr1 : Kd.C (Kd.int .i64) w A1 l1.length l1) (hc1 : l1.length ≤ c1) (h : slices_Compare_int_int.f k l0 l1 = some r) :
  Calls Try.prog 49 #[.slice A0 l0.length c0, .slice A1 l1.length c1] w fun e w' => e = .returned (.int .i64 r) ∧ Drawn0 w w' := by
 have HR0 := Aside0.mk hr0
 have HC0 := Aside0.mk hc0
 clear hr0 hc0
 have HR1 := Aside0.mk hr1
 have HC1 := Aside0.mk hc1
 clear hr1 hc1
 have H : (slices_Compare_int_int.l0 k l0 l1 l0 (l0.length : Int) 0) = some r := h
 clear h
 have H' := Aside0.mk H; clear H
 go_enter Try.func49, Try.ntmps49
 go_wp2
 go_loopg [11] k (fun kq v11 w' => ∃ (x11_1 : Int), v11 = .int .i64 x11_1 ∧ Aside0 (slices_Compare_int_int.l0 kq l0 l1 l0 (l0.length : Int) x11_1 = some r) ∧ Aside0 (kq ≤ k) ∧ Drawn0 w w')
 case atStart => exact ⟨(0), zF, H', ⟨Nat.le_refl _⟩, by repeat (first | exact Drawn0.refl _ | apply Drawn0.step)⟩
 case round =>
 clear H'
 obtain ⟨x11_1, rfl, HA, HK1, ⟨m1, rfl⟩⟩ := hrel
 cases gk with
 | zero => exact absurd HA.out (by simp [slices_Compare_int_int.l0])
 | succ k1 =>
 have H := HA.out
 clear HA
 simp only [slices_Compare_int_int.l0] at H
 by_cases c3 : x11_1 < (l0.length : Int)
 ·rw [if_pos c3] at H
  have c3b0 := decide_eq_true c3
  clear c3
  by_cases c4 : 0 ≤ x11_1
  ·rw [if_pos c4] at H
   have c4b0 := decide_eq_true c4
   clear c4
   by_cases c5 : x11_1 < (l0.length : Int)
   ·rw [if_pos c5] at H
    have c5b0 := decide_eq_true c5
    clear c5
    by_cases c6 : x11_1 ≥ (l1.length : Int)
    ·rw [if_pos c6] at H
     have c6b0 : decide ((l1.length : Int) ≤ x11_1) = true := decide_eq_true c6
     clear c6
     obtain rfl := Option.some.inj H
     have p278 : 0 ≤ (x11_1 : Int) := zA
     have q278 : x11_1 < (l0.length : Int) := zA
     obtain ⟨ad278, e278, hx278_0⟩ := Kd.at_int HR0.out x11_1 p278 q278
     cases e278
     replace p278 := eq_true p278
     replace q278 := eq_true q278
     go_wp2
     go_ret
     exact ⟨by first | rfl | (simp; done) | (simp [*]; done), by repeat (first | exact Drawn0.refl _ | apply Drawn0.step)⟩
    rw [if_neg c6] at H
    have c6b0 : decide ((l1.length : Int) ≤ x11_1) = false := decide_eq_false c6
    clear c6
    by_cases c7 : x11_1 < (l1.length : Int)
    ·rw [if_pos c7] at H
     have c7b0 := decide_eq_true c7
     clear c7
     obtain ⟨t280, A8, H⟩ := zO H
     by_cases c9 : t280 = 0
     ·rw [if_pos c9] at H
      have c9b0 := beq_iff_eq.mpr c9
      have c9b1 := bne_eq_false_iff_eq.mpr c9
      clear c9
      have H' := Aside0.mk H; clear H
      have p278 : 0 ≤ (x11_1 : Int) := zA
      have q278 : x11_1 < (l0.length : Int) := zA
      obtain ⟨ad278, e278, hx278_0⟩ := Kd.at_int HR0.out x11_1 p278 q278
      cases e278
      replace p278 := eq_true p278
      replace q278 := eq_true q278
      have p279 : 0 ≤ (x11_1 : Int) := zA
      have q279 : x11_1 < (l1.length : Int) := zA
      obtain ⟨ad279, e279, hx279_0⟩ := Kd.at_int HR1.out x11_1 p279 q279
      cases e279
      replace p279 := eq_true p279
      replace q279 := eq_true q279
      go_wp2_with (first | ((with_reducible refine gate_callee (f := 30) rfl ?_); refine zD (some 26) Try.func30 #[.int .i64 (rd l0 x11_1), .int .i64 (rd l1 x11_1)] ?_; (with_reducible refine (cmp_Compare_int.calls (rd l0 x11_1) (rd l1 x11_1) t280 _ A8.out).mono ?_); rintro e w' ⟨rfl, ⟨nd, rfl⟩⟩; refine ⟨_, rfl, ?_⟩))
      go_roundg k1
      case measure => have := HK1.out; omega
      case rel => exact ⟨(wrap64 (x11_1 + 1)), zF, H', ⟨by have := HK1.out; omega⟩, by repeat (first | exact Drawn0.refl _ | apply Drawn0.step)⟩
     rw [if_neg c9] at H
     have c9b0 := beq_eq_false_iff_ne.mpr c9
     have c9b1 := bne_iff_ne.mpr c9
     obtain rfl := Option.some.inj H
     have p278 : 0 ≤ (x11_1 : Int) := zA
     have q278 : x11_1 < (l0.length : Int) := zA
     obtain ⟨ad278, e278, hx278_0⟩ := Kd.at_int HR0.out x11_1 p278 q278
     cases e278
     replace p278 := eq_true p278
     replace q278 := eq_true q278
     have p279 : 0 ≤ (x11_1 : Int) := zA
     have q279 : x11_1 < (l1.length : Int) := zA
     obtain ⟨ad279, e279, hx279_0⟩ := Kd.at_int HR1.out x11_1 p279 q279
     cases e279
     replace p279 := eq_true p279
     replace q279 := eq_true q279
     go_wp2_with (first | ((with_reducible refine gate_callee (f := 30) rfl ?_); refine zD (some 26) Try.func30 #[.int .i64 (rd l0 x11_1), .int .i64 (rd l1 x11_1)] ?_; (with_reducible refine (cmp_Compare_int.calls (rd l0 x11_1) (rd l1 x11_1) t280 _ A8.out).mono ?_); rintro e w' ⟨rfl, ⟨nd, rfl⟩⟩; refine ⟨_, rfl, ?_⟩))
     go_ret
     exact ⟨by first | rfl | (simp; done) | (simp [*]; done), by repeat (first | exact Drawn0.refl _ | apply Drawn0.step)⟩
    rw [if_neg c7] at H
    exact absurd H (by simp)
   rw [if_neg c5] at H
   exact absurd H (by simp)
  rw [if_neg c4] at H
  exact absurd H (by simp)
 rw [if_neg c3] at H
 have c3b0 := decide_eq_false c3
 clear c3
 by_cases c10 : (l0.length : Int) < (l1.length : Int)
 ·rw [if_pos c10] at H
  have c10b0 := decide_eq_true c10
  have c10b1 : decide (l0.length < l1.length) = true := decide_eq_true (Int.ofNat_lt.mp c10)
  clear c10
  obtain rfl := Option.some.inj H
  go_wp2
  go_ret
  exact ⟨by first | rfl | (simp; done) | (simp [*]; done), by repeat (first | exact Drawn0.refl _ | apply Drawn0.step)⟩
 rw [if_neg c10] at H
 have c10b0 := decide_eq_false c10
 have c10b1 : decide (l0.length < l1.length) = false := decide_eq_false (fun h => c10 (Int.ofNat_lt.mpr h))
 clear c10
 obtain rfl := Option.some.inj H
 go_wp2
 go_ret
 exact ⟨by first | rfl | (simp; done) | (simp [*]; done), by repeat (first | exact Drawn0.refl _ | apply Drawn0.step)⟩
/-! ### impl_longest: function 34 -/
mutual
def impl_longest.l0 : Nat → Int → List Int → List Int → Int → Int → ByteArray → Option (List Int)
 | 0, _, _, _, _, _, _ => none
 | k + 1, x1, x5, x6, x7, x282000, x282001 => (impl_fullSet.f x282000).bind fun t286 => (if x7 ≤ t286 then ((impl_elementsOf.f k x7).bind fun t287 => ((impl_triplesOf.f k (t287.length : Int)).bind fun t290 => (impl_longest.l1 k x1 x5 x6 x7 t287 true t290 (t290.length : Int) 0 x282000 x282001))) else (some x6))
def impl_longest.l1 : Nat → Int → List Int → List Int → Int → List Int → Bool → List (S59) → Int → Int → Int → ByteArray → Option (List Int)
 | 0, _, _, _, _, _, _, _, _, _, _, _ => none
 | k + 1, x1, x5, x6, x7, x8, x9, x28, x29, x30, x282000, x282001 => if x30 < x29 then (if 0 ≤ x30 then (if x30 < (x28.length : Int) then (if x9 = true then (if 0 ≤ ((rd_T59 x28 x30).f0) then (if ((rd_T59 x28 x30).f0) < (x8.length : Int) then (if 0 ≤ ((rd_T59 x28 x30).f1) then (if ((rd_T59 x28 x30).f1) < (x8.length : Int) then (if 0 ≤ ((rd_T59 x28 x30).f2) then (if ((rd_T59 x28 x30).f2) < (x8.length : Int) then (if x5.length = 344 then (if 0 ≤ (rd x8 ((rd_T59 x28 x30).f0)) then (if (rd x8 ((rd_T59 x28 x30).f0)) < 7 then (if 0 ≤ (rd x8 ((rd_T59 x28 x30).f1)) then (if (rd x8 ((rd_T59 x28 x30).f1)) < 7 then (if 0 ≤ (rd x8 ((rd_T59 x28 x30).f2)) then (if (rd x8 ((rd_T59 x28 x30).f2)) < 7 then (impl_longest.l1 k x1 x5 x6 x7 x8 ((rd3 x5 (rd x8 ((rd_T59 x28 x30).f0)) (rd x8 ((rd_T59 x28 x30).f1)) (rd x8 ((rd_T59 x28 x30).f2))) == x1) x28 x29 (wrap64 (x30 + 1)) x282000 x282001) else (none)) else (none)) else (none)) else (none)) else (none)) else (none)) else (none)) else (none)) else (none)) else (none)) else (none)) else (none)) else (none)) else (impl_longest.l1 k x1 x5 x6 x7 x8 false x28 x29 (wrap64 (x30 + 1)) x282000 x282001)) else (none)) else (none)) else (if x9 = true then (if (x8.length : Int) > (x6.length : Int) then (impl_longest.l0 k x1 x5 x8 (wrap64 (x7 + 1)) x282000 x282001) else (if (x8.length : Int) = (x6.length : Int) then ((slices_Compare_int_int.f k x8 x6).bind fun t299 => (if t299 < 0 then (impl_longest.l0 k x1 x5 x8 (wrap64 (x7 + 1)) x282000 x282001) else (impl_longest.l0 k x1 x5 x6 (wrap64 (x7 + 1)) x282000 x282001))) else (impl_longest.l0 k x1 x5 x6 (wrap64 (x7 + 1)) x282000 x282001))) else (impl_longest.l0 k x1 x5 x6 (wrap64 (x7 + 1)) x282000 x282001))
end
def impl_longest.f (k : Nat) (a0_0 : Int) (a0_1 : ByteArray) (a1 : Int) : Option (List Int) := (impl_AreSigns.f k a0_0 a0_1).bind fun t282 => (if t282 = true then ((impl_tableOf.f k a0_0 a0_1).bind fun t283 => (impl_longest.l0 k a1 t283 ([] : List Int) 1 a0_0 a0_1)) else (some ([] : List Int)))
set_option maxHeartbeats 8000000 in
set_option maxRecDepth 100000 in
theorem impl_longest.calls (k : Nat) (a0_0 : Int) (a0_1 : ByteArray) (a1 : Int) (r : List Int) (w : World) (h : impl_longest.f k a0_0 a0_1 a1 = some r) :
  Calls Try.prog 34 #[.agg #[.int .i64 a0_0, .string a0_1], .int .i64 a1] w fun e w' => ∃ v0_ : Value, e = .returned (v0_) ∧ Kd.R (Kd.int .i64) 3 w' w.heap.size (fun _ => True) v0_ r ∧ Below w.heap.size w w' := by
 have hu35 := Try.underlying35
 have hu59 := Try.underlying59
 have hu73 := Try.underlying73
 have hu71 := Try.underlying71
 have hu70 := Try.underlying70
 have hu69 := Try.underlying69
 have HB := Aside0.mk (Below.refl w.heap.size w)
 have H : ((impl_AreSigns.f k a0_0 a0_1).bind fun t282 => (if t282 = true then ((impl_tableOf.f k a0_0 a0_1).bind fun t283 => (impl_longest.l0 k a1 t283 ([] : List Int) 1 a0_0 a0_1)) else (some ([] : List Int)))) = some r := h
 clear h
 obtain ⟨t282, A3, H⟩ := zO H
 by_cases c4 : t282 = true
 ·subst c4
  replace H := (if_pos rfl).symm.trans H
  obtain ⟨t283, A5, H⟩ := zO H
  have H' := Aside0.mk H; clear H
  go_enter Try.func34, Try.ntmps34
  go_wp2_with (first | ((with_reducible refine gate_dst (N := 2) rfl ?_); (try (refine gate_guard (by rfl) ?_; dsimp only)); refine zBx (N := 2) #[.int .i64 a0_0, .string a0_1] 35 ?_; intro gb281 hg w6 hbox hb; have BK281 := Aside0.mk (hbox); have GW281 := zS hg; have GE281 := zS hg; replace HB := zX hb; clear hb hbox hg; obtain ⟨hcz7_0, hcz7_1, hfz7_0, hfz7_1⟩ := zq2 BK281.out) | (go_at_call 45; (with_reducible refine (impl_AreSigns.calls k a0_0 a0_1 true _ A3.out).mono ?_); rintro e w8 ⟨rfl, hb⟩; replace BK281 := zV BK281.out hb; replace HB := zX1 GE281.out hb; (try clear hb); (try clear hb2); (try clear hk); (try clear hi); obtain ⟨hcz9_0, hcz9_1, hfz9_0, hfz9_1⟩ := zq2 BK281.out) | (go_at_call 46; (with_reducible refine (impl_tableOf.calls k a0_0 a0_1 t283 _ A5.out).mono ?_); rintro e w10 ⟨v284, rfl, ho0, hb⟩; have HO285 := Aside0.mk (Kd.R_lower ho0 (below_size (zG GE281.out))); replace BK281 := zV BK281.out hb; replace HB := zX1 GE281.out hb; (try clear hb); (try clear hb2); (try clear hk); (try clear hi); (try clear ho0)))
  repeat (go_quiet (first | ((with_reducible refine gate_dst (N := 2) rfl ?_); (try (refine gate_guard (by rfl) ?_; dsimp only)); refine zBx (N := 2) #[.int .i64 a0_0, .string a0_1] 35 ?_; intro gb281 hg w6 hbox hb; have BK281 := Aside0.mk (hbox); have GW281 := zS hg; have GE281 := zS hg; replace HB := zX hb; clear hb hbox hg; obtain ⟨hcz7_0, hcz7_1, hfz7_0, hfz7_1⟩ := zq2 BK281.out) | (go_at_call 45; (with_reducible refine (impl_AreSigns.calls k a0_0 a0_1 true _ A3.out).mono ?_); rintro e w8 ⟨rfl, hb⟩; replace BK281 := zV BK281.out hb; replace HB := zX1 GE281.out hb; (try clear hb); (try clear hb2); (try clear hk); (try clear hi); obtain ⟨hcz9_0, hcz9_1, hfz9_0, hfz9_1⟩ := zq2 BK281.out) | (go_at_call 46; (with_reducible refine (impl_tableOf.calls k a0_0 a0_1 t283 _ A5.out).mono ?_); rintro e w10 ⟨v284, rfl, ho0, hb⟩; have HO285 := Aside0.mk (Kd.R_lower ho0 (below_size (zG GE281.out))); replace BK281 := zV BK281.out hb; replace HB := zX1 GE281.out hb; (try clear hb); (try clear hb2); (try clear hk); (try clear hi); (try clear ho0))); try go_wp2_with (first | ((with_reducible refine gate_dst (N := 2) rfl ?_); (try (refine gate_guard (by rfl) ?_; dsimp only)); refine zBx (N := 2) #[.int .i64 a0_0, .string a0_1] 35 ?_; intro gb281 hg w6 hbox hb; have BK281 := Aside0.mk (hbox); have GW281 := zS hg; have GE281 := zS hg; replace HB := zX hb; clear hb hbox hg; obtain ⟨hcz7_0, hcz7_1, hfz7_0, hfz7_1⟩ := zq2 BK281.out) | (go_at_call 45; (with_reducible refine (impl_AreSigns.calls k a0_0 a0_1 true _ A3.out).mono ?_); rintro e w8 ⟨rfl, hb⟩; replace BK281 := zV BK281.out hb; replace HB := zX1 GE281.out hb; (try clear hb); (try clear hb2); (try clear hk); (try clear hi); obtain ⟨hcz9_0, hcz9_1, hfz9_0, hfz9_1⟩ := zq2 BK281.out) | (go_at_call 46; (with_reducible refine (impl_tableOf.calls k a0_0 a0_1 t283 _ A5.out).mono ?_); rintro e w10 ⟨v284, rfl, ho0, hb⟩; have HO285 := Aside0.mk (Kd.R_lower ho0 (below_size (zG GE281.out))); replace BK281 := zV BK281.out hb; replace HB := zX1 GE281.out hb; (try clear hb); (try clear hb2); (try clear hk); (try clear hi); (try clear ho0))))
  go_loopg [6, 7] k (fun kq v6 v7 w' => ∃ (x6_1 : List Int) (x7_1 : Int), v7 = .int .i64 x7_1 ∧ Aside0 (impl_longest.l0 kq a1 t283 x6_1 x7_1 a0_0 a0_1 = some r) ∧ Aside0 (kq ≤ k) ∧ Aside0 (Kd.R (Kd.int .i64) 73 w' w.heap.size (fun _ => True) v284 t283) ∧ Aside0 (Kd.R (Kd.int .i64) 3 w' w.heap.size (fun _ => True) v6 x6_1) ∧ Aside0 (w'.heap[gb281]? = some (.cells #[.int .i64 a0_0, .string a0_1] 35 (0, 0))) ∧ Aside0 (Below w.heap.size w w'))
  case atStart => exact ⟨(([] : List Int)), (1), zF, H', ⟨Nat.le_refl _⟩, ⟨zR HO285.out⟩, ⟨by first | exact Kd.R_nil _ _ _ _ _ | exact Kd.N_nil _ _ _ _ _ | exact Kd.V_nil _ _ _ _ _ | exact Kd.Q_nil _ _ _ _ _ | exact Kd.S_nil _ _ _ _ _⟩, ⟨zK BK281.out⟩, ⟨zG GE281.out⟩⟩
  case round =>
  clear H'
  try clear c4
  try clear hcz7_0
  try clear hcz7_1
  try clear hcz9_0
  try clear hcz9_1
  try clear hfz7_0
  try clear hfz7_1
  try clear hfz9_0
  try clear hfz9_1
  obtain ⟨x6_1, x7_1, rfl, HA, HK1, HO_5, HO_6, BK281, HB⟩ := hrel
  cases gk with
  | zero => exact absurd HA.out (by simp [impl_longest.l0])
  | succ k1 =>
  have H := HA.out
  clear HA
  simp only [impl_longest.l0] at H
  obtain ⟨t286, A11, H⟩ := zO H
  by_cases c12 : x7_1 ≤ t286
  ·rw [if_pos c12] at H
   have c12b0 := decide_eq_true c12
   clear c12
   obtain ⟨t287, A13, H⟩ := zO H
   obtain ⟨t290, A14, H⟩ := zO H
   have H' := Aside0.mk H; clear H
   obtain ⟨hcz15_0, hcz15_1, hfz15_0, hfz15_1⟩ := zq2 BK281.out
   go_wp2_with (first | (go_at_call 47; (with_reducible refine (impl_fullSet.calls a0_0 t286 _ A11.out).mono ?_); rintro e w' ⟨rfl, ⟨nd, rfl⟩⟩; (try first | exact ⟨rfl, _, World.drewN_drewN _ _ _⟩ | exact ⟨rfl, _, Eq.trans (World.drewN_drewN _ _ _) (congrArg (World.drewN _) (Nat.add_assoc _ _ _))⟩)) | (go_at_call 48; (with_reducible refine (impl_elementsOf.calls k1 x7_1 t287 _ A13.out).mono ?_); rintro e w16 ⟨v288, rfl, ho0, hb⟩; replace HO_5 := zW HO_5.out hb; have HO289 := Aside0.mk (Kd.R_lower (Kd.R_new' ho0 (Kd.R_lt (zR HO_6.out))) (below_size (zG GE281.out))); replace HO_6 := Aside0.mk (Kd.R_elder' (zR HO_6.out) (Kd.R_base ho0) hb); replace BK281 := zV BK281.out hb; replace HB := zX1 GE281.out hb; (try clear hb); (try clear hb2); (try clear hk); (try clear hi); (try clear ho0); obtain ⟨Ao17, co17, eo17⟩ := Kd.R_slice HO289.out; subst eo17) | (go_at_call 39; (with_reducible refine (impl_triplesOf.calls k1 (t287.length : Int) t290 _ A14.out).mono ?_); rintro e w18 ⟨v291, rfl, ho0, hb⟩; replace HO_5 := zW HO_5.out hb; replace HO_6 := zW HO_6.out hb; replace HO289 := zW HO289.out hb; have HO292 := Aside0.mk (Kd.R_lower ho0 (below_size (zG GE281.out))); replace BK281 := zV BK281.out hb; replace HB := zX1 GE281.out hb; (try clear hb); (try clear hb2); (try clear hk); (try clear hi); (try clear ho0); obtain ⟨Ao19, co19, eo19⟩ := Kd.R_slice HO292.out; subst eo19))
   repeat (go_quiet (first | (go_at_call 47; (with_reducible refine (impl_fullSet.calls a0_0 t286 _ A11.out).mono ?_); rintro e w' ⟨rfl, ⟨nd, rfl⟩⟩; (try first | exact ⟨rfl, _, World.drewN_drewN _ _ _⟩ | exact ⟨rfl, _, Eq.trans (World.drewN_drewN _ _ _) (congrArg (World.drewN _) (Nat.add_assoc _ _ _))⟩)) | (go_at_call 48; (with_reducible refine (impl_elementsOf.calls k1 x7_1 t287 _ A13.out).mono ?_); rintro e w16 ⟨v288, rfl, ho0, hb⟩; replace HO_5 := zW HO_5.out hb; have HO289 := Aside0.mk (Kd.R_lower (Kd.R_new' ho0 (Kd.R_lt (zR HO_6.out))) (below_size (zG GE281.out))); replace HO_6 := Aside0.mk (Kd.R_elder' (zR HO_6.out) (Kd.R_base ho0) hb); replace BK281 := zV BK281.out hb; replace HB := zX1 GE281.out hb; (try clear hb); (try clear hb2); (try clear hk); (try clear hi); (try clear ho0); obtain ⟨Ao17, co17, eo17⟩ := Kd.R_slice HO289.out; subst eo17) | (go_at_call 39; (with_reducible refine (impl_triplesOf.calls k1 (t287.length : Int) t290 _ A14.out).mono ?_); rintro e w18 ⟨v291, rfl, ho0, hb⟩; replace HO_5 := zW HO_5.out hb; replace HO_6 := zW HO_6.out hb; replace HO289 := zW HO289.out hb; have HO292 := Aside0.mk (Kd.R_lower ho0 (below_size (zG GE281.out))); replace BK281 := zV BK281.out hb; replace HB := zX1 GE281.out hb; (try clear hb); (try clear hb2); (try clear hk); (try clear hi); (try clear ho0); obtain ⟨Ao19, co19, eo19⟩ := Kd.R_slice HO292.out; subst eo19)); try go_wp2_with (first | (go_at_call 47; (with_reducible refine (impl_fullSet.calls a0_0 t286 _ A11.out).mono ?_); rintro e w' ⟨rfl, ⟨nd, rfl⟩⟩; (try first | exact ⟨rfl, _, World.drewN_drewN _ _ _⟩ | exact ⟨rfl, _, Eq.trans (World.drewN_drewN _ _ _) (congrArg (World.drewN _) (Nat.add_assoc _ _ _))⟩)) | (go_at_call 48; (with_reducible refine (impl_elementsOf.calls k1 x7_1 t287 _ A13.out).mono ?_); rintro e w16 ⟨v288, rfl, ho0, hb⟩; replace HO_5 := zW HO_5.out hb; have HO289 := Aside0.mk (Kd.R_lower (Kd.R_new' ho0 (Kd.R_lt (zR HO_6.out))) (below_size (zG GE281.out))); replace HO_6 := Aside0.mk (Kd.R_elder' (zR HO_6.out) (Kd.R_base ho0) hb); replace BK281 := zV BK281.out hb; replace HB := zX1 GE281.out hb; (try clear hb); (try clear hb2); (try clear hk); (try clear hi); (try clear ho0); obtain ⟨Ao17, co17, eo17⟩ := Kd.R_slice HO289.out; subst eo17) | (go_at_call 39; (with_reducible refine (impl_triplesOf.calls k1 (t287.length : Int) t290 _ A14.out).mono ?_); rintro e w18 ⟨v291, rfl, ho0, hb⟩; replace HO_5 := zW HO_5.out hb; replace HO_6 := zW HO_6.out hb; replace HO289 := zW HO289.out hb; have HO292 := Aside0.mk (Kd.R_lower ho0 (below_size (zG GE281.out))); replace BK281 := zV BK281.out hb; replace HB := zX1 GE281.out hb; (try clear hb); (try clear hb2); (try clear hk); (try clear hi); (try clear ho0); obtain ⟨Ao19, co19, eo19⟩ := Kd.R_slice HO292.out; subst eo19)))
   go_loopg [9, 30] k1 (fun kq v9 v30 w' => ∃ (x9_2 : Bool) (x30_2 : Int), v9 = .bool x9_2 ∧ v30 = .int .i64 x30_2 ∧ Aside0 (impl_longest.l1 kq a1 t283 x6_1 x7_1 t287 x9_2 t290 (t290.length : Int) x30_2 a0_0 a0_1 = some r) ∧ Aside0 (kq ≤ k1) ∧ Aside0 (Kd.R (Kd.int .i64) 73 w' w.heap.size (fun _ => True) v284 t283) ∧ Aside0 (Kd.R (Kd.int .i64) 3 w' w.heap.size (fun k_ => some k_ ≠ ((.slice Ao17 t287.length co17) : Value).ownBlock) u6 x6_1) ∧ Aside0 (Kd.R (Kd.int .i64) 3 w' w.heap.size (fun k_ => some k_ ≠ (u6 : Value).ownBlock) (.slice Ao17 t287.length co17) t287) ∧ Aside0 (Kd.R k59 59 w' w.heap.size (fun _ => True) (.slice Ao19 t290.length co19) t290) ∧ Aside0 (w'.heap[gb281]? = some (.cells #[.int .i64 a0_0, .string a0_1] 35 (0, 0))) ∧ Aside0 (Below w.heap.size w w'))
   case atStart => exact ⟨(true), (0), zF, zF, H', ⟨Nat.le_refl _⟩, ⟨zR HO_5.out⟩, ⟨by (with_reducible repeat (first | apply Kd.R_alloc | apply Kd.R_drewN | apply Kd.R_drew)); exact Kd.R_mono HO_6.out (fun _ hk => hk.2)⟩, ⟨by (with_reducible repeat (first | apply Kd.R_alloc | apply Kd.R_drewN | apply Kd.R_drew)); exact Kd.R_mono HO289.out (fun _ hk => hk.2)⟩, ⟨zR HO292.out⟩, ⟨zK BK281.out⟩, ⟨zG GE281.out⟩⟩
   case round =>
   clear H'
   try clear c4
   try clear c12
   try clear c12b0
   try clear hcz15_0
   try clear hcz15_1
   try clear hcz7_0
   try clear hcz7_1
   try clear hcz9_0
   try clear hcz9_1
   try clear hfz15_0
   try clear hfz15_1
   try clear hfz7_0
   try clear hfz7_1
   try clear hfz9_0
   try clear hfz9_1
   obtain ⟨x9_2, x30_2, rfl, rfl, HA, HK2, HO_5, HO_6, HO_8, HO_28, BK281, HB⟩ := hrel
   cases gk with
   | zero => exact absurd HA.out (by simp [impl_longest.l1])
   | succ k2 =>
   have H := HA.out
   clear HA
   simp only [impl_longest.l1] at H
   by_cases c20 : x30_2 < (t290.length : Int)
   ·rw [if_pos c20] at H
    have c20b0 := decide_eq_true c20
    clear c20
    by_cases c21 : 0 ≤ x30_2
    ·rw [if_pos c21] at H
     have c21b0 := decide_eq_true c21
     clear c21
     by_cases c22 : x30_2 < (t290.length : Int)
     ·rw [if_pos c22] at H
      have c22b0 := decide_eq_true c22
      clear c22
      by_cases c23 : x9_2 = true
      ·subst c23
       replace H := (if_pos rfl).symm.trans H
       by_cases c24 : 0 ≤ ((rd_T59 t290 x30_2).f0)
       ·rw [if_pos c24] at H
        have c24b0 := decide_eq_true c24
        clear c24
        by_cases c25 : ((rd_T59 t290 x30_2).f0) < (t287.length : Int)
        ·rw [if_pos c25] at H
         have c25b0 := decide_eq_true c25
         clear c25
         by_cases c26 : 0 ≤ ((rd_T59 t290 x30_2).f1)
         ·rw [if_pos c26] at H
          have c26b0 := decide_eq_true c26
          clear c26
          by_cases c27 : ((rd_T59 t290 x30_2).f1) < (t287.length : Int)
          ·rw [if_pos c27] at H
           have c27b0 := decide_eq_true c27
           clear c27
           by_cases c28 : 0 ≤ ((rd_T59 t290 x30_2).f2)
           ·rw [if_pos c28] at H
            have c28b0 := decide_eq_true c28
            clear c28
            by_cases c29 : ((rd_T59 t290 x30_2).f2) < (t287.length : Int)
            ·rw [if_pos c29] at H
             have c29b0 := decide_eq_true c29
             clear c29
             by_cases c30 : t283.length = 344
             ·rw [if_pos c30] at H
              have c30b0 := eq_true c30
              have c30b1 := decide_eq_true c30
              clear c30
              by_cases c31 : 0 ≤ (rd t287 ((rd_T59 t290 x30_2).f0))
              ·rw [if_pos c31] at H
               have c31b0 := decide_eq_true c31
               clear c31
               by_cases c32 : (rd t287 ((rd_T59 t290 x30_2).f0)) < 7
               ·rw [if_pos c32] at H
                have c32b0 := decide_eq_true c32
                clear c32
                by_cases c33 : 0 ≤ (rd t287 ((rd_T59 t290 x30_2).f1))
                ·rw [if_pos c33] at H
                 have c33b0 := decide_eq_true c33
                 clear c33
                 by_cases c34 : (rd t287 ((rd_T59 t290 x30_2).f1)) < 7
                 ·rw [if_pos c34] at H
                  have c34b0 := decide_eq_true c34
                  clear c34
                  by_cases c35 : 0 ≤ (rd t287 ((rd_T59 t290 x30_2).f2))
                  ·rw [if_pos c35] at H
                   have c35b0 := decide_eq_true c35
                   clear c35
                   by_cases c36 : (rd t287 ((rd_T59 t290 x30_2).f2)) < 7
                   ·rw [if_pos c36] at H
                    have c36b0 := decide_eq_true c36
                    clear c36
                    have H' := Aside0.mk H; clear H
                    have p293 : 0 ≤ (x30_2 : Int) := zA
                    have q293 : x30_2 < (t290.length : Int) := zA
                    obtain ⟨ad293, e293, hx293_0, hx293_1, hx293_2⟩ := at_T59 (Kd.R_reads' HO_28.out).2.2 x30_2 p293 q293
                    cases e293
                    replace p293 := eq_true p293
                    replace q293 := eq_true q293
                    go_wp2_with (first | ((with_reducible refine gate_dst (N := 11) rfl ?_); (try (refine gate_guard (by rfl) ?_; dsimp only)); refine zBx (N := 11) #[.int .i64 0, .int .i64 0, .int .i64 0] 59 ?_; intro gb294 hg w37 hbox hb; replace HO_5 := zW HO_5.out hb; replace HO_6 := zW HO_6.out hb; replace HO_8 := zW HO_8.out hb; replace HO_28 := Aside0.mk (Kd.R_below (Kd.R_elderB (zR HO_28.out) gb294 (Nat.le_of_eq hg.symm)) hb); have BK294 := Aside0.mk (hbox); have GW294 := zSg hg (zG GE281.out); have GE294 := zSg hg (zG GE281.out); have NB281_294 := zL hg BK281.out; have NB294_281 := zLg hg BK281.out; replace BK281 := zV BK281.out hb; replace HB := zX1 GE281.out hb; clear hb hbox hg; have hnb38 := NB294_281.out; have hnc38 := NB281_294.out; obtain ⟨hcz39_0, hcz39_1, hcz39_2, hfz39_0, hfz39_1, hfz39_2⟩ := zq3 BK294.out; have p295 : 0 ≤ (((rd_T59 t290 x30_2).f0) : Int) := zA; have q295 : ((rd_T59 t290 x30_2).f0) < (t287.length : Int) := zA; obtain ⟨ad295, e295, hx295_0⟩ := Kd.at_int (Kd.R_reads' HO_8.out).2.2 ((rd_T59 t290 x30_2).f0) p295 q295; cases e295; have hn295_0 : ad295.block ≠ gb294 := Kd.own_blk (Kd.R_ne HO_8.out BK294.out (by decide)); have hn295_1 : ad295.block ≠ gb294 := Kd.own_blk (Kd.R_ne HO_8.out BK294.out (by decide)); have hn295_2 : ad295.block ≠ gb294 := Kd.own_blk (Kd.R_ne HO_8.out BK294.out (by decide)); replace hx295_0 := (cell_far (p := ⟨gb294, 0, none⟩) (by first | (rw [add_block]; exact hn295_0) | (show (Addr.add _ _).block ≠ _; rw [add_block]; exact hn295_0) | exact hn295_0) (.int .i64 ((rd_T59 t290 x30_2).f0))).trans hx295_0; replace hx295_0 := (cell_far (p := ⟨gb294, 1, none⟩) (by first | (rw [add_block]; exact hn295_1) | (show (Addr.add _ _).block ≠ _; rw [add_block]; exact hn295_1) | exact hn295_1) (.int .i64 ((rd_T59 t290 x30_2).f1))).trans hx295_0; replace hx295_0 := (cell_far (p := ⟨gb294, 2, none⟩) (by first | (rw [add_block]; exact hn295_2) | (show (Addr.add _ _).block ≠ _; rw [add_block]; exact hn295_2) | exact hn295_2) (.int .i64 ((rd_T59 t290 x30_2).f2))).trans hx295_0; (try have hy295_0 := fun (n_ : Nat) => (show (((((w37.drewN n_).setCell ⟨gb294, 0, none⟩ (.int .i64 ((rd_T59 t290 x30_2).f0))).setCell ⟨gb294, 1, none⟩ (.int .i64 ((rd_T59 t290 x30_2).f1))).setCell ⟨gb294, 2, none⟩ (.int .i64 ((rd_T59 t290 x30_2).f2)))).cell? _ = some _ from hx295_0)); clear hn295_0; clear hn295_1; clear hn295_2; replace p295 := eq_true p295; replace q295 := eq_true q295; have p296 : 0 ≤ (((rd_T59 t290 x30_2).f1) : Int) := zA; have q296 : ((rd_T59 t290 x30_2).f1) < (t287.length : Int) := zA; obtain ⟨ad296, e296, hx296_0⟩ := Kd.at_int (Kd.R_reads' HO_8.out).2.2 ((rd_T59 t290 x30_2).f1) p296 q296; obtain rfl : ad295 = ad296 := (by injection e296); have hn296_0 : ad295.block ≠ gb294 := Kd.own_blk (Kd.R_ne HO_8.out BK294.out (by decide)); have hn296_1 : ad295.block ≠ gb294 := Kd.own_blk (Kd.R_ne HO_8.out BK294.out (by decide)); have hn296_2 : ad295.block ≠ gb294 := Kd.own_blk (Kd.R_ne HO_8.out BK294.out (by decide)); replace hx296_0 := (cell_far (p := ⟨gb294, 0, none⟩) (by first | (rw [add_block]; exact hn296_0) | (show (Addr.add _ _).block ≠ _; rw [add_block]; exact hn296_0) | exact hn296_0) (.int .i64 ((rd_T59 t290 x30_2).f0))).trans hx296_0; replace hx296_0 := (cell_far (p := ⟨gb294, 1, none⟩) (by first | (rw [add_block]; exact hn296_1) | (show (Addr.add _ _).block ≠ _; rw [add_block]; exact hn296_1) | exact hn296_1) (.int .i64 ((rd_T59 t290 x30_2).f1))).trans hx296_0; replace hx296_0 := (cell_far (p := ⟨gb294, 2, none⟩) (by first | (rw [add_block]; exact hn296_2) | (show (Addr.add _ _).block ≠ _; rw [add_block]; exact hn296_2) | exact hn296_2) (.int .i64 ((rd_T59 t290 x30_2).f2))).trans hx296_0; (try have hy296_0 := fun (n_ : Nat) => (show (((((w37.drewN n_).setCell ⟨gb294, 0, none⟩ (.int .i64 ((rd_T59 t290 x30_2).f0))).setCell ⟨gb294, 1, none⟩ (.int .i64 ((rd_T59 t290 x30_2).f1))).setCell ⟨gb294, 2, none⟩ (.int .i64 ((rd_T59 t290 x30_2).f2)))).cell? _ = some _ from hx296_0)); clear hn296_0; clear hn296_1; clear hn296_2; replace p296 := eq_true p296; replace q296 := eq_true q296; have p297 : 0 ≤ (((rd_T59 t290 x30_2).f2) : Int) := zA; have q297 : ((rd_T59 t290 x30_2).f2) < (t287.length : Int) := zA; obtain ⟨ad297, e297, hx297_0⟩ := Kd.at_int (Kd.R_reads' HO_8.out).2.2 ((rd_T59 t290 x30_2).f2) p297 q297; obtain rfl : ad295 = ad297 := (by injection e297); have hn297_0 : ad295.block ≠ gb294 := Kd.own_blk (Kd.R_ne HO_8.out BK294.out (by decide)); have hn297_1 : ad295.block ≠ gb294 := Kd.own_blk (Kd.R_ne HO_8.out BK294.out (by decide)); have hn297_2 : ad295.block ≠ gb294 := Kd.own_blk (Kd.R_ne HO_8.out BK294.out (by decide)); replace hx297_0 := (cell_far (p := ⟨gb294, 0, none⟩) (by first | (rw [add_block]; exact hn297_0) | (show (Addr.add _ _).block ≠ _; rw [add_block]; exact hn297_0) | exact hn297_0) (.int .i64 ((rd_T59 t290 x30_2).f0))).trans hx297_0; replace hx297_0 := (cell_far (p := ⟨gb294, 1, none⟩) (by first | (rw [add_block]; exact hn297_1) | (show (Addr.add _ _).block ≠ _; rw [add_block]; exact hn297_1) | exact hn297_1) (.int .i64 ((rd_T59 t290 x30_2).f1))).trans hx297_0; replace hx297_0 := (cell_far (p := ⟨gb294, 2, none⟩) (by first | (rw [add_block]; exact hn297_2) | (show (Addr.add _ _).block ≠ _; rw [add_block]; exact hn297_2) | exact hn297_2) (.int .i64 ((rd_T59 t290 x30_2).f2))).trans hx297_0; (try have hy297_0 := fun (n_ : Nat) => (show (((((w37.drewN n_).setCell ⟨gb294, 0, none⟩ (.int .i64 ((rd_T59 t290 x30_2).f0))).setCell ⟨gb294, 1, none⟩ (.int .i64 ((rd_T59 t290 x30_2).f1))).setCell ⟨gb294, 2, none⟩ (.int .i64 ((rd_T59 t290 x30_2).f2)))).cell? _ = some _ from hx297_0)); clear hn297_0; clear hn297_1; clear hn297_2; replace p297 := eq_true p297; replace q297 := eq_true q297; obtain ⟨go40, co40, eo40, gb40, gl40, cl40, HG40⟩ := Kd.R_form HO_5.out (by have hl_ := Nat.le_of_eq (Eq.symm (zA : t283.length = 344)); omega); (first | cases eo40 | (injection eo40 with ea_ en_ ec_; (first | subst ea_ | (injection ea_ with ea_; subst ea_)); subst ec_; clear en_)); have GB40 := Aside0.mk gb40; have GG40 := Aside0.mk HG40; clear gb40 gl40 HG40; have pz298_0 : 0 ≤ ((rd t287 ((rd_T59 t290 x30_2).f0)) : Int) := zA; have pz298_1 : 0 ≤ ((rd t287 ((rd_T59 t290 x30_2).f1)) : Int) := zA; have pz298_2 : 0 ≤ ((rd t287 ((rd_T59 t290 x30_2).f2)) : Int) := zA; have qz298_0 : ((rd t287 ((rd_T59 t290 x30_2).f0)) : Int) < 7 := zA; have qz298_1 : ((rd t287 ((rd_T59 t290 x30_2).f1)) : Int) < 7 := zA; have qz298_2 : ((rd t287 ((rd_T59 t290 x30_2).f2)) : Int) < 7 := zA; have hL298 := (zA : t283.length = 344); have dp298 : decide (0 ≤ ((1 + (rd t287 ((rd_T59 t290 x30_2).f0)) * 49 + (rd t287 ((rd_T59 t290 x30_2).f1)) * 7 + (rd t287 ((rd_T59 t290 x30_2).f2))) : Int)) = true := decide_eq_true (by omega); have dq298 : decide ((1 + (rd t287 ((rd_T59 t290 x30_2).f0)) * 49 + (rd t287 ((rd_T59 t290 x30_2).f1)) * 7 + (rd t287 ((rd_T59 t290 x30_2).f2))) < (t283.length : Int)) = true := decide_eq_true (by omega); clear hL298; have p298 : 0 ≤ ((1 + (rd t287 ((rd_T59 t290 x30_2).f0)) * 49 + (rd t287 ((rd_T59 t290 x30_2).f1)) * 7 + (rd t287 ((rd_T59 t290 x30_2).f2))) : Int) := zA; have q298 : (1 + (rd t287 ((rd_T59 t290 x30_2).f0)) * 49 + (rd t287 ((rd_T59 t290 x30_2).f1)) * 7 + (rd t287 ((rd_T59 t290 x30_2).f2))) < (t283.length : Int) := zA; obtain ⟨ad298, e298, hx298_0⟩ := Kd.at_int (Kd.R_reads' HO_5.out).2.2 (1 + (rd t287 ((rd_T59 t290 x30_2).f0)) * 49 + (rd t287 ((rd_T59 t290 x30_2).f1)) * 7 + (rd t287 ((rd_T59 t290 x30_2).f2))) p298 q298; obtain rfl : (⟨go40, 0, none⟩ : Addr) = ad298 := (by injection e298); (first | simp only [add_plain] at hx298_0 | simp only [add_at] at hx298_0 | simp only [Addr.add, Nat.zero_add] at hx298_0 | skip); have hn298_0 : (⟨go40, 0, none⟩ : Addr).block ≠ gb294 := Kd.own_blk (Kd.R_ne HO_5.out BK294.out (by decide)); have hn298_1 : (⟨go40, 0, none⟩ : Addr).block ≠ gb294 := Kd.own_blk (Kd.R_ne HO_5.out BK294.out (by decide)); have hn298_2 : (⟨go40, 0, none⟩ : Addr).block ≠ gb294 := Kd.own_blk (Kd.R_ne HO_5.out BK294.out (by decide)); replace hx298_0 := (cell_far (p := ⟨gb294, 0, none⟩) (by first | (rw [add_block]; exact hn298_0) | (show (Addr.add _ _).block ≠ _; rw [add_block]; exact hn298_0) | exact hn298_0) (.int .i64 ((rd_T59 t290 x30_2).f0))).trans hx298_0; replace hx298_0 := (cell_far (p := ⟨gb294, 1, none⟩) (by first | (rw [add_block]; exact hn298_1) | (show (Addr.add _ _).block ≠ _; rw [add_block]; exact hn298_1) | exact hn298_1) (.int .i64 ((rd_T59 t290 x30_2).f1))).trans hx298_0; replace hx298_0 := (cell_far (p := ⟨gb294, 2, none⟩) (by first | (rw [add_block]; exact hn298_2) | (show (Addr.add _ _).block ≠ _; rw [add_block]; exact hn298_2) | exact hn298_2) (.int .i64 ((rd_T59 t290 x30_2).f2))).trans hx298_0; (try have hy298_0 := fun (n_ : Nat) => (show (((((w37.drewN n_).setCell ⟨gb294, 0, none⟩ (.int .i64 ((rd_T59 t290 x30_2).f0))).setCell ⟨gb294, 1, none⟩ (.int .i64 ((rd_T59 t290 x30_2).f1))).setCell ⟨gb294, 2, none⟩ (.int .i64 ((rd_T59 t290 x30_2).f2)))).cell? _ = some _ from hx298_0)); clear hn298_0; clear hn298_1; clear hn298_2; replace p298 := eq_true p298; replace q298 := eq_true q298; clear dp298 dq298; clear p298 q298; rw [show ((1 + (rd t287 ((rd_T59 t290 x30_2).f0)) * 49 + (rd t287 ((rd_T59 t290 x30_2).f1)) * 7 + (rd t287 ((rd_T59 t290 x30_2).f2))) : Int).toNat = 1 + ((rd t287 ((rd_T59 t290 x30_2).f0))).toNat * 49 + ((rd t287 ((rd_T59 t290 x30_2).f1))).toNat * 7 + ((rd t287 ((rd_T59 t290 x30_2).f2))).toNat from by omega] at hx298_0; change _ = some (Value.int .i64 (rd3 t283 (rd t287 ((rd_T59 t290 x30_2).f0)) (rd t287 ((rd_T59 t290 x30_2).f1)) (rd t287 ((rd_T59 t290 x30_2).f2)))) at hx298_0; replace pz298_0 := eq_true pz298_0; replace pz298_1 := eq_true pz298_1; replace pz298_2 := eq_true pz298_2; replace qz298_0 := eq_true qz298_0; replace qz298_1 := eq_true qz298_1; replace qz298_2 := eq_true qz298_2))
                    repeat (go_quiet (first | ((with_reducible refine gate_dst (N := 11) rfl ?_); (try (refine gate_guard (by rfl) ?_; dsimp only)); refine zBx (N := 11) #[.int .i64 0, .int .i64 0, .int .i64 0] 59 ?_; intro gb294 hg w37 hbox hb; replace HO_5 := zW HO_5.out hb; replace HO_6 := zW HO_6.out hb; replace HO_8 := zW HO_8.out hb; replace HO_28 := Aside0.mk (Kd.R_below (Kd.R_elderB (zR HO_28.out) gb294 (Nat.le_of_eq hg.symm)) hb); have BK294 := Aside0.mk (hbox); have GW294 := zSg hg (zG GE281.out); have GE294 := zSg hg (zG GE281.out); have NB281_294 := zL hg BK281.out; have NB294_281 := zLg hg BK281.out; replace BK281 := zV BK281.out hb; replace HB := zX1 GE281.out hb; clear hb hbox hg; have hnb38 := NB294_281.out; have hnc38 := NB281_294.out; obtain ⟨hcz39_0, hcz39_1, hcz39_2, hfz39_0, hfz39_1, hfz39_2⟩ := zq3 BK294.out; have p295 : 0 ≤ (((rd_T59 t290 x30_2).f0) : Int) := zA; have q295 : ((rd_T59 t290 x30_2).f0) < (t287.length : Int) := zA; obtain ⟨ad295, e295, hx295_0⟩ := Kd.at_int (Kd.R_reads' HO_8.out).2.2 ((rd_T59 t290 x30_2).f0) p295 q295; cases e295; have hn295_0 : ad295.block ≠ gb294 := Kd.own_blk (Kd.R_ne HO_8.out BK294.out (by decide)); have hn295_1 : ad295.block ≠ gb294 := Kd.own_blk (Kd.R_ne HO_8.out BK294.out (by decide)); have hn295_2 : ad295.block ≠ gb294 := Kd.own_blk (Kd.R_ne HO_8.out BK294.out (by decide)); replace hx295_0 := (cell_far (p := ⟨gb294, 0, none⟩) (by first | (rw [add_block]; exact hn295_0) | (show (Addr.add _ _).block ≠ _; rw [add_block]; exact hn295_0) | exact hn295_0) (.int .i64 ((rd_T59 t290 x30_2).f0))).trans hx295_0; replace hx295_0 := (cell_far (p := ⟨gb294, 1, none⟩) (by first | (rw [add_block]; exact hn295_1) | (show (Addr.add _ _).block ≠ _; rw [add_block]; exact hn295_1) | exact hn295_1) (.int .i64 ((rd_T59 t290 x30_2).f1))).trans hx295_0; replace hx295_0 := (cell_far (p := ⟨gb294, 2, none⟩) (by first | (rw [add_block]; exact hn295_2) | (show (Addr.add _ _).block ≠ _; rw [add_block]; exact hn295_2) | exact hn295_2) (.int .i64 ((rd_T59 t290 x30_2).f2))).trans hx295_0; (try have hy295_0 := fun (n_ : Nat) => (show (((((w37.drewN n_).setCell ⟨gb294, 0, none⟩ (.int .i64 ((rd_T59 t290 x30_2).f0))).setCell ⟨gb294, 1, none⟩ (.int .i64 ((rd_T59 t290 x30_2).f1))).setCell ⟨gb294, 2, none⟩ (.int .i64 ((rd_T59 t290 x30_2).f2)))).cell? _ = some _ from hx295_0)); clear hn295_0; clear hn295_1; clear hn295_2; replace p295 := eq_true p295; replace q295 := eq_true q295; have p296 : 0 ≤ (((rd_T59 t290 x30_2).f1) : Int) := zA; have q296 : ((rd_T59 t290 x30_2).f1) < (t287.length : Int) := zA; obtain ⟨ad296, e296, hx296_0⟩ := Kd.at_int (Kd.R_reads' HO_8.out).2.2 ((rd_T59 t290 x30_2).f1) p296 q296; obtain rfl : ad295 = ad296 := (by injection e296); have hn296_0 : ad295.block ≠ gb294 := Kd.own_blk (Kd.R_ne HO_8.out BK294.out (by decide)); have hn296_1 : ad295.block ≠ gb294 := Kd.own_blk (Kd.R_ne HO_8.out BK294.out (by decide)); have hn296_2 : ad295.block ≠ gb294 := Kd.own_blk (Kd.R_ne HO_8.out BK294.out (by decide)); replace hx296_0 := (cell_far (p := ⟨gb294, 0, none⟩) (by first | (rw [add_block]; exact hn296_0) | (show (Addr.add _ _).block ≠ _; rw [add_block]; exact hn296_0) | exact hn296_0) (.int .i64 ((rd_T59 t290 x30_2).f0))).trans hx296_0; replace hx296_0 := (cell_far (p := ⟨gb294, 1, none⟩) (by first | (rw [add_block]; exact hn296_1) | (show (Addr.add _ _).block ≠ _; rw [add_block]; exact hn296_1) | exact hn296_1) (.int .i64 ((rd_T59 t290 x30_2).f1))).trans hx296_0; replace hx296_0 := (cell_far (p := ⟨gb294, 2, none⟩) (by first | (rw [add_block]; exact hn296_2) | (show (Addr.add _ _).block ≠ _; rw [add_block]; exact hn296_2) | exact hn296_2) (.int .i64 ((rd_T59 t290 x30_2).f2))).trans hx296_0; (try have hy296_0 := fun (n_ : Nat) => (show (((((w37.drewN n_).setCell ⟨gb294, 0, none⟩ (.int .i64 ((rd_T59 t290 x30_2).f0))).setCell ⟨gb294, 1, none⟩ (.int .i64 ((rd_T59 t290 x30_2).f1))).setCell ⟨gb294, 2, none⟩ (.int .i64 ((rd_T59 t290 x30_2).f2)))).cell? _ = some _ from hx296_0)); clear hn296_0; clear hn296_1; clear hn296_2; replace p296 := eq_true p296; replace q296 := eq_true q296; have p297 : 0 ≤ (((rd_T59 t290 x30_2).f2) : Int) := zA; have q297 : ((rd_T59 t290 x30_2).f2) < (t287.length : Int) := zA; obtain ⟨ad297, e297, hx297_0⟩ := Kd.at_int (Kd.R_reads' HO_8.out).2.2 ((rd_T59 t290 x30_2).f2) p297 q297; obtain rfl : ad295 = ad297 := (by injection e297); have hn297_0 : ad295.block ≠ gb294 := Kd.own_blk (Kd.R_ne HO_8.out BK294.out (by decide)); have hn297_1 : ad295.block ≠ gb294 := Kd.own_blk (Kd.R_ne HO_8.out BK294.out (by decide)); have hn297_2 : ad295.block ≠ gb294 := Kd.own_blk (Kd.R_ne HO_8.out BK294.out (by decide)); replace hx297_0 := (cell_far (p := ⟨gb294, 0, none⟩) (by first | (rw [add_block]; exact hn297_0) | (show (Addr.add _ _).block ≠ _; rw [add_block]; exact hn297_0) | exact hn297_0) (.int .i64 ((rd_T59 t290 x30_2).f0))).trans hx297_0; replace hx297_0 := (cell_far (p := ⟨gb294, 1, none⟩) (by first | (rw [add_block]; exact hn297_1) | (show (Addr.add _ _).block ≠ _; rw [add_block]; exact hn297_1) | exact hn297_1) (.int .i64 ((rd_T59 t290 x30_2).f1))).trans hx297_0; replace hx297_0 := (cell_far (p := ⟨gb294, 2, none⟩) (by first | (rw [add_block]; exact hn297_2) | (show (Addr.add _ _).block ≠ _; rw [add_block]; exact hn297_2) | exact hn297_2) (.int .i64 ((rd_T59 t290 x30_2).f2))).trans hx297_0; (try have hy297_0 := fun (n_ : Nat) => (show (((((w37.drewN n_).setCell ⟨gb294, 0, none⟩ (.int .i64 ((rd_T59 t290 x30_2).f0))).setCell ⟨gb294, 1, none⟩ (.int .i64 ((rd_T59 t290 x30_2).f1))).setCell ⟨gb294, 2, none⟩ (.int .i64 ((rd_T59 t290 x30_2).f2)))).cell? _ = some _ from hx297_0)); clear hn297_0; clear hn297_1; clear hn297_2; replace p297 := eq_true p297; replace q297 := eq_true q297; obtain ⟨go40, co40, eo40, gb40, gl40, cl40, HG40⟩ := Kd.R_form HO_5.out (by have hl_ := Nat.le_of_eq (Eq.symm (zA : t283.length = 344)); omega); (first | cases eo40 | (injection eo40 with ea_ en_ ec_; (first | subst ea_ | (injection ea_ with ea_; subst ea_)); subst ec_; clear en_)); have GB40 := Aside0.mk gb40; have GG40 := Aside0.mk HG40; clear gb40 gl40 HG40; have pz298_0 : 0 ≤ ((rd t287 ((rd_T59 t290 x30_2).f0)) : Int) := zA; have pz298_1 : 0 ≤ ((rd t287 ((rd_T59 t290 x30_2).f1)) : Int) := zA; have pz298_2 : 0 ≤ ((rd t287 ((rd_T59 t290 x30_2).f2)) : Int) := zA; have qz298_0 : ((rd t287 ((rd_T59 t290 x30_2).f0)) : Int) < 7 := zA; have qz298_1 : ((rd t287 ((rd_T59 t290 x30_2).f1)) : Int) < 7 := zA; have qz298_2 : ((rd t287 ((rd_T59 t290 x30_2).f2)) : Int) < 7 := zA; have hL298 := (zA : t283.length = 344); have dp298 : decide (0 ≤ ((1 + (rd t287 ((rd_T59 t290 x30_2).f0)) * 49 + (rd t287 ((rd_T59 t290 x30_2).f1)) * 7 + (rd t287 ((rd_T59 t290 x30_2).f2))) : Int)) = true := decide_eq_true (by omega); have dq298 : decide ((1 + (rd t287 ((rd_T59 t290 x30_2).f0)) * 49 + (rd t287 ((rd_T59 t290 x30_2).f1)) * 7 + (rd t287 ((rd_T59 t290 x30_2).f2))) < (t283.length : Int)) = true := decide_eq_true (by omega); clear hL298; have p298 : 0 ≤ ((1 + (rd t287 ((rd_T59 t290 x30_2).f0)) * 49 + (rd t287 ((rd_T59 t290 x30_2).f1)) * 7 + (rd t287 ((rd_T59 t290 x30_2).f2))) : Int) := zA; have q298 : (1 + (rd t287 ((rd_T59 t290 x30_2).f0)) * 49 + (rd t287 ((rd_T59 t290 x30_2).f1)) * 7 + (rd t287 ((rd_T59 t290 x30_2).f2))) < (t283.length : Int) := zA; obtain ⟨ad298, e298, hx298_0⟩ := Kd.at_int (Kd.R_reads' HO_5.out).2.2 (1 + (rd t287 ((rd_T59 t290 x30_2).f0)) * 49 + (rd t287 ((rd_T59 t290 x30_2).f1)) * 7 + (rd t287 ((rd_T59 t290 x30_2).f2))) p298 q298; obtain rfl : (⟨go40, 0, none⟩ : Addr) = ad298 := (by injection e298); (first | simp only [add_plain] at hx298_0 | simp only [add_at] at hx298_0 | simp only [Addr.add, Nat.zero_add] at hx298_0 | skip); have hn298_0 : (⟨go40, 0, none⟩ : Addr).block ≠ gb294 := Kd.own_blk (Kd.R_ne HO_5.out BK294.out (by decide)); have hn298_1 : (⟨go40, 0, none⟩ : Addr).block ≠ gb294 := Kd.own_blk (Kd.R_ne HO_5.out BK294.out (by decide)); have hn298_2 : (⟨go40, 0, none⟩ : Addr).block ≠ gb294 := Kd.own_blk (Kd.R_ne HO_5.out BK294.out (by decide)); replace hx298_0 := (cell_far (p := ⟨gb294, 0, none⟩) (by first | (rw [add_block]; exact hn298_0) | (show (Addr.add _ _).block ≠ _; rw [add_block]; exact hn298_0) | exact hn298_0) (.int .i64 ((rd_T59 t290 x30_2).f0))).trans hx298_0; replace hx298_0 := (cell_far (p := ⟨gb294, 1, none⟩) (by first | (rw [add_block]; exact hn298_1) | (show (Addr.add _ _).block ≠ _; rw [add_block]; exact hn298_1) | exact hn298_1) (.int .i64 ((rd_T59 t290 x30_2).f1))).trans hx298_0; replace hx298_0 := (cell_far (p := ⟨gb294, 2, none⟩) (by first | (rw [add_block]; exact hn298_2) | (show (Addr.add _ _).block ≠ _; rw [add_block]; exact hn298_2) | exact hn298_2) (.int .i64 ((rd_T59 t290 x30_2).f2))).trans hx298_0; (try have hy298_0 := fun (n_ : Nat) => (show (((((w37.drewN n_).setCell ⟨gb294, 0, none⟩ (.int .i64 ((rd_T59 t290 x30_2).f0))).setCell ⟨gb294, 1, none⟩ (.int .i64 ((rd_T59 t290 x30_2).f1))).setCell ⟨gb294, 2, none⟩ (.int .i64 ((rd_T59 t290 x30_2).f2)))).cell? _ = some _ from hx298_0)); clear hn298_0; clear hn298_1; clear hn298_2; replace p298 := eq_true p298; replace q298 := eq_true q298; clear dp298 dq298; clear p298 q298; rw [show ((1 + (rd t287 ((rd_T59 t290 x30_2).f0)) * 49 + (rd t287 ((rd_T59 t290 x30_2).f1)) * 7 + (rd t287 ((rd_T59 t290 x30_2).f2))) : Int).toNat = 1 + ((rd t287 ((rd_T59 t290 x30_2).f0))).toNat * 49 + ((rd t287 ((rd_T59 t290 x30_2).f1))).toNat * 7 + ((rd t287 ((rd_T59 t290 x30_2).f2))).toNat from by omega] at hx298_0; change _ = some (Value.int .i64 (rd3 t283 (rd t287 ((rd_T59 t290 x30_2).f0)) (rd t287 ((rd_T59 t290 x30_2).f1)) (rd t287 ((rd_T59 t290 x30_2).f2)))) at hx298_0; replace pz298_0 := eq_true pz298_0; replace pz298_1 := eq_true pz298_1; replace pz298_2 := eq_true pz298_2; replace qz298_0 := eq_true qz298_0; replace qz298_1 := eq_true qz298_1; replace qz298_2 := eq_true qz298_2)); try go_wp2_with (first | ((with_reducible refine gate_dst (N := 11) rfl ?_); (try (refine gate_guard (by rfl) ?_; dsimp only)); refine zBx (N := 11) #[.int .i64 0, .int .i64 0, .int .i64 0] 59 ?_; intro gb294 hg w37 hbox hb; replace HO_5 := zW HO_5.out hb; replace HO_6 := zW HO_6.out hb; replace HO_8 := zW HO_8.out hb; replace HO_28 := Aside0.mk (Kd.R_below (Kd.R_elderB (zR HO_28.out) gb294 (Nat.le_of_eq hg.symm)) hb); have BK294 := Aside0.mk (hbox); have GW294 := zSg hg (zG GE281.out); have GE294 := zSg hg (zG GE281.out); have NB281_294 := zL hg BK281.out; have NB294_281 := zLg hg BK281.out; replace BK281 := zV BK281.out hb; replace HB := zX1 GE281.out hb; clear hb hbox hg; have hnb38 := NB294_281.out; have hnc38 := NB281_294.out; obtain ⟨hcz39_0, hcz39_1, hcz39_2, hfz39_0, hfz39_1, hfz39_2⟩ := zq3 BK294.out; have p295 : 0 ≤ (((rd_T59 t290 x30_2).f0) : Int) := zA; have q295 : ((rd_T59 t290 x30_2).f0) < (t287.length : Int) := zA; obtain ⟨ad295, e295, hx295_0⟩ := Kd.at_int (Kd.R_reads' HO_8.out).2.2 ((rd_T59 t290 x30_2).f0) p295 q295; cases e295; have hn295_0 : ad295.block ≠ gb294 := Kd.own_blk (Kd.R_ne HO_8.out BK294.out (by decide)); have hn295_1 : ad295.block ≠ gb294 := Kd.own_blk (Kd.R_ne HO_8.out BK294.out (by decide)); have hn295_2 : ad295.block ≠ gb294 := Kd.own_blk (Kd.R_ne HO_8.out BK294.out (by decide)); replace hx295_0 := (cell_far (p := ⟨gb294, 0, none⟩) (by first | (rw [add_block]; exact hn295_0) | (show (Addr.add _ _).block ≠ _; rw [add_block]; exact hn295_0) | exact hn295_0) (.int .i64 ((rd_T59 t290 x30_2).f0))).trans hx295_0; replace hx295_0 := (cell_far (p := ⟨gb294, 1, none⟩) (by first | (rw [add_block]; exact hn295_1) | (show (Addr.add _ _).block ≠ _; rw [add_block]; exact hn295_1) | exact hn295_1) (.int .i64 ((rd_T59 t290 x30_2).f1))).trans hx295_0; replace hx295_0 := (cell_far (p := ⟨gb294, 2, none⟩) (by first | (rw [add_block]; exact hn295_2) | (show (Addr.add _ _).block ≠ _; rw [add_block]; exact hn295_2) | exact hn295_2) (.int .i64 ((rd_T59 t290 x30_2).f2))).trans hx295_0; (try have hy295_0 := fun (n_ : Nat) => (show (((((w37.drewN n_).setCell ⟨gb294, 0, none⟩ (.int .i64 ((rd_T59 t290 x30_2).f0))).setCell ⟨gb294, 1, none⟩ (.int .i64 ((rd_T59 t290 x30_2).f1))).setCell ⟨gb294, 2, none⟩ (.int .i64 ((rd_T59 t290 x30_2).f2)))).cell? _ = some _ from hx295_0)); clear hn295_0; clear hn295_1; clear hn295_2; replace p295 := eq_true p295; replace q295 := eq_true q295; have p296 : 0 ≤ (((rd_T59 t290 x30_2).f1) : Int) := zA; have q296 : ((rd_T59 t290 x30_2).f1) < (t287.length : Int) := zA; obtain ⟨ad296, e296, hx296_0⟩ := Kd.at_int (Kd.R_reads' HO_8.out).2.2 ((rd_T59 t290 x30_2).f1) p296 q296; obtain rfl : ad295 = ad296 := (by injection e296); have hn296_0 : ad295.block ≠ gb294 := Kd.own_blk (Kd.R_ne HO_8.out BK294.out (by decide)); have hn296_1 : ad295.block ≠ gb294 := Kd.own_blk (Kd.R_ne HO_8.out BK294.out (by decide)); have hn296_2 : ad295.block ≠ gb294 := Kd.own_blk (Kd.R_ne HO_8.out BK294.out (by decide)); replace hx296_0 := (cell_far (p := ⟨gb294, 0, none⟩) (by first | (rw [add_block]; exact hn296_0) | (show (Addr.add _ _).block ≠ _; rw [add_block]; exact hn296_0) | exact hn296_0) (.int .i64 ((rd_T59 t290 x30_2).f0))).trans hx296_0; replace hx296_0 := (cell_far (p := ⟨gb294, 1, none⟩) (by first | (rw [add_block]; exact hn296_1) | (show (Addr.add _ _).block ≠ _; rw [add_block]; exact hn296_1) | exact hn296_1) (.int .i64 ((rd_T59 t290 x30_2).f1))).trans hx296_0; replace hx296_0 := (cell_far (p := ⟨gb294, 2, none⟩) (by first | (rw [add_block]; exact hn296_2) | (show (Addr.add _ _).block ≠ _; rw [add_block]; exact hn296_2) | exact hn296_2) (.int .i64 ((rd_T59 t290 x30_2).f2))).trans hx296_0; (try have hy296_0 := fun (n_ : Nat) => (show (((((w37.drewN n_).setCell ⟨gb294, 0, none⟩ (.int .i64 ((rd_T59 t290 x30_2).f0))).setCell ⟨gb294, 1, none⟩ (.int .i64 ((rd_T59 t290 x30_2).f1))).setCell ⟨gb294, 2, none⟩ (.int .i64 ((rd_T59 t290 x30_2).f2)))).cell? _ = some _ from hx296_0)); clear hn296_0; clear hn296_1; clear hn296_2; replace p296 := eq_true p296; replace q296 := eq_true q296; have p297 : 0 ≤ (((rd_T59 t290 x30_2).f2) : Int) := zA; have q297 : ((rd_T59 t290 x30_2).f2) < (t287.length : Int) := zA; obtain ⟨ad297, e297, hx297_0⟩ := Kd.at_int (Kd.R_reads' HO_8.out).2.2 ((rd_T59 t290 x30_2).f2) p297 q297; obtain rfl : ad295 = ad297 := (by injection e297); have hn297_0 : ad295.block ≠ gb294 := Kd.own_blk (Kd.R_ne HO_8.out BK294.out (by decide)); have hn297_1 : ad295.block ≠ gb294 := Kd.own_blk (Kd.R_ne HO_8.out BK294.out (by decide)); have hn297_2 : ad295.block ≠ gb294 := Kd.own_blk (Kd.R_ne HO_8.out BK294.out (by decide)); replace hx297_0 := (cell_far (p := ⟨gb294, 0, none⟩) (by first | (rw [add_block]; exact hn297_0) | (show (Addr.add _ _).block ≠ _; rw [add_block]; exact hn297_0) | exact hn297_0) (.int .i64 ((rd_T59 t290 x30_2).f0))).trans hx297_0; replace hx297_0 := (cell_far (p := ⟨gb294, 1, none⟩) (by first | (rw [add_block]; exact hn297_1) | (show (Addr.add _ _).block ≠ _; rw [add_block]; exact hn297_1) | exact hn297_1) (.int .i64 ((rd_T59 t290 x30_2).f1))).trans hx297_0; replace hx297_0 := (cell_far (p := ⟨gb294, 2, none⟩) (by first | (rw [add_block]; exact hn297_2) | (show (Addr.add _ _).block ≠ _; rw [add_block]; exact hn297_2) | exact hn297_2) (.int .i64 ((rd_T59 t290 x30_2).f2))).trans hx297_0; (try have hy297_0 := fun (n_ : Nat) => (show (((((w37.drewN n_).setCell ⟨gb294, 0, none⟩ (.int .i64 ((rd_T59 t290 x30_2).f0))).setCell ⟨gb294, 1, none⟩ (.int .i64 ((rd_T59 t290 x30_2).f1))).setCell ⟨gb294, 2, none⟩ (.int .i64 ((rd_T59 t290 x30_2).f2)))).cell? _ = some _ from hx297_0)); clear hn297_0; clear hn297_1; clear hn297_2; replace p297 := eq_true p297; replace q297 := eq_true q297; obtain ⟨go40, co40, eo40, gb40, gl40, cl40, HG40⟩ := Kd.R_form HO_5.out (by have hl_ := Nat.le_of_eq (Eq.symm (zA : t283.length = 344)); omega); (first | cases eo40 | (injection eo40 with ea_ en_ ec_; (first | subst ea_ | (injection ea_ with ea_; subst ea_)); subst ec_; clear en_)); have GB40 := Aside0.mk gb40; have GG40 := Aside0.mk HG40; clear gb40 gl40 HG40; have pz298_0 : 0 ≤ ((rd t287 ((rd_T59 t290 x30_2).f0)) : Int) := zA; have pz298_1 : 0 ≤ ((rd t287 ((rd_T59 t290 x30_2).f1)) : Int) := zA; have pz298_2 : 0 ≤ ((rd t287 ((rd_T59 t290 x30_2).f2)) : Int) := zA; have qz298_0 : ((rd t287 ((rd_T59 t290 x30_2).f0)) : Int) < 7 := zA; have qz298_1 : ((rd t287 ((rd_T59 t290 x30_2).f1)) : Int) < 7 := zA; have qz298_2 : ((rd t287 ((rd_T59 t290 x30_2).f2)) : Int) < 7 := zA; have hL298 := (zA : t283.length = 344); have dp298 : decide (0 ≤ ((1 + (rd t287 ((rd_T59 t290 x30_2).f0)) * 49 + (rd t287 ((rd_T59 t290 x30_2).f1)) * 7 + (rd t287 ((rd_T59 t290 x30_2).f2))) : Int)) = true := decide_eq_true (by omega); have dq298 : decide ((1 + (rd t287 ((rd_T59 t290 x30_2).f0)) * 49 + (rd t287 ((rd_T59 t290 x30_2).f1)) * 7 + (rd t287 ((rd_T59 t290 x30_2).f2))) < (t283.length : Int)) = true := decide_eq_true (by omega); clear hL298; have p298 : 0 ≤ ((1 + (rd t287 ((rd_T59 t290 x30_2).f0)) * 49 + (rd t287 ((rd_T59 t290 x30_2).f1)) * 7 + (rd t287 ((rd_T59 t290 x30_2).f2))) : Int) := zA; have q298 : (1 + (rd t287 ((rd_T59 t290 x30_2).f0)) * 49 + (rd t287 ((rd_T59 t290 x30_2).f1)) * 7 + (rd t287 ((rd_T59 t290 x30_2).f2))) < (t283.length : Int) := zA; obtain ⟨ad298, e298, hx298_0⟩ := Kd.at_int (Kd.R_reads' HO_5.out).2.2 (1 + (rd t287 ((rd_T59 t290 x30_2).f0)) * 49 + (rd t287 ((rd_T59 t290 x30_2).f1)) * 7 + (rd t287 ((rd_T59 t290 x30_2).f2))) p298 q298; obtain rfl : (⟨go40, 0, none⟩ : Addr) = ad298 := (by injection e298); (first | simp only [add_plain] at hx298_0 | simp only [add_at] at hx298_0 | simp only [Addr.add, Nat.zero_add] at hx298_0 | skip); have hn298_0 : (⟨go40, 0, none⟩ : Addr).block ≠ gb294 := Kd.own_blk (Kd.R_ne HO_5.out BK294.out (by decide)); have hn298_1 : (⟨go40, 0, none⟩ : Addr).block ≠ gb294 := Kd.own_blk (Kd.R_ne HO_5.out BK294.out (by decide)); have hn298_2 : (⟨go40, 0, none⟩ : Addr).block ≠ gb294 := Kd.own_blk (Kd.R_ne HO_5.out BK294.out (by decide)); replace hx298_0 := (cell_far (p := ⟨gb294, 0, none⟩) (by first | (rw [add_block]; exact hn298_0) | (show (Addr.add _ _).block ≠ _; rw [add_block]; exact hn298_0) | exact hn298_0) (.int .i64 ((rd_T59 t290 x30_2).f0))).trans hx298_0; replace hx298_0 := (cell_far (p := ⟨gb294, 1, none⟩) (by first | (rw [add_block]; exact hn298_1) | (show (Addr.add _ _).block ≠ _; rw [add_block]; exact hn298_1) | exact hn298_1) (.int .i64 ((rd_T59 t290 x30_2).f1))).trans hx298_0; replace hx298_0 := (cell_far (p := ⟨gb294, 2, none⟩) (by first | (rw [add_block]; exact hn298_2) | (show (Addr.add _ _).block ≠ _; rw [add_block]; exact hn298_2) | exact hn298_2) (.int .i64 ((rd_T59 t290 x30_2).f2))).trans hx298_0; (try have hy298_0 := fun (n_ : Nat) => (show (((((w37.drewN n_).setCell ⟨gb294, 0, none⟩ (.int .i64 ((rd_T59 t290 x30_2).f0))).setCell ⟨gb294, 1, none⟩ (.int .i64 ((rd_T59 t290 x30_2).f1))).setCell ⟨gb294, 2, none⟩ (.int .i64 ((rd_T59 t290 x30_2).f2)))).cell? _ = some _ from hx298_0)); clear hn298_0; clear hn298_1; clear hn298_2; replace p298 := eq_true p298; replace q298 := eq_true q298; clear dp298 dq298; clear p298 q298; rw [show ((1 + (rd t287 ((rd_T59 t290 x30_2).f0)) * 49 + (rd t287 ((rd_T59 t290 x30_2).f1)) * 7 + (rd t287 ((rd_T59 t290 x30_2).f2))) : Int).toNat = 1 + ((rd t287 ((rd_T59 t290 x30_2).f0))).toNat * 49 + ((rd t287 ((rd_T59 t290 x30_2).f1))).toNat * 7 + ((rd t287 ((rd_T59 t290 x30_2).f2))).toNat from by omega] at hx298_0; change _ = some (Value.int .i64 (rd3 t283 (rd t287 ((rd_T59 t290 x30_2).f0)) (rd t287 ((rd_T59 t290 x30_2).f1)) (rd t287 ((rd_T59 t290 x30_2).f2)))) at hx298_0; replace pz298_0 := eq_true pz298_0; replace pz298_1 := eq_true pz298_1; replace pz298_2 := eq_true pz298_2; replace qz298_0 := eq_true qz298_0; replace qz298_1 := eq_true qz298_1; replace qz298_2 := eq_true qz298_2)))
                    refine Handed.intro k2 ?measure ?_
                    rotate_left
                    go_step
                    (repeat apply Exists.intro)
                    refine ⟨?rel, ?fr⟩
                    case fr => with_reducible rfl
                    case measure => have := HK1.out; have := HK2.out; omega
                    case rel => exact ⟨(((rd3 t283 (rd t287 ((rd_T59 t290 x30_2).f0)) (rd t287 ((rd_T59 t290 x30_2).f1)) (rd t287 ((rd_T59 t290 x30_2).f2))) == a1)), (wrap64 (x30_2 + 1)), zF, zF, H', ⟨by have := HK1.out; have := HK2.out; omega⟩, ⟨by (with_reducible repeat (first | apply Kd.R_alloc | apply Kd.R_drewN | apply Kd.R_drew)); exact Kd.R_mono (Kd.R_far (p := ⟨gb294, 2, none⟩) (Kd.R_far (p := ⟨gb294, 1, none⟩) (Kd.R_far (p := ⟨gb294, 0, none⟩) (Kd.R_types HO_5.out BK294.out (by decide)) (fun _ hk => hk.2) (.int .i64 ((rd_T59 t290 x30_2).f0))) (fun _ hk => hk.2) (.int .i64 ((rd_T59 t290 x30_2).f1))) (fun _ hk => hk.2) (.int .i64 ((rd_T59 t290 x30_2).f2))) (fun _ hk => trivial)⟩, ⟨by (with_reducible repeat (first | apply Kd.R_alloc | apply Kd.R_drewN | apply Kd.R_drew)); exact Kd.R_mono (Kd.R_far (p := ⟨gb294, 2, none⟩) (Kd.R_far (p := ⟨gb294, 1, none⟩) (Kd.R_far (p := ⟨gb294, 0, none⟩) (Kd.R_types HO_6.out BK294.out (by decide)) (fun _ hk => hk.2) (.int .i64 ((rd_T59 t290 x30_2).f0))) (fun _ hk => hk.2) (.int .i64 ((rd_T59 t290 x30_2).f1))) (fun _ hk => hk.2) (.int .i64 ((rd_T59 t290 x30_2).f2))) (fun _ hk => hk.1)⟩, ⟨by (with_reducible repeat (first | apply Kd.R_alloc | apply Kd.R_drewN | apply Kd.R_drew)); exact Kd.R_mono (Kd.R_far (p := ⟨gb294, 2, none⟩) (Kd.R_far (p := ⟨gb294, 1, none⟩) (Kd.R_far (p := ⟨gb294, 0, none⟩) (Kd.R_types HO_8.out BK294.out (by decide)) (fun _ hk => hk.2) (.int .i64 ((rd_T59 t290 x30_2).f0))) (fun _ hk => hk.2) (.int .i64 ((rd_T59 t290 x30_2).f1))) (fun _ hk => hk.2) (.int .i64 ((rd_T59 t290 x30_2).f2))) (fun _ hk => hk.1)⟩, ⟨by (with_reducible repeat (first | apply Kd.R_alloc | apply Kd.R_drewN | apply Kd.R_drew)); exact Kd.R_mono (Kd.R_far (p := ⟨gb294, 2, none⟩) (Kd.R_far (p := ⟨gb294, 1, none⟩) (Kd.R_far (p := ⟨gb294, 0, none⟩) (Kd.R_mono HO_28.out (fun k_ hk => (⟨hk, hk.2⟩ : _ ∧ k_ ≠ gb294))) (fun _ hk => hk.2) (.int .i64 ((rd_T59 t290 x30_2).f0))) (fun _ hk => hk.2) (.int .i64 ((rd_T59 t290 x30_2).f1))) (fun _ hk => hk.2) (.int .i64 ((rd_T59 t290 x30_2).f2))) (fun _ hk => trivial)⟩, ⟨zk3 BK281.out NB281_294.out NB281_294.out NB281_294.out⟩, ⟨zG2 GE281.out GE294.out⟩⟩
                   rw [if_neg c36] at H
                   exact absurd H (by simp)
                  rw [if_neg c35] at H
                  exact absurd H (by simp)
                 rw [if_neg c34] at H
                 exact absurd H (by simp)
                rw [if_neg c33] at H
                exact absurd H (by simp)
               rw [if_neg c32] at H
               exact absurd H (by simp)
              rw [if_neg c31] at H
              exact absurd H (by simp)
             rw [if_neg c30] at H
             exact absurd H (by simp)
            rw [if_neg c29] at H
            exact absurd H (by simp)
           rw [if_neg c28] at H
           exact absurd H (by simp)
          rw [if_neg c27] at H
          exact absurd H (by simp)
         rw [if_neg c26] at H
         exact absurd H (by simp)
        rw [if_neg c25] at H
        exact absurd H (by simp)
       rw [if_neg c24] at H
       exact absurd H (by simp)
      replace c23 := Bool.eq_false_iff.mpr c23
      subst c23
      replace H := (if_neg zFf).symm.trans H
      have H' := Aside0.mk H; clear H
      have p293 : 0 ≤ (x30_2 : Int) := zA
      have q293 : x30_2 < (t290.length : Int) := zA
      obtain ⟨ad293, e293, hx293_0, hx293_1, hx293_2⟩ := at_T59 (Kd.R_reads' HO_28.out).2.2 x30_2 p293 q293
      cases e293
      replace p293 := eq_true p293
      replace q293 := eq_true q293
      go_wp2_with (first | ((with_reducible refine gate_dst (N := 11) rfl ?_); (try (refine gate_guard (by rfl) ?_; dsimp only)); refine zBx (N := 11) #[.int .i64 0, .int .i64 0, .int .i64 0] 59 ?_; intro gb294 hg w41 hbox hb; replace HO_5 := zW HO_5.out hb; replace HO_6 := zW HO_6.out hb; replace HO_8 := zW HO_8.out hb; replace HO_28 := Aside0.mk (Kd.R_below (Kd.R_elderB (zR HO_28.out) gb294 (Nat.le_of_eq hg.symm)) hb); have BK294 := Aside0.mk (hbox); have GW294 := zSg hg (zG GE281.out); have GE294 := zSg hg (zG GE281.out); have NB281_294 := zL hg BK281.out; have NB294_281 := zLg hg BK281.out; replace BK281 := zV BK281.out hb; replace HB := zX1 GE281.out hb; clear hb hbox hg; have hnb42 := NB294_281.out; have hnc42 := NB281_294.out; obtain ⟨hcz43_0, hcz43_1, hcz43_2, hfz43_0, hfz43_1, hfz43_2⟩ := zq3 BK294.out))
      repeat (go_quiet (first | ((with_reducible refine gate_dst (N := 11) rfl ?_); (try (refine gate_guard (by rfl) ?_; dsimp only)); refine zBx (N := 11) #[.int .i64 0, .int .i64 0, .int .i64 0] 59 ?_; intro gb294 hg w41 hbox hb; replace HO_5 := zW HO_5.out hb; replace HO_6 := zW HO_6.out hb; replace HO_8 := zW HO_8.out hb; replace HO_28 := Aside0.mk (Kd.R_below (Kd.R_elderB (zR HO_28.out) gb294 (Nat.le_of_eq hg.symm)) hb); have BK294 := Aside0.mk (hbox); have GW294 := zSg hg (zG GE281.out); have GE294 := zSg hg (zG GE281.out); have NB281_294 := zL hg BK281.out; have NB294_281 := zLg hg BK281.out; replace BK281 := zV BK281.out hb; replace HB := zX1 GE281.out hb; clear hb hbox hg; have hnb42 := NB294_281.out; have hnc42 := NB281_294.out; obtain ⟨hcz43_0, hcz43_1, hcz43_2, hfz43_0, hfz43_1, hfz43_2⟩ := zq3 BK294.out)); try go_wp2_with (first | ((with_reducible refine gate_dst (N := 11) rfl ?_); (try (refine gate_guard (by rfl) ?_; dsimp only)); refine zBx (N := 11) #[.int .i64 0, .int .i64 0, .int .i64 0] 59 ?_; intro gb294 hg w41 hbox hb; replace HO_5 := zW HO_5.out hb; replace HO_6 := zW HO_6.out hb; replace HO_8 := zW HO_8.out hb; replace HO_28 := Aside0.mk (Kd.R_below (Kd.R_elderB (zR HO_28.out) gb294 (Nat.le_of_eq hg.symm)) hb); have BK294 := Aside0.mk (hbox); have GW294 := zSg hg (zG GE281.out); have GE294 := zSg hg (zG GE281.out); have NB281_294 := zL hg BK281.out; have NB294_281 := zLg hg BK281.out; replace BK281 := zV BK281.out hb; replace HB := zX1 GE281.out hb; clear hb hbox hg; have hnb42 := NB294_281.out; have hnc42 := NB281_294.out; obtain ⟨hcz43_0, hcz43_1, hcz43_2, hfz43_0, hfz43_1, hfz43_2⟩ := zq3 BK294.out)))
      refine Handed.intro k2 ?measure ?_
      rotate_left
      go_step
      (repeat apply Exists.intro)
      refine ⟨?rel, ?fr⟩
      case fr => with_reducible rfl
      case measure => have := HK1.out; have := HK2.out; omega
      case rel => exact ⟨(false), (wrap64 (x30_2 + 1)), zF, zF, H', ⟨by have := HK1.out; have := HK2.out; omega⟩, ⟨by (with_reducible repeat (first | apply Kd.R_alloc | apply Kd.R_drewN | apply Kd.R_drew)); exact Kd.R_mono (Kd.R_far (p := ⟨gb294, 2, none⟩) (Kd.R_far (p := ⟨gb294, 1, none⟩) (Kd.R_far (p := ⟨gb294, 0, none⟩) (Kd.R_types HO_5.out BK294.out (by decide)) (fun _ hk => hk.2) (.int .i64 ((rd_T59 t290 x30_2).f0))) (fun _ hk => hk.2) (.int .i64 ((rd_T59 t290 x30_2).f1))) (fun _ hk => hk.2) (.int .i64 ((rd_T59 t290 x30_2).f2))) (fun _ hk => trivial)⟩, ⟨by (with_reducible repeat (first | apply Kd.R_alloc | apply Kd.R_drewN | apply Kd.R_drew)); exact Kd.R_mono (Kd.R_far (p := ⟨gb294, 2, none⟩) (Kd.R_far (p := ⟨gb294, 1, none⟩) (Kd.R_far (p := ⟨gb294, 0, none⟩) (Kd.R_types HO_6.out BK294.out (by decide)) (fun _ hk => hk.2) (.int .i64 ((rd_T59 t290 x30_2).f0))) (fun _ hk => hk.2) (.int .i64 ((rd_T59 t290 x30_2).f1))) (fun _ hk => hk.2) (.int .i64 ((rd_T59 t290 x30_2).f2))) (fun _ hk => hk.1)⟩, ⟨by (with_reducible repeat (first | apply Kd.R_alloc | apply Kd.R_drewN | apply Kd.R_drew)); exact Kd.R_mono (Kd.R_far (p := ⟨gb294, 2, none⟩) (Kd.R_far (p := ⟨gb294, 1, none⟩) (Kd.R_far (p := ⟨gb294, 0, none⟩) (Kd.R_types HO_8.out BK294.out (by decide)) (fun _ hk => hk.2) (.int .i64 ((rd_T59 t290 x30_2).f0))) (fun _ hk => hk.2) (.int .i64 ((rd_T59 t290 x30_2).f1))) (fun _ hk => hk.2) (.int .i64 ((rd_T59 t290 x30_2).f2))) (fun _ hk => hk.1)⟩, ⟨by (with_reducible repeat (first | apply Kd.R_alloc | apply Kd.R_drewN | apply Kd.R_drew)); exact Kd.R_mono (Kd.R_far (p := ⟨gb294, 2, none⟩) (Kd.R_far (p := ⟨gb294, 1, none⟩) (Kd.R_far (p := ⟨gb294, 0, none⟩) (Kd.R_mono HO_28.out (fun k_ hk => (⟨hk, hk.2⟩ : _ ∧ k_ ≠ gb294))) (fun _ hk => hk.2) (.int .i64 ((rd_T59 t290 x30_2).f0))) (fun _ hk => hk.2) (.int .i64 ((rd_T59 t290 x30_2).f1))) (fun _ hk => hk.2) (.int .i64 ((rd_T59 t290 x30_2).f2))) (fun _ hk => trivial)⟩, ⟨zk3 BK281.out NB281_294.out NB281_294.out NB281_294.out⟩, ⟨zG2 GE281.out GE294.out⟩⟩
     rw [if_neg c22] at H
     exact absurd H (by simp)
    rw [if_neg c21] at H
    exact absurd H (by simp)
   rw [if_neg c20] at H
   have c20b0 := decide_eq_false c20
   clear c20
   by_cases c44 : x9_2 = true
   ·subst c44
    replace H := (if_pos rfl).symm.trans H
    by_cases c45 : (t287.length : Int) > (x6_1.length : Int)
    ·rw [if_pos c45] at H
     have c45b0 : decide ((x6_1.length : Int) < (t287.length : Int)) = true := decide_eq_true c45
     have c45b1 : decide (x6_1.length < t287.length) = true := decide_eq_true (Int.ofNat_lt.mp c45)
     clear c45
     have H' := Aside0.mk H; clear H
     obtain ⟨Ao46, co46, eo46⟩ := Kd.R_slice HO_6.out
     subst eo46
     go_wp2
     repeat (go_quiet (fail); try go_wp2)
     refine Handed.intro k2 ?measure ?_
     rotate_left
     go_step
     (repeat apply Exists.intro)
     refine ⟨?rel, ?fr⟩
     case fr => with_reducible rfl
     case measure => have := HK1.out; have := HK2.out; omega
     case rel => exact ⟨(t287), (wrap64 (x7_1 + 1)), zF, H', ⟨by have := HK1.out; have := HK2.out; omega⟩, ⟨zR HO_5.out⟩, ⟨by (with_reducible repeat (first | apply Kd.R_alloc | apply Kd.R_drewN | apply Kd.R_drew)); exact Kd.R_mono HO_8.out (fun _ hk => trivial)⟩, ⟨zK BK281.out⟩, ⟨zG GE281.out⟩⟩
    rw [if_neg c45] at H
    have c45b0 : decide ((x6_1.length : Int) < (t287.length : Int)) = false := decide_eq_false c45
    have c45b1 : decide (x6_1.length < t287.length) = false := decide_eq_false (fun h => c45 (Int.ofNat_lt.mpr h))
    clear c45
    by_cases c47 : (t287.length : Int) = (x6_1.length : Int)
    ·rw [if_pos c47] at H
     have c47b0 := beq_iff_eq.mpr c47
     have c47b1 := bne_eq_false_iff_eq.mpr c47
     have c47b2 : (t287.length == x6_1.length) = true := by first | simpa using c47 | (simp at c47 ⊢; omega)
     clear c47
     obtain ⟨t299, A48, H⟩ := zO H
     by_cases c49 : t299 < 0
     ·rw [if_pos c49] at H
      have c49b0 := decide_eq_true c49
      clear c49
      have H' := Aside0.mk H; clear H
      obtain ⟨Ao50, co50, eo50⟩ := Kd.R_slice HO_6.out
      subst eo50
      go_wp2_with (first | (go_at_call 49; (with_reducible refine (slices_Compare_int_int.calls k2 _ _ t287 _ _ x6_1 t299 _ ?side1 ?side2 ?side3 ?side4 A48.out).mono ?_); (case side1 => repeat (first | exact (Kd.R_reads' HO_8.out).2.2 | (with_reducible refine Kd.C_alloc ?_ _) | (with_reducible refine Kd.C_drewN ?_ _) | (with_reducible refine Kd.C_drew ?_))); (case side2 => exact (Kd.R_reads' HO_8.out).2.1); (case side3 => repeat (first | exact (Kd.R_reads' HO_6.out).2.2 | (with_reducible refine Kd.C_alloc ?_ _) | (with_reducible refine Kd.C_drewN ?_ _) | (with_reducible refine Kd.C_drew ?_))); (case side4 => exact (Kd.R_reads' HO_6.out).2.1); rintro e w' ⟨rfl, ⟨nd, rfl⟩⟩; (try first | exact ⟨rfl, _, World.drewN_drewN _ _ _⟩ | exact ⟨rfl, _, Eq.trans (World.drewN_drewN _ _ _) (congrArg (World.drewN _) (Nat.add_assoc _ _ _))⟩)))
      repeat (go_quiet (first | (go_at_call 49; (with_reducible refine (slices_Compare_int_int.calls k2 _ _ t287 _ _ x6_1 t299 _ ?side1 ?side2 ?side3 ?side4 A48.out).mono ?_); (case side1 => repeat (first | exact (Kd.R_reads' HO_8.out).2.2 | (with_reducible refine Kd.C_alloc ?_ _) | (with_reducible refine Kd.C_drewN ?_ _) | (with_reducible refine Kd.C_drew ?_))); (case side2 => exact (Kd.R_reads' HO_8.out).2.1); (case side3 => repeat (first | exact (Kd.R_reads' HO_6.out).2.2 | (with_reducible refine Kd.C_alloc ?_ _) | (with_reducible refine Kd.C_drewN ?_ _) | (with_reducible refine Kd.C_drew ?_))); (case side4 => exact (Kd.R_reads' HO_6.out).2.1); rintro e w' ⟨rfl, ⟨nd, rfl⟩⟩; (try first | exact ⟨rfl, _, World.drewN_drewN _ _ _⟩ | exact ⟨rfl, _, Eq.trans (World.drewN_drewN _ _ _) (congrArg (World.drewN _) (Nat.add_assoc _ _ _))⟩))); try go_wp2_with (first | (go_at_call 49; (with_reducible refine (slices_Compare_int_int.calls k2 _ _ t287 _ _ x6_1 t299 _ ?side1 ?side2 ?side3 ?side4 A48.out).mono ?_); (case side1 => repeat (first | exact (Kd.R_reads' HO_8.out).2.2 | (with_reducible refine Kd.C_alloc ?_ _) | (with_reducible refine Kd.C_drewN ?_ _) | (with_reducible refine Kd.C_drew ?_))); (case side2 => exact (Kd.R_reads' HO_8.out).2.1); (case side3 => repeat (first | exact (Kd.R_reads' HO_6.out).2.2 | (with_reducible refine Kd.C_alloc ?_ _) | (with_reducible refine Kd.C_drewN ?_ _) | (with_reducible refine Kd.C_drew ?_))); (case side4 => exact (Kd.R_reads' HO_6.out).2.1); rintro e w' ⟨rfl, ⟨nd, rfl⟩⟩; (try first | exact ⟨rfl, _, World.drewN_drewN _ _ _⟩ | exact ⟨rfl, _, Eq.trans (World.drewN_drewN _ _ _) (congrArg (World.drewN _) (Nat.add_assoc _ _ _))⟩))))
      refine Handed.intro k2 ?measure ?_
      rotate_left
      go_step
      (repeat apply Exists.intro)
      refine ⟨?rel, ?fr⟩
      case fr => with_reducible rfl
      case measure => have := HK1.out; have := HK2.out; omega
      case rel => exact ⟨(t287), (wrap64 (x7_1 + 1)), zF, H', ⟨by have := HK1.out; have := HK2.out; omega⟩, ⟨zR HO_5.out⟩, ⟨by (with_reducible repeat (first | apply Kd.R_alloc | apply Kd.R_drewN | apply Kd.R_drew)); exact Kd.R_mono HO_8.out (fun _ hk => trivial)⟩, ⟨zK BK281.out⟩, ⟨zG GE281.out⟩⟩
     rw [if_neg c49] at H
     have c49b0 := decide_eq_false c49
     clear c49
     have H' := Aside0.mk H; clear H
     obtain ⟨Ao51, co51, eo51⟩ := Kd.R_slice HO_6.out
     subst eo51
     go_wp2_with (first | (go_at_call 49; (with_reducible refine (slices_Compare_int_int.calls k2 _ _ t287 _ _ x6_1 t299 _ ?side1 ?side2 ?side3 ?side4 A48.out).mono ?_); (case side1 => repeat (first | exact (Kd.R_reads' HO_8.out).2.2 | (with_reducible refine Kd.C_alloc ?_ _) | (with_reducible refine Kd.C_drewN ?_ _) | (with_reducible refine Kd.C_drew ?_))); (case side2 => exact (Kd.R_reads' HO_8.out).2.1); (case side3 => repeat (first | exact (Kd.R_reads' HO_6.out).2.2 | (with_reducible refine Kd.C_alloc ?_ _) | (with_reducible refine Kd.C_drewN ?_ _) | (with_reducible refine Kd.C_drew ?_))); (case side4 => exact (Kd.R_reads' HO_6.out).2.1); rintro e w' ⟨rfl, ⟨nd, rfl⟩⟩; (try first | exact ⟨rfl, _, World.drewN_drewN _ _ _⟩ | exact ⟨rfl, _, Eq.trans (World.drewN_drewN _ _ _) (congrArg (World.drewN _) (Nat.add_assoc _ _ _))⟩)))
     repeat (go_quiet (first | (go_at_call 49; (with_reducible refine (slices_Compare_int_int.calls k2 _ _ t287 _ _ x6_1 t299 _ ?side1 ?side2 ?side3 ?side4 A48.out).mono ?_); (case side1 => repeat (first | exact (Kd.R_reads' HO_8.out).2.2 | (with_reducible refine Kd.C_alloc ?_ _) | (with_reducible refine Kd.C_drewN ?_ _) | (with_reducible refine Kd.C_drew ?_))); (case side2 => exact (Kd.R_reads' HO_8.out).2.1); (case side3 => repeat (first | exact (Kd.R_reads' HO_6.out).2.2 | (with_reducible refine Kd.C_alloc ?_ _) | (with_reducible refine Kd.C_drewN ?_ _) | (with_reducible refine Kd.C_drew ?_))); (case side4 => exact (Kd.R_reads' HO_6.out).2.1); rintro e w' ⟨rfl, ⟨nd, rfl⟩⟩; (try first | exact ⟨rfl, _, World.drewN_drewN _ _ _⟩ | exact ⟨rfl, _, Eq.trans (World.drewN_drewN _ _ _) (congrArg (World.drewN _) (Nat.add_assoc _ _ _))⟩))); try go_wp2_with (first | (go_at_call 49; (with_reducible refine (slices_Compare_int_int.calls k2 _ _ t287 _ _ x6_1 t299 _ ?side1 ?side2 ?side3 ?side4 A48.out).mono ?_); (case side1 => repeat (first | exact (Kd.R_reads' HO_8.out).2.2 | (with_reducible refine Kd.C_alloc ?_ _) | (with_reducible refine Kd.C_drewN ?_ _) | (with_reducible refine Kd.C_drew ?_))); (case side2 => exact (Kd.R_reads' HO_8.out).2.1); (case side3 => repeat (first | exact (Kd.R_reads' HO_6.out).2.2 | (with_reducible refine Kd.C_alloc ?_ _) | (with_reducible refine Kd.C_drewN ?_ _) | (with_reducible refine Kd.C_drew ?_))); (case side4 => exact (Kd.R_reads' HO_6.out).2.1); rintro e w' ⟨rfl, ⟨nd, rfl⟩⟩; (try first | exact ⟨rfl, _, World.drewN_drewN _ _ _⟩ | exact ⟨rfl, _, Eq.trans (World.drewN_drewN _ _ _) (congrArg (World.drewN _) (Nat.add_assoc _ _ _))⟩))))
     refine Handed.intro k2 ?measure ?_
     rotate_left
     go_step
     (repeat apply Exists.intro)
     refine ⟨?rel, ?fr⟩
     case fr => with_reducible rfl
     case measure => have := HK1.out; have := HK2.out; omega
     case rel => exact ⟨(x6_1), (wrap64 (x7_1 + 1)), zF, H', ⟨by have := HK1.out; have := HK2.out; omega⟩, ⟨zR HO_5.out⟩, ⟨by (with_reducible repeat (first | apply Kd.R_alloc | apply Kd.R_drewN | apply Kd.R_drew)); exact Kd.R_mono HO_6.out (fun _ hk => trivial)⟩, ⟨zK BK281.out⟩, ⟨zG GE281.out⟩⟩
    rw [if_neg c47] at H
    have c47b0 := beq_eq_false_iff_ne.mpr c47
    have c47b1 := bne_iff_ne.mpr c47
    have c47b2 : (t287.length == x6_1.length) = false := by first | simpa using c47 | (simp at c47 ⊢; omega)
    have H' := Aside0.mk H; clear H
    obtain ⟨Ao52, co52, eo52⟩ := Kd.R_slice HO_6.out
    subst eo52
    go_wp2
    repeat (go_quiet (fail); try go_wp2)
    refine Handed.intro k2 ?measure ?_
    rotate_left
    go_step
    (repeat apply Exists.intro)
    refine ⟨?rel, ?fr⟩
    case fr => with_reducible rfl
    case measure => have := HK1.out; have := HK2.out; omega
    case rel => exact ⟨(x6_1), (wrap64 (x7_1 + 1)), zF, H', ⟨by have := HK1.out; have := HK2.out; omega⟩, ⟨zR HO_5.out⟩, ⟨by (with_reducible repeat (first | apply Kd.R_alloc | apply Kd.R_drewN | apply Kd.R_drew)); exact Kd.R_mono HO_6.out (fun _ hk => trivial)⟩, ⟨zK BK281.out⟩, ⟨zG GE281.out⟩⟩
   replace c44 := Bool.eq_false_iff.mpr c44
   subst c44
   replace H := (if_neg zFf).symm.trans H
   have H' := Aside0.mk H; clear H
   go_wp2
   repeat (go_quiet (fail); try go_wp2)
   refine Handed.intro k2 ?measure ?_
   rotate_left
   go_step
   (repeat apply Exists.intro)
   refine ⟨?rel, ?fr⟩
   case fr => with_reducible rfl
   case measure => have := HK1.out; have := HK2.out; omega
   case rel => exact ⟨(x6_1), (wrap64 (x7_1 + 1)), zF, H', ⟨by have := HK1.out; have := HK2.out; omega⟩, ⟨zR HO_5.out⟩, ⟨by (with_reducible repeat (first | apply Kd.R_alloc | apply Kd.R_drewN | apply Kd.R_drew)); exact Kd.R_mono HO_6.out (fun _ hk => trivial)⟩, ⟨zK BK281.out⟩, ⟨zG GE281.out⟩⟩
  rw [if_neg c12] at H
  have c12b0 := decide_eq_false c12
  clear c12
  obtain rfl := Option.some.inj H
  obtain ⟨hcz53_0, hcz53_1, hfz53_0, hfz53_1⟩ := zq2 BK281.out
  go_wp2_with (first | (go_at_call 47; (with_reducible refine (impl_fullSet.calls a0_0 t286 _ A11.out).mono ?_); rintro e w' ⟨rfl, ⟨nd, rfl⟩⟩; (try first | exact ⟨rfl, _, World.drewN_drewN _ _ _⟩ | exact ⟨rfl, _, Eq.trans (World.drewN_drewN _ _ _) (congrArg (World.drewN _) (Nat.add_assoc _ _ _))⟩)))
  repeat (go_quiet (first | (go_at_call 47; (with_reducible refine (impl_fullSet.calls a0_0 t286 _ A11.out).mono ?_); rintro e w' ⟨rfl, ⟨nd, rfl⟩⟩; (try first | exact ⟨rfl, _, World.drewN_drewN _ _ _⟩ | exact ⟨rfl, _, Eq.trans (World.drewN_drewN _ _ _) (congrArg (World.drewN _) (Nat.add_assoc _ _ _))⟩))); try go_wp2_with (first | (go_at_call 47; (with_reducible refine (impl_fullSet.calls a0_0 t286 _ A11.out).mono ?_); rintro e w' ⟨rfl, ⟨nd, rfl⟩⟩; (try first | exact ⟨rfl, _, World.drewN_drewN _ _ _⟩ | exact ⟨rfl, _, Eq.trans (World.drewN_drewN _ _ _) (congrArg (World.drewN _) (Nat.add_assoc _ _ _))⟩))))
  go_ret
  exact ⟨_, zE, zR HO_6.out, zG GE281.out⟩
 replace c4 := Bool.eq_false_iff.mpr c4
 subst c4
 replace H := (if_neg zFf).symm.trans H
 obtain rfl := Option.some.inj H
 go_enter Try.func34, Try.ntmps34
 go_wp2_with (first | ((with_reducible refine gate_dst (N := 2) rfl ?_); (try (refine gate_guard (by rfl) ?_; dsimp only)); refine zBx (N := 2) #[.int .i64 a0_0, .string a0_1] 35 ?_; intro gb281 hg w54 hbox hb; have BK281 := Aside0.mk (hbox); have GW281 := zS hg; have GE281 := zS hg; replace HB := zX hb; clear hb hbox hg; obtain ⟨hcz55_0, hcz55_1, hfz55_0, hfz55_1⟩ := zq2 BK281.out) | (go_at_call 45; (with_reducible refine (impl_AreSigns.calls k a0_0 a0_1 false _ A3.out).mono ?_); rintro e w56 ⟨rfl, hb⟩; replace BK281 := zV BK281.out hb; replace HB := zX1 GE281.out hb; (try clear hb); (try clear hb2); (try clear hk); (try clear hi)))
 repeat (go_quiet (first | ((with_reducible refine gate_dst (N := 2) rfl ?_); (try (refine gate_guard (by rfl) ?_; dsimp only)); refine zBx (N := 2) #[.int .i64 a0_0, .string a0_1] 35 ?_; intro gb281 hg w54 hbox hb; have BK281 := Aside0.mk (hbox); have GW281 := zS hg; have GE281 := zS hg; replace HB := zX hb; clear hb hbox hg; obtain ⟨hcz55_0, hcz55_1, hfz55_0, hfz55_1⟩ := zq2 BK281.out) | (go_at_call 45; (with_reducible refine (impl_AreSigns.calls k a0_0 a0_1 false _ A3.out).mono ?_); rintro e w56 ⟨rfl, hb⟩; replace BK281 := zV BK281.out hb; replace HB := zX1 GE281.out hb; (try clear hb); (try clear hb2); (try clear hk); (try clear hi))); try go_wp2_with (first | ((with_reducible refine gate_dst (N := 2) rfl ?_); (try (refine gate_guard (by rfl) ?_; dsimp only)); refine zBx (N := 2) #[.int .i64 a0_0, .string a0_1] 35 ?_; intro gb281 hg w54 hbox hb; have BK281 := Aside0.mk (hbox); have GW281 := zS hg; have GE281 := zS hg; replace HB := zX hb; clear hb hbox hg; obtain ⟨hcz55_0, hcz55_1, hfz55_0, hfz55_1⟩ := zq2 BK281.out) | (go_at_call 45; (with_reducible refine (impl_AreSigns.calls k a0_0 a0_1 false _ A3.out).mono ?_); rintro e w56 ⟨rfl, hb⟩; replace BK281 := zV BK281.out hb; replace HB := zX1 GE281.out hb; (try clear hb); (try clear hb2); (try clear hk); (try clear hi))))
 go_ret
 exact ⟨_, zE, by first | exact Kd.R_nil _ _ _ _ _ | exact Kd.N_nil _ _ _ _ _ | exact Kd.V_nil _ _ _ _ _ | exact Kd.Q_nil _ _ _ _ _ | exact Kd.S_nil _ _ _ _ _, zG GE281.out⟩
/-! ### impl_CapOf: function 16 -/
def impl_CapOf.f (k : Nat) (a0_0 : Int) (a0_1 : ByteArray) : Option (List Int) := (impl_longest.f k a0_0 a0_1 (-1)).bind fun t301 => (some t301)
set_option maxHeartbeats 8000000 in
set_option maxRecDepth 100000 in
theorem impl_CapOf.calls (k : Nat) (a0_0 : Int) (a0_1 : ByteArray) (r : List Int) (w : World) (h : impl_CapOf.f k a0_0 a0_1 = some r) :
  Calls Try.prog 16 #[.agg #[.int .i64 a0_0, .string a0_1]] w fun e w' => ∃ v0_ : Value, e = .returned (v0_) ∧ Kd.R (Kd.int .i64) 3 w' w.heap.size (fun _ => True) v0_ r ∧ Below w.heap.size w w' := by
 have hu35 := Try.underlying35
 have HB := Aside0.mk (Below.refl w.heap.size w)
 have H : ((impl_longest.f k a0_0 a0_1 (-1)).bind fun t301 => (some t301)) = some r := h
 clear h
 obtain ⟨t301, A2, H⟩ := zO H
 obtain rfl := Option.some.inj H
 go_enter Try.func16, Try.ntmps16
 go_wp2_with (first | ((with_reducible refine gate_dst (N := 1) rfl ?_); refine zBx (N := 1) #[.int .i64 a0_0, .string a0_1] 35 ?_; intro gb300 hg w3 hbox hb; have BK300 := Aside0.mk (hbox); have GW300 := zS hg; have GE300 := zS hg; replace HB := zX hb; clear hb hbox hg; obtain ⟨hcz4_0, hcz4_1, hfz4_0, hfz4_1⟩ := zq2 BK300.out) | ((with_reducible refine gate_callee (f := 34) rfl ?_); refine zD (some 4) Try.func34 #[.agg #[.int .i64 a0_0, .string a0_1], .int .i64 (-1)] ?_; (with_reducible refine (impl_longest.calls k a0_0 a0_1 (-1) t301 _ A2.out).mono ?_); rintro e w5 ⟨v302, rfl, ho0, hb⟩; refine ⟨_, rfl, ?_⟩; have HO303 := Aside0.mk (Kd.R_lower ho0 (below_size (zG GE300.out))); replace BK300 := zV BK300.out hb; replace HB := zX1 GE300.out hb; (try clear hb); (try clear ho0)))
 go_ret
 exact ⟨_, zE, zR HO303.out, zG GE300.out⟩
/-! ### laws_eqIntS: function 17 -/
def laws_eqIntS.l0 : Nat → List Int → List Int → Int → Option (Bool)
 | 0, _, _, _ => none
 | k + 1, x0, x1, x5 => if x5 < (x0.length : Int) then (if 0 ≤ x5 then (if x5 < (x1.length : Int) then (if (rd x0 x5) = (rd x1 x5) then (laws_eqIntS.l0 k x0 x1 (wrap64 (x5 + 1))) else (some false)) else (none)) else (none)) else (some true)
def laws_eqIntS.f (k : Nat) (l0 : List Int) (l1 : List Int) : Option (Bool) := if (l0.length : Int) = (l1.length : Int) then (laws_eqIntS.l0 k l0 l1 0) else (some false)
set_option maxHeartbeats 8000000 in
set_option maxRecDepth 100000 in
theorem laws_eqIntS.calls (k : Nat) (A0 : Option Addr) (c0 : Nat) (l0 : List Int) (A1 : Option Addr) (c1 : Nat) (l1 : List Int) (r : Bool) (w : World) (hr0 : Kd.C (Kd.int .i64) w A0 l0.length l0) (hc0 : l0.length ≤ c0) (hr1 : Kd.C (Kd.int .i64) w A1 l1.length l1) (hc1 : l1.length ≤ c1) (h : laws_eqIntS.f k l0 l1 = some r) :
  Calls Try.prog 17 #[.slice A0 l0.length c0, .slice A1 l1.length c1] w fun e w' => e = .returned (.bool r) ∧ Drawn0 w w' := by
 have HR0 := Aside0.mk hr0
 have HC0 := Aside0.mk hc0
 clear hr0 hc0
 have HR1 := Aside0.mk hr1
 have HC1 := Aside0.mk hc1
 clear hr1 hc1
 have H : (if (l0.length : Int) = (l1.length : Int) then (laws_eqIntS.l0 k l0 l1 0) else (some false)) = some r := h
 clear h
 by_cases c3 : (l0.length : Int) = (l1.length : Int)
 ·rw [if_pos c3] at H
  have c3b0 := beq_iff_eq.mpr c3
  have c3b1 := bne_eq_false_iff_eq.mpr c3
  have c3b2 : (l0.length == l1.length) = true := by first | simpa using c3 | (simp at c3 ⊢; omega)
  clear c3
  have H' := Aside0.mk H; clear H
  go_enter Try.func17, Try.ntmps17
  go_wp2
  repeat (go_quiet (fail); try go_wp2)
  go_loopg [5] k (fun kq v5 w' => ∃ (x5_1 : Int), v5 = .int .i64 x5_1 ∧ Aside0 (laws_eqIntS.l0 kq l0 l1 x5_1 = some r) ∧ Aside0 (kq ≤ k) ∧ Drawn0 w w')
  case atStart => exact ⟨(0), zF, H', ⟨Nat.le_refl _⟩, by repeat (first | exact Drawn0.refl _ | apply Drawn0.step)⟩
  case round =>
  clear H'
  try clear c3
  try clear c3b0
  try clear c3b1
  try clear c3b2
  obtain ⟨x5_1, rfl, HA, HK1, ⟨m1, rfl⟩⟩ := hrel
  cases gk with
  | zero => exact absurd HA.out (by simp [laws_eqIntS.l0])
  | succ k1 =>
  have H := HA.out
  clear HA
  simp only [laws_eqIntS.l0] at H
  by_cases c4 : x5_1 < (l0.length : Int)
  ·rw [if_pos c4] at H
   have c4b0 := decide_eq_true c4
   clear c4
   by_cases c5 : 0 ≤ x5_1
   ·rw [if_pos c5] at H
    have c5b0 := decide_eq_true c5
    clear c5
    by_cases c6 : x5_1 < (l1.length : Int)
    ·rw [if_pos c6] at H
     have c6b0 := decide_eq_true c6
     clear c6
     by_cases c7 : (rd l0 x5_1) = (rd l1 x5_1)
     ·rw [if_pos c7] at H
      have c7b0 := beq_iff_eq.mpr c7
      have c7b1 := bne_eq_false_iff_eq.mpr c7
      clear c7
      have H' := Aside0.mk H; clear H
      have p304 : 0 ≤ (x5_1 : Int) := zA
      have q304 : x5_1 < (l0.length : Int) := zA
      obtain ⟨ad304, e304, hx304_0⟩ := Kd.at_int HR0.out x5_1 p304 q304
      cases e304
      replace p304 := eq_true p304
      replace q304 := eq_true q304
      have p305 : 0 ≤ (x5_1 : Int) := zA
      have q305 : x5_1 < (l1.length : Int) := zA
      obtain ⟨ad305, e305, hx305_0⟩ := Kd.at_int HR1.out x5_1 p305 q305
      cases e305
      replace p305 := eq_true p305
      replace q305 := eq_true q305
      go_wp2
      repeat (go_quiet (fail); try go_wp2)
      go_roundg k1
      case measure => have := HK1.out; omega
      case rel => exact ⟨(wrap64 (x5_1 + 1)), zF, H', ⟨by have := HK1.out; omega⟩, by repeat (first | exact Drawn0.refl _ | apply Drawn0.step)⟩
     rw [if_neg c7] at H
     have c7b0 := beq_eq_false_iff_ne.mpr c7
     have c7b1 := bne_iff_ne.mpr c7
     obtain rfl := Option.some.inj H
     have p304 : 0 ≤ (x5_1 : Int) := zA
     have q304 : x5_1 < (l0.length : Int) := zA
     obtain ⟨ad304, e304, hx304_0⟩ := Kd.at_int HR0.out x5_1 p304 q304
     cases e304
     replace p304 := eq_true p304
     replace q304 := eq_true q304
     have p305 : 0 ≤ (x5_1 : Int) := zA
     have q305 : x5_1 < (l1.length : Int) := zA
     obtain ⟨ad305, e305, hx305_0⟩ := Kd.at_int HR1.out x5_1 p305 q305
     cases e305
     replace p305 := eq_true p305
     replace q305 := eq_true q305
     go_wp2
     repeat (go_quiet (fail); try go_wp2)
     go_ret
     exact ⟨by first | rfl | (simp; done) | (simp [*]; done), by repeat (first | exact Drawn0.refl _ | apply Drawn0.step)⟩
    rw [if_neg c6] at H
    exact absurd H (by simp)
   rw [if_neg c5] at H
   exact absurd H (by simp)
  rw [if_neg c4] at H
  have c4b0 := decide_eq_false c4
  clear c4
  obtain rfl := Option.some.inj H
  go_wp2
  repeat (go_quiet (fail); try go_wp2)
  go_ret
  exact ⟨by first | rfl | (simp; done) | (simp [*]; done), by repeat (first | exact Drawn0.refl _ | apply Drawn0.step)⟩
 rw [if_neg c3] at H
 have c3b0 := beq_eq_false_iff_ne.mpr c3
 have c3b1 := bne_iff_ne.mpr c3
 have c3b2 : (l0.length == l1.length) = false := by first | simpa using c3 | (simp at c3 ⊢; omega)
 obtain rfl := Option.some.inj H
 go_enter Try.func17, Try.ntmps17
 go_wp2
 repeat (go_quiet (fail); try go_wp2)
 go_ret
 exact ⟨by first | rfl | (simp; done) | (simp [*]; done), by repeat (first | exact Drawn0.refl _ | apply Drawn0.step)⟩
/-! ### laws_markIntS: function 18 -/
def laws_markIntS.l0 : Nat → List Int → Int → Int → Option (Int × List Int)
 | 0, _, _, _ => none
 | k + 1, x0, x1, x5 => if x5 < (x0.length : Int) then (if 0 ≤ x5 then (laws_markIntS.l0 k (x0.set (x5 : Int).toNat x1) (wrap64 (x1 + 1)) (wrap64 (x5 + 1))) else (none)) else (some (x1, x0))
def laws_markIntS.f (k : Nat) (l0 : List Int) (a1 : Int) : Option (Int × List Int) := laws_markIntS.l0 k l0 a1 0
theorem zl60_0 {p q : Prop} (g : p) (h : p → q := by intro zg_; repeat (first | (with_reducible first | exact zg_ | apply Kept.alloc | apply Kept.drewN | apply Kept.drew) | exact zg_)) : q := h g
set_option maxHeartbeats 8000000 in
set_option maxRecDepth 100000 in
theorem laws_markIntS.calls (k : Nat) (P0_ : Nat → Prop) (u9000_ : Value) (l0 : List Int) (a1 : Int) (r1 : Int) (r2 : List Int) (w0 w : World) (hB : Below w0.heap.size w0 w) (ho0 : Kd.R (Kd.int .i64) 3 w w0.heap.size P0_ u9000_ l0) (h : laws_markIntS.f k l0 a1 = some (r1, r2)) :
  Calls Try.prog 18 #[u9000_, .int .i64 a1] w fun e w' => e = .returned (.int .i64 r1) ∧ Kd.R (Kd.int .i64) 3 w' w0.heap.size (fun k_ => (P0_ k_ ∨ w.heap.size ≤ k_)) u9000_ r2 ∧ Below w0.heap.size w0 w' ∧ Kept w w' (fun k_ => P0_ k_) := by
 have HO0 := Aside0.mk (show Kd.R (Kd.int .i64) 3 w w0.heap.size (fun k_ => (P0_ k_ ∨ w.heap.size ≤ k_)) u9000_ l0 from Kd.R_mono ho0 (fun k_ hk => (.inl hk)))
 have HK := Aside0.mk (Kept.refl w (fun k_ => P0_ k_))
 have HW0 := Aside0.mk hB.size
 have HB := Aside0.mk hB
 clear hB
 have H : (laws_markIntS.l0 k l0 a1 0) = some (r1, r2) := h
 clear h
 have H' := Aside0.mk H; clear H
 go_enter Try.func18, Try.ntmps18
 go_wp2
 go_loopg [1, 5] k (fun kq v1 v5 w' => ∃ (x0_1 : List Int) (x1_1 : Int) (x5_1 : Int), v1 = .int .i64 x1_1 ∧ v5 = .int .i64 x5_1 ∧ Aside0 (laws_markIntS.l0 kq x0_1 x1_1 x5_1 = some (r1, r2)) ∧ Aside0 (kq ≤ k) ∧ Aside0 (Kd.R (Kd.int .i64) 3 w' w0.heap.size (fun k_ => (P0_ k_ ∨ w.heap.size ≤ k_)) u9000_ x0_1) ∧ Aside0 (Kept w w' (fun k_ => P0_ k_)) ∧ Aside0 (Below w0.heap.size w0 w'))
 case atStart => exact ⟨(l0), (a1), (0), zF, zF, H', ⟨Nat.le_refl _⟩, ⟨zR HO0.out⟩, ⟨(zl60_0 HK.out)⟩, ⟨zB⟩⟩
 case round =>
 clear H'
 obtain ⟨x0_1, x1_1, x5_1, rfl, rfl, HA, HK1, HO_0, HK, HB⟩ := hrel
 cases gk with
 | zero => exact absurd HA.out (by simp [laws_markIntS.l0])
 | succ k1 =>
 have H := HA.out
 clear HA
 simp only [laws_markIntS.l0] at H
 by_cases c3 : x5_1 < (x0_1.length : Int)
 ·rw [if_pos c3] at H
  have c3b0 := decide_eq_true c3
  clear c3
  by_cases c4 : 0 ≤ x5_1
  ·rw [if_pos c4] at H
   have c4b0 := decide_eq_true c4
   clear c4
   obtain ⟨y306, hy306⟩ : ∃ y_ : List Int, y_ = (x0_1.set (x5_1 : Int).toNat x1_1) := ⟨_, rfl⟩
   replace H : (laws_markIntS.l0 k1 y306 (wrap64 (x1_1 + 1)) (wrap64 (x5_1 + 1))) = some (r1, r2) := by first | (rw [hy306]; with_reducible exact H) | (have H2_ := (Option.bind_some _ _).symm.trans H; rw [hy306]; with_reducible exact H2_) | (have H2_ := (Option.bind_some _ _).symm.trans H; with_reducible exact H2_) | with_reducible exact H | (rw [hy306]; exact H) | exact H
   have Ny306 := Aside0.mk hy306
   clear hy306
   have H' := Aside0.mk H; clear H
   obtain ⟨Ao6, co6, eo6⟩ := Kd.R_slice HO_0.out
   subst eo6
   have p5 : 0 ≤ (x5_1 : Int) := zA
   have q5 : (x5_1 : Int) < ((x0_1.length : Int) : Int) := zA
   obtain ⟨go5, co5, eo5, gb5, gl5, cl5, HG5⟩ := Kd.R_form HO_0.out (by omega)
   (first | cases eo5 | (injection eo5 with ea_ en_ ec_; (first | subst ea_ | (injection ea_ with ea_; subst ea_)); subst ec_; clear en_))
   have GB5 := Aside0.mk gb5
   have GG5 := Aside0.mk HG5
   clear gb5 gl5 HG5
   have HMgo5 := Aside0.mk (show (P0_ go5 ∨ w.heap.size ≤ go5) from (HO_0.out.1 _ rfl))
   obtain ⟨hx5_0, hf5_0⟩ := Kd.R_celln 0 HO_0.out (x5_1 : Int) p5 q5
   replace p5 := eq_true p5
   replace q5 := eq_true q5
   have HP7 := Kd.R_putg HO_0.out (x5_1 : Int) x1_1
   go_wp2_with (first | ((with_reducible refine gate_store (t := 3) (p := 15) rfl ?_); refine store_event (t := 3) (p := 15) (v := ?vo_w8) (w1 := (wr.setCell ⟨go5, (x5_1 : Int).toNat, none⟩ (.int .i64 x1_1))) ?hg ?ho ?hn ?hr ?_; (case ho => rfl); (case hg => rfl); (case hn => rfl); (case hr => first | (go_simp; done) | (go_simp; rfl)); intro w8 hw; have hg : wr.grownBy w8 (some go5) := (by rw [hw]; exact HP7.2); have hp_ : Kd.R (Kd.int .i64) 3 w8 w0.heap.size (fun k_ => (P0_ k_ ∨ w.heap.size ≤ k_)) (.slice (some ⟨go5, 0, none⟩) x0_1.length co6) y306 := (by rw [hw, Ny306.out]; exact HP7.1); clear HP7; replace HK := Aside0.mk (Kept.of_grown (S := (fun k_ => P0_ k_)) hg (zl60_0 HK.out) (fun k_ e_ => (HO_0.out.1 k_ e_))); replace HO_0 := Aside0.mk (hp_); replace HB := Aside0.mk ((by rw [hw]; exact below_set (HB.out) GB5.out : Below w0.heap.size w0 w8)); clear hg hw hp_))
   go_roundg k1
   case measure => have := HK1.out; omega
   case rel => exact ⟨(y306), (wrap64 (x1_1 + 1)), (wrap64 (x5_1 + 1)), zF, zF, H', ⟨by have := HK1.out; omega⟩, ⟨zR HO_0.out⟩, ⟨(zl60_0 HK.out)⟩, ⟨zB⟩⟩
  rw [if_neg c4] at H
  exact absurd H (by simp)
 rw [if_neg c3] at H
 have c3b0 := decide_eq_false c3
 clear c3
 simp only [Option.some.injEq, Prod.mk.injEq] at H
 obtain ⟨rfl, rfl⟩ := H
 obtain ⟨Ao9, co9, eo9⟩ := Kd.R_slice HO_0.out
 subst eo9
 go_wp2
 go_ret
 exact ⟨zE, zR HO_0.out, zB, (zl60_0 HK.out)⟩
/-! ### laws_heldIntS: function 19 -/
def laws_heldIntS.l0 : Nat → List Int → Int → Int → Option (Int)
 | 0, _, _, _ => none
 | k + 1, x0, x1, x5 => if x5 < (x0.length : Int) then (if 0 ≤ x5 then (if (rd x0 x5) = x1 then (laws_heldIntS.l0 k x0 (wrap64 (x1 + 1)) (wrap64 (x5 + 1))) else (some (-1))) else (none)) else (some x1)
def laws_heldIntS.f (k : Nat) (l0 : List Int) (a1 : Int) : Option (Int) := laws_heldIntS.l0 k l0 a1 0
set_option maxHeartbeats 8000000 in
set_option maxRecDepth 100000 in
theorem laws_heldIntS.calls (k : Nat) (A0 : Option Addr) (c0 : Nat) (l0 : List Int) (a1 : Int) (r : Int) (w : World) (hr0 : Kd.C (Kd.int .i64) w A0 l0.length l0) (hc0 : l0.length ≤ c0) (h : laws_heldIntS.f k l0 a1 = some r) :
  Calls Try.prog 19 #[.slice A0 l0.length c0, .int .i64 a1] w fun e w' => e = .returned (.int .i64 r) ∧ Drawn0 w w' := by
 have HR0 := Aside0.mk hr0
 have HC0 := Aside0.mk hc0
 clear hr0 hc0
 have H : (laws_heldIntS.l0 k l0 a1 0) = some r := h
 clear h
 have H' := Aside0.mk H; clear H
 go_enter Try.func19, Try.ntmps19
 go_wp2
 go_loopg [1, 5] k (fun kq v1 v5 w' => ∃ (x1_1 : Int) (x5_1 : Int), v1 = .int .i64 x1_1 ∧ v5 = .int .i64 x5_1 ∧ Aside0 (laws_heldIntS.l0 kq l0 x1_1 x5_1 = some r) ∧ Aside0 (kq ≤ k) ∧ Drawn0 w w')
 case atStart => exact ⟨(a1), (0), zF, zF, H', ⟨Nat.le_refl _⟩, by repeat (first | exact Drawn0.refl _ | apply Drawn0.step)⟩
 case round =>
 clear H'
 obtain ⟨x1_1, x5_1, rfl, rfl, HA, HK1, ⟨m1, rfl⟩⟩ := hrel
 cases gk with
 | zero => exact absurd HA.out (by simp [laws_heldIntS.l0])
 | succ k1 =>
 have H := HA.out
 clear HA
 simp only [laws_heldIntS.l0] at H
 by_cases c3 : x5_1 < (l0.length : Int)
 ·rw [if_pos c3] at H
  have c3b0 := decide_eq_true c3
  clear c3
  by_cases c4 : 0 ≤ x5_1
  ·rw [if_pos c4] at H
   have c4b0 := decide_eq_true c4
   clear c4
   by_cases c5 : (rd l0 x5_1) = x1_1
   ·rw [if_pos c5] at H
    have c5b0 := beq_iff_eq.mpr c5
    have c5b1 := bne_eq_false_iff_eq.mpr c5
    clear c5
    have H' := Aside0.mk H; clear H
    have p307 : 0 ≤ (x5_1 : Int) := zA
    have q307 : x5_1 < (l0.length : Int) := zA
    obtain ⟨ad307, e307, hx307_0⟩ := Kd.at_int HR0.out x5_1 p307 q307
    cases e307
    replace p307 := eq_true p307
    replace q307 := eq_true q307
    go_wp2
    go_roundg k1
    case measure => have := HK1.out; omega
    case rel => exact ⟨(wrap64 (x1_1 + 1)), (wrap64 (x5_1 + 1)), zF, zF, H', ⟨by have := HK1.out; omega⟩, by repeat (first | exact Drawn0.refl _ | apply Drawn0.step)⟩
   rw [if_neg c5] at H
   have c5b0 := beq_eq_false_iff_ne.mpr c5
   have c5b1 := bne_iff_ne.mpr c5
   obtain rfl := Option.some.inj H
   have p307 : 0 ≤ (x5_1 : Int) := zA
   have q307 : x5_1 < (l0.length : Int) := zA
   obtain ⟨ad307, e307, hx307_0⟩ := Kd.at_int HR0.out x5_1 p307 q307
   cases e307
   replace p307 := eq_true p307
   replace q307 := eq_true q307
   go_wp2
   go_ret
   exact ⟨by first | rfl | (simp; done) | (simp [*]; done), by repeat (first | exact Drawn0.refl _ | apply Drawn0.step)⟩
  rw [if_neg c4] at H
  exact absurd H (by simp)
 rw [if_neg c3] at H
 have c3b0 := decide_eq_false c3
 clear c3
 obtain rfl := Option.some.inj H
 go_wp2
 go_ret
 exact ⟨by first | rfl | (simp; done) | (simp [*]; done), by repeat (first | exact Drawn0.refl _ | apply Drawn0.step)⟩
end Go.Proofs.Ythhgcdfdjlijjaa.PX
namespace Go.Proofs.Ythhgcdfdjlijjaa.M
open Go.RowKit Go.Proofs.YthhgcdfdjlijjaaW.PrintWords
section
variable {α β : Type} {r : α} {r' : β}
theorem ev_pos {c : Prop} [Decidable c] {a b : Nat → Option α} (h : c) (k : Ev a r) : Ev (fun n => if c then a n else b n) r := Ev.congr (fun _ => if_pos h) k
theorem ev_neg {c : Prop} [Decidable c] {a b : Nat → Option α} (h : ¬ c) (k : Ev b r) : Ev (fun n => if c then a n else b n) r := Ev.congr (fun _ => if_neg h) k
theorem ev_call {x : Option α} {a : α} {f : Nat → α → Option β} (h : x = some a) (k : Ev (fun n => f n a) r') : Ev (fun n => x.bind (f n)) r' := Ev.congr (fun n => by rw [h]; rfl) k
theorem ev_cast {g : Nat → Option α} {a b : α} (h : Ev g a) (e : a = b) : Ev g b := e ▸ h
theorem ev_step {g : Nat → Option α} (k : Ev (fun n => g (n + 1)) r) : Ev g r := Ev.step (fun _ => rfl) k
end
theorem wrap_id {x : Int} (h0 : -9223372036854775808 ≤ x) (h1 : x ≤ 9223372036854775807) : wrap64 x = x := by unfold wrap64; omega
theorem size_list (t : ByteArray) : t.size = t.data.toList.length := rfl
theorem bt_nat {t : ByteArray} {i : Nat} (h : i < t.data.toList.length) : bt t (i : Int) = ((t.data.toList[i]).toNat : Int) := by
 have h' : i < t.size := h
 unfold bt
 simp only [Int.toNat_natCast, h', dite_true]
 rfl
def isSg (c : UInt8) : Bool := c = 43 || c = 45
def cntW (n : Int) : Int := wrap64 (Int.tdiv (wrap64 ((wrap64 (n * (wrap64 (n - 1)))) * (wrap64 (n - 2)))) 6)
theorem cntW_3 : cntW 3 = 1 := by decide +kernel
theorem cntW_4 : cntW 4 = 4 := by decide +kernel
theorem cntW_5 : cntW 5 = 10 := by decide +kernel
theorem cntW_6 : cntW 6 = 20 := by decide +kernel
theorem cntW_7 : cntW 7 = 35 := by decide +kernel
def areOk (n : Int) (t : ByteArray) : Bool := decide (3 ≤ n) && decide (n ≤ 7) && decide ((t.size : Int) = cntW n) && t.data.toList.all isSg
theorem u8_43 (c : UInt8) : ((c.toNat : Int) = 43) ↔ c = 43 := by
 constructor
 ·intro h; apply UInt8.toNat_inj.1; show c.toNat = 43; omega
 ·rintro rfl; rfl
theorem u8_45 (c : UInt8) : ((c.toNat : Int) = 45) ↔ c = 45 := by
 constructor
 ·intro h; apply UInt8.toNat_inj.1; show c.toNat = 45; omega
 ·rintro rfl; rfl
theorem areOk_iff (n : Int) (t : ByteArray) : areOk n t = true ↔ (3 ≤ n ∧ n ≤ 7) ∧ (t.size : Int) = cntW n ∧ ∀ c ∈ t.data.toList, c = 43 ∨ c = 45 := by
 simp only [areOk, Bool.and_eq_true, decide_eq_true_eq, List.all_eq_true, isSg, Bool.or_eq_true, and_assoc]
theorem areOk_size {n : Int} {t : ByteArray} (h : areOk n t = true) : t.size ≤ 35 := by
 obtain ⟨⟨h0, h1⟩, h2, _⟩ := (areOk_iff n t).1 h
 have h3 : cntW n ≤ 35 := by
  have : n = 3 ∨ n = 4 ∨ n = 5 ∨ n = 6 ∨ n = 7 := by omega
  rcases this with rfl | rfl | rfl | rfl | rfl
  ·rw [cntW_3]; decide
  ·rw [cntW_4]; decide
  ·rw [cntW_5]; decide
  ·rw [cntW_6]; decide
  ·rw [cntW_7]; decide
 omega
end Go.Proofs.Ythhgcdfdjlijjaa.M
namespace Go.Proofs.Ythhgcdfdjlijjaa.M
open Go.RowKit Go.Proofs.YthhgcdfdjlijjaaW.PrintWords Go.Proofs.Ythhgcdfdjlijjaa.PX
theorem impl_are_loop (n : Int) (t : ByteArray) (hs : t.data.toList.length ≤ 9223372036854775807) (d : Nat) : ∀ i : Nat, i + d = t.data.toList.length → Ev (fun k => impl_AreSigns.l0 k (i : Int) n t) ((t.data.toList.drop i).all isSg) := by
 induction d with
 | zero =>
  intro i hi
  rw [List.drop_of_length_le (by omega)]
  refine ev_step ?_
  simp only [impl_AreSigns.l0]
  exact ev_neg (by rw [size_list]; omega) (Ev.now _)
 | succ d ih =>
  intro i hi
  have hlt : i < t.data.toList.length := by omega
  rw [List.drop_eq_getElem_cons hlt, List.all_cons]
  refine ev_step ?_
  simp only [impl_AreSigns.l0]
  refine ev_pos (by rw [size_list]; omega) (ev_pos (by omega) ?_)
  rw [bt_nat hlt, wrap_id (by omega) (by omega)]
  have hn := ih (i + 1) (by omega)
  by_cases h1 : t.data.toList[i] = 43
  ·refine ev_pos ((u8_43 _).2 h1) ?_
   rw [show isSg t.data.toList[i] = true by simp [isSg, h1], Bool.true_and]
   exact hn
  ·refine ev_neg (fun h => h1 ((u8_43 _).1 h)) ?_
   by_cases h2 : t.data.toList[i] = 45
   ·refine ev_pos ((u8_45 _).2 h2) ?_
    rw [show isSg t.data.toList[i] = true by simp [isSg, h2], Bool.true_and]
    exact hn
   ·refine ev_neg (fun h => h2 ((u8_45 _).1 h)) ?_
    rw [show isSg t.data.toList[i] = false by unfold isSg; rw [decide_eq_false h1, decide_eq_false h2]; rfl, Bool.false_and]
    exact Ev.now _
theorem impl_are (n : Int) (t : ByteArray) (hs : t.size ≤ 9223372036854775807) : Ev (fun k => impl_AreSigns.f k n t) (areOk n t) := by
 rw [size_list] at hs
 unfold impl_AreSigns.f areOk
 have hj : ∀ r, Ev (fun k => impl_AreSigns.j0 k true n t) r ↔ r = false := fun r => by
  constructor
  ·rintro ⟨K, hK⟩
   have := hK (K + 1) (by omega)
   simp only [impl_AreSigns.j0, if_true] at this
   exact (Option.some.inj this).symm
  ·rintro rfl
   refine ev_step ?_
   simp only [impl_AreSigns.j0]
   exact ev_pos (by trivial) (Ev.now _)
 by_cases h0 : n < 3
 ·refine ev_pos h0 ((hj _).2 ?_)
  simp; omega
 ·refine ev_neg h0 ?_
  by_cases h1 : n > 7
  ·refine ev_pos h1 ((hj _).2 ?_)
   simp; omega
  ·refine ev_neg h1 ?_
   refine ev_step ?_
   simp only [impl_AreSigns.j0]
   rw [show decide (3 ≤ n) = true from decide_eq_true (by omega), show decide (n ≤ 7) = true from decide_eq_true (by omega), Bool.true_and, Bool.true_and]
   by_cases h2 : (t.size : Int) = cntW n
   ·refine ev_neg (by simp only [bne_iff_ne, ne_eq, Decidable.not_not]; exact h2) ?_
    rw [decide_eq_true h2, Bool.true_and]
    exact impl_are_loop n t hs t.data.toList.length 0 (by omega)
   ·refine ev_pos (by simp only [bne_iff_ne, ne_eq]; exact h2) ?_
    rw [decide_eq_false h2, Bool.false_and]
    exact Ev.now _
theorem spec_are_loop (n : Int) (t : ByteArray) (hs : t.data.toList.length ≤ 9223372036854775807) (d : Nat) : ∀ i : Nat, i + d = t.data.toList.length → Ev (fun k => spec_AreSigns.l0 k (i : Int) n t) ((t.data.toList.drop i).all isSg) := by
 induction d with
 | zero =>
  intro i hi
  rw [List.drop_of_length_le (by omega)]
  refine ev_step ?_
  simp only [spec_AreSigns.l0]
  exact ev_neg (by rw [size_list]; omega) (Ev.now _)
 | succ d ih =>
  intro i hi
  have hlt : i < t.data.toList.length := by omega
  rw [List.drop_eq_getElem_cons hlt, List.all_cons]
  refine ev_step ?_
  simp only [spec_AreSigns.l0]
  refine ev_pos (by rw [size_list]; omega) (ev_pos (by omega) ?_)
  rw [bt_nat hlt, wrap_id (by omega) (by omega)]
  have hn := ih (i + 1) (by omega)
  by_cases h1 : t.data.toList[i] = 43
  ·refine ev_pos ((u8_43 _).2 h1) ?_
   rw [show isSg t.data.toList[i] = true by simp [isSg, h1], Bool.true_and]
   exact hn
  ·refine ev_neg (fun h => h1 ((u8_43 _).1 h)) ?_
   by_cases h2 : t.data.toList[i] = 45
   ·refine ev_pos ((u8_45 _).2 h2) ?_
    rw [show isSg t.data.toList[i] = true by simp [isSg, h2], Bool.true_and]
    exact hn
   ·refine ev_neg (fun h => h2 ((u8_45 _).1 h)) ?_
    rw [show isSg t.data.toList[i] = false by unfold isSg; rw [decide_eq_false h1, decide_eq_false h2]; rfl, Bool.false_and]
    exact Ev.now _
theorem spec_in (x lo hi : Int) : spec_l1In.f x lo hi = some (decide (lo ≤ x) && decide (x ≤ hi)) := by
 unfold spec_l1In.f
 by_cases h : x ≥ lo
 ·rw [if_pos h, show decide (lo ≤ x) = true from decide_eq_true h, Bool.true_and]
 ·rw [if_neg h, show decide (lo ≤ x) = false from decide_eq_false h, Bool.false_and]
theorem spec_are (n : Int) (t : ByteArray) (hs : t.size ≤ 9223372036854775807) : Ev (fun k => spec_AreSigns.f k n t) (areOk n t) := by
 rw [size_list] at hs
 unfold spec_AreSigns.f areOk
 refine ev_call (spec_in n 3 7) ?_
 by_cases h0 : (decide (3 ≤ n) && decide (n ≤ 7)) = true
 ·refine ev_pos h0 ?_
  rw [h0, Bool.true_and]
  refine ev_step ?_
  simp only [spec_AreSigns.j0]
  by_cases h2 : (t.size : Int) = cntW n
  ·refine ev_neg (by simp only [bne_iff_ne, ne_eq, Decidable.not_not]; exact h2) ?_
   rw [decide_eq_true h2, Bool.true_and]
   exact spec_are_loop n t hs t.data.toList.length 0 (by omega)
  ·refine ev_pos (by simp only [bne_iff_ne, ne_eq]; exact h2) ?_
   rw [decide_eq_false h2, Bool.false_and]
   exact Ev.now _
 ·refine ev_neg h0 ?_
  rw [Bool.eq_false_iff.mpr h0, Bool.false_and, Bool.false_and]
  refine ev_step ?_
  simp only [spec_AreSigns.j0]
  exact ev_pos (by trivial) (Ev.now _)
end Go.Proofs.Ythhgcdfdjlijjaa.M
namespace Go.Proofs.Ythhgcdfdjlijjaa.M
open Go.RowKit Go.Proofs.YthhgcdfdjlijjaaW.PrintWords
section
variable {σ τ ρ α β : Type}
def Goes (z : Except ρ σ) (K : σ → Nat → Option ρ) (g : Nat → Option ρ) : Prop :=
 match z with
 | .error v => Ev g v
 | .ok s => ∀ r, Ev (K s) r → Ev g r
variable {z : Except ρ σ} {K : σ → Nat → Option ρ}
theorem Goes.ok (s : σ) : Goes (.ok s) K (K s) := fun _ h => h
theorem Goes.error {g : Nat → Option ρ} {v : ρ} (h : Ev g v) : Goes (.error v) K g := h
theorem Goes.map {g g' : Nat → Option ρ} (hg : ∀ r, Ev g' r → Ev g r) (h : Goes z K g') : Goes z K g := by
 cases z with
 | error v => exact hg _ h
 | ok s => exact fun r hr => hg _ (h r hr)
theorem Goes.step {g : Nat → Option ρ} (h : Goes z K (fun k => g (k + 1))) : Goes z K g := Goes.map (fun _ => ev_step) h
theorem Goes.neg {c : Prop} [Decidable c] {a b : Nat → Option ρ} (hc : ¬ c) (h : Goes z K b) : Goes z K (fun k => if c then a k else b k) := Goes.map (fun _ => ev_neg hc) h
theorem Goes.bind {y : Except ρ τ} {f : τ → Except ρ σ} {K' : τ → Nat → Option ρ} {g : Nat → Option ρ} (h : Goes y K' g) (h' : ∀ s, Goes (f s) K (K' s)) : Goes (y >>= f) K g := by
 cases y with
 | error v => exact h
 | ok s => exact Goes.map (h ·) (h' s)
theorem Goes.out {g : Nat → Option ρ} {r : ρ} (h : Goes z K g) (he : ∀ v, z = .error v → v = r) (ho : ∀ s, z = .ok s → Ev (K s) r) : Ev g r := by
 cases z with
 | error v => exact he v rfl ▸ h
 | ok s => exact h r (ho s rfl)
end
def upFrom (n a : Nat) : List Nat := List.range' (a + 1) (n - (a + 1))
def tripsL (n : Nat) : List (Nat × Nat × Nat) := (List.range' 0 n).flatMap fun a => (upFrom n a).flatMap fun b => (upFrom n b).map fun c => (a, b, c)
theorem mem_upFrom {n a b : Nat} (h : b ∈ upFrom n a) : a < b ∧ b < n := by
 simp only [upFrom, List.mem_range'_1] at h
 omega
theorem mem_trips {n a b c : Nat} (h : (a, b, c) ∈ tripsL n) : a < b ∧ b < c ∧ c < n := by
 simp only [tripsL, List.mem_flatMap, List.mem_map, Prod.mk.injEq] at h
 obtain ⟨x, _, y, hy, z, hz, rfl, rfl, rfl⟩ := h
 have := mem_upFrom hy
 have := mem_upFrom hz
 omega
theorem trips_mem {n a b c : Nat} (h1 : a < b) (h2 : b < c) (h3 : c < n) : (a, b, c) ∈ tripsL n := by
 simp only [tripsL, List.mem_flatMap, List.mem_map, Prod.mk.injEq, upFrom, List.mem_range'_1]
 exact ⟨a, by omega, b, by omega, c, by omega, rfl, rfl, rfl⟩
section
variable {σ ρ : Type} {n : Nat} {K : σ → Nat → Option ρ}
end
end Go.Proofs.Ythhgcdfdjlijjaa.M
namespace Go.Proofs.Ythhgcdfdjlijjaa.M
open Go.RowKit Go.Proofs.YthhgcdfdjlijjaaW.PrintWords Go.Proofs.Ythhgcdfdjlijjaa.PX
def tripN (n : Nat) : List S59 := (List.range n).flatMap fun (i : Nat) => (List.range n).flatMap fun (j : Nat) => (List.range n).flatMap fun (k : Nat) => if i < j ∧ j < k then [(⟨(i : Int), (j : Int), (k : Int)⟩ : S59)] else []
theorem triples_closed : (impl_triplesOf.f 200 3 = some (tripN 3) ∧ impl_triplesOf.f 200 4 = some (tripN 4) ∧ impl_triplesOf.f 200 5 = some (tripN 5)) ∧ impl_triplesOf.f 200 6 = some (tripN 6) ∧ impl_triplesOf.f 200 7 = some (tripN 7) := by
 refine ⟨⟨?_, ?_, ?_⟩, ?_, ?_⟩ <;> kernel_rfl
theorem five {n : Nat} (h0 : 3 ≤ n) (h1 : n ≤ 7) {p : Nat → Prop} (a : p 3) (b : p 4) (c : p 5) (d : p 6) (e : p 7) : p n := by
 have : n = 3 ∨ n = 4 ∨ n = 5 ∨ n = 6 ∨ n = 7 := by omega
 rcases this with rfl | rfl | rfl | rfl | rfl <;> assumption
theorem triples_ev {n : Nat} (h0 : 3 ≤ n) (h1 : n ≤ 7) : Ev (fun k => impl_triplesOf.f k (n : Int)) (tripN n) := by
 obtain ⟨⟨h3, h4, h5⟩, h6, h7⟩ := triples_closed
 refine five (p := fun n => Ev (fun k => impl_triplesOf.f k (n : Int)) (tripN n)) h0 h1 ?_ ?_ ?_ ?_ ?_
 ·exact Ev.of (impl_triplesOf.mono 3) h3
 ·exact Ev.of (impl_triplesOf.mono 4) h4
 ·exact Ev.of (impl_triplesOf.mono 5) h5
 ·exact Ev.of (impl_triplesOf.mono 6) h6
 ·exact Ev.of (impl_triplesOf.mono 7) h7
theorem tripN_L {n : Nat} (h0 : 3 ≤ n) (h1 : n ≤ 7) : tripN n = (tripsL n).map fun q => ⟨(q.1 : Int), (q.2.1 : Int), (q.2.2 : Int)⟩ := by
 refine five (p := fun n => tripN n = (tripsL n).map fun q => ⟨(q.1 : Int), (q.2.1 : Int), (q.2.2 : Int)⟩) h0 h1 ?_ ?_ ?_ ?_ ?_ <;> kernel_rfl
theorem trips_small : ∀ n, n ≤ 7 → (tripsL n).length ≤ 35 := by decide +kernel
theorem rd_trip {ts : List S59} {i : Nat} (h : i < ts.length) : rd_T59 ts (i : Int) = ts[i] := by
 unfold rd_T59
 rw [Int.toNat_natCast, List.getD_eq_getElem?_getD, List.getElem?_eq_getElem h]
 rfl
end Go.Proofs.Ythhgcdfdjlijjaa.M
namespace Go.Proofs.Ythhgcdfdjlijjaa.M
open Go.RowKit Go.Proofs.YthhgcdfdjlijjaaW.PrintWords Go.Proofs.Ythhgcdfdjlijjaa.PX Go.Proofs.Ythhgcdfdjlijjaa.G
def sgB (t : ByteArray) (m : Nat) : Int := if bt t (m : Int) = 45 then -1 else 1
def six (i j k m x : Nat) : Option (Bool × Nat) :=
 if x = ix3 j i k then some (true, m) else if x = ix3 k j i then some (true, m) else if x = ix3 i k j then some (true, m)
 else if x = ix3 k i j then some (false, m) else if x = ix3 j k i then some (false, m) else if x = ix3 i j k then some (false, m) else none
def lookT : List S59 → Nat → Nat → Option (Bool × Nat)
 | [], _, _ => none
 | y :: r, m, x => match lookT r (m + 1) x with
  | some z => some z
  | none => six y.f0.toNat y.f1.toNat y.f2.toNat m x
def sgv (neg : Bool) (s : Int) : Int := if neg then -s else s
def foldTbl (t : ByteArray) : List Int → List S59 → Nat → List Int
 | l, [], _ => l
 | l, y :: r, m => foldTbl t (set6 l y.f0.toNat y.f1.toNat y.f2.toNat (sgB t m)) r (m + 1)
theorem set_getD (l : List Int) (m x : Nat) (v : Int) (hx : x < l.length) : (l.set m v).getD x 0 = if x = m then v else l.getD x 0 := by
 simp only [List.getD_eq_getElem?_getD, List.getElem?_set]
 by_cases h : m = x
 ·subst h; simp [hx]
 ·rw [if_neg h, if_neg (fun e => h e.symm)]
theorem set6_getD (l : List Int) (i j k m x : Nat) (s : Int) (hx : x < l.length) :
  (set6 l i j k s).getD x 0 = match six i j k m x with | some z => sgv z.1 s | none => l.getD x 0 := by
 unfold set6 six
 rw [set_getD _ _ _ _ (by simp only [List.length_set]; exact hx), set_getD _ _ _ _ (by simp only [List.length_set]; exact hx), set_getD _ _ _ _ (by simp only [List.length_set]; exact hx),
  set_getD _ _ _ _ (by simp only [List.length_set]; exact hx), set_getD _ _ _ _ (by simp only [List.length_set]; exact hx), set_getD _ _ _ _ hx]
 split
 ·rfl
 split
 ·rfl
 split
 ·rfl
 split
 ·rfl
 split
 ·rfl
 split <;> rfl
theorem six_snd {i j k m x : Nat} {z : Bool × Nat} (h : six i j k m x = some z) : z.2 = m := by
 unfold six at h
 (repeat' split at h) <;> first | (cases h; rfl) | cases h
theorem foldTbl_length (t : ByteArray) : ∀ (ts : List S59) (l : List Int) (m : Nat), (foldTbl t l ts m).length = l.length
 | [], _, _ => rfl
 | y :: r, l, m => by rw [foldTbl, foldTbl_length t r, set6_length]
theorem foldTbl_getD (t : ByteArray) (x : Nat) : ∀ (ts : List S59) (l : List Int) (m : Nat), x < l.length →
  (foldTbl t l ts m).getD x 0 = match lookT ts m x with | some z => sgv z.1 (sgB t z.2) | none => l.getD x 0
 | [], _, _, _ => rfl
 | y :: r, l, m, hx => by
  rw [foldTbl, foldTbl_getD t x r _ _ (by rw [set6_length]; exact hx), lookT]
  cases lookT r (m + 1) x with
  | some z => rfl
  | none =>
   simp only []
   rw [set6_getD _ _ _ _ m _ _ hx]
   cases hz : six y.f0.toNat y.f1.toNat y.f2.toNat m x with
   | none => rfl
   | some z => rw [← six_snd hz]
def tblL (n : Nat) (t : ByteArray) : List Int := foldTbl t ((n : Int) :: List.replicate 343 (0 : Int)) (tripN n) 0
theorem tblL_length (n : Nat) (t : ByteArray) : (tblL n t).length = 344 := by
 unfold tblL
 rw [foldTbl_length, List.length_cons, List.length_replicate]
def chi (n : Nat) (t : ByteArray) (i j k : Nat) : Int := match lookT (tripN n) 0 (ix3 i j k) with | some z => sgv z.1 (sgB t z.2) | none => 0
theorem tbl_rd (n : Nat) (t : ByteArray) (i j k : Nat) (hi : i < 7) (hj : j < 7) (hk : k < 7) : rd3 (tblL n t) (i : Int) (j : Int) (k : Int) = chi n t i j k := by
 have hx : ix3 i j k < 344 := by unfold ix3; omega
 have e : rd3 (tblL n t) (i : Int) (j : Int) (k : Int) = (tblL n t).getD (ix3 i j k) 0 := by
  unfold rd3 rd
  have : (1 + (i : Int) * 49 + (j : Int) * 7 + (k : Int)).toNat = ix3 i j k := by unfold ix3; omega
  rw [this]
 rw [e]
 unfold tblL chi
 rw [foldTbl_getD t _ _ _ _ (by rw [List.length_cons, List.length_replicate]; exact hx)]
 have h0 : ((n : Int) :: List.replicate 343 (0 : Int)).getD (ix3 i j k) 0 = 0 := by
  have : ix3 i j k = (i * 49 + j * 7 + k) + 1 := by unfold ix3; omega
  rw [this, List.getD_cons_succ, List.getD_eq_getElem?_getD, List.getElem?_replicate]
  split <;> rfl
 rw [h0]
def smallT (ts : List S59) : Bool := ts.all fun y => decide (0 ≤ y.f0) && decide (y.f0 < 7) && decide (0 ≤ y.f1) && decide (y.f1 < 7) && decide (0 ≤ y.f2) && decide (y.f2 < 7)
theorem set_some (l : List Int) (a b c s : Int) (hl : l.length = 344) (ha : 0 ≤ a ∧ a < 7) (hb : 0 ≤ b ∧ b < 7) (hc : 0 ≤ c ∧ c < 7) (hs : s = 1 ∨ s = -1) : impl_chi_set.f l a b c s = some (set6 l a.toNat b.toNat c.toNat s) := by
 unfold impl_chi_set.f
 rw [if_pos ⟨hl, ha, hb, hc, by omega, by omega⟩]
theorem tableOf_loop (n : Int) (t : ByteArray) (ts : List S59) (hts : smallT ts = true) (hn : ts.length ≤ 100) (htt : ts.length ≤ t.size) (d : Nat) : ∀ (i : Nat) (l : List Int), i + d = ts.length → l.length = 344 →
  Ev (fun k => impl_tableOf.l0 k l ts (ts.length : Int) (i : Int) n t) (foldTbl t l (ts.drop i) i) := by
 induction d with
 | zero =>
  intro i l hi hl
  rw [List.drop_of_length_le (by omega)]
  refine ev_step ?_
  simp only [impl_tableOf.l0]
  exact ev_neg (by omega) (Ev.now _)
 | succ d ih =>
  intro i l hi hl
  have hlt : i < ts.length := by omega
  rw [List.drop_eq_getElem_cons hlt, foldTbl]
  have hy := List.all_eq_true.1 hts ts[i] (List.getElem_mem hlt)
  simp only [Bool.and_eq_true, decide_eq_true_eq] at hy
  obtain ⟨⟨⟨⟨⟨a0, a1⟩, b0⟩, b1⟩, c0⟩, c1⟩ := hy
  have hr : rd_T59 ts (i : Int) = ts[i] := by
   unfold rd_T59
   rw [Int.toNat_natCast, List.getD_eq_getElem?_getD, List.getElem?_eq_getElem hlt]
   rfl
  refine ev_step ?_
  simp only [impl_tableOf.l0, hr]
  refine ev_pos (by omega) (ev_pos (by omega) (ev_pos (by omega) (ev_pos (by omega) ?_)))
  rw [wrap_id (by omega) (by omega)]
  have hn := fun s => ih (i + 1) (set6 l ts[i].f0.toNat ts[i].f1.toNat ts[i].f2.toNat s) (by omega) (by rw [set6_length]; exact hl)
  by_cases h : bt t (i : Int) = 45
  ·have hsg : sgB t i = -1 := by unfold sgB; rw [if_pos h]
   rw [hsg]
   exact ev_pos h (ev_pos hl (ev_call (set_some l _ _ _ (-1) hl ⟨a0, a1⟩ ⟨b0, b1⟩ ⟨c0, c1⟩ (Or.inr rfl)) (hn _)))
  ·have hsg : sgB t i = 1 := by unfold sgB; rw [if_neg h]
   rw [hsg]
   exact ev_neg h (ev_pos hl (ev_call (set_some l _ _ _ 1 hl ⟨a0, a1⟩ ⟨b0, b1⟩ ⟨c0, c1⟩ (Or.inl rfl)) (hn _)))
def smallC (n : Nat) : Bool := smallT (tripN n) && decide (((tripN n).length : Int) = cntW n)
theorem trip_small {n : Nat} (h0 : 3 ≤ n) (h1 : n ≤ 7) : smallT (tripN n) = true ∧ ((tripN n).length : Int) = cntW n := by
 have h : smallC n = true := by refine five (p := fun n => smallC n = true) h0 h1 ?_ ?_ ?_ ?_ ?_ <;> decide +kernel
 simpa [smallC] using h
theorem tableOf_ev {n : Nat} {t : ByteArray} (h : areOk n t = true) : Ev (fun k => impl_tableOf.f k (n : Int) t) (tblL n t) := by
 obtain ⟨⟨h0, h1⟩, h2, _⟩ := (areOk_iff _ _).1 h
 have h0 : 3 ≤ n := by omega
 have h1 : n ≤ 7 := by omega
 obtain ⟨hs, hc⟩ := trip_small h0 h1
 have hz := areOk_size h
 unfold impl_tableOf.f tblL
 refine Ev.bind (triples_ev h0 h1) ?_
 have := tableOf_loop n t (tripN n) hs (by omega) (by omega) (tripN n).length 0 ((n : Int) :: List.replicate 343 (0 : Int)) (by omega) (by rw [List.length_cons, List.length_replicate])
 exact this
def chkT (n a b c : Nat) : Bool :=
 match lookT (tripN n) 0 (ix3 a b c) with
 | some (false, p) => decide (p < (tripN n).length) && (spec_l3Index.f 60 (n : Int) (a : Int) (b : Int) (c : Int) == some (p : Int)) &&
   (lookT (tripN n) 0 (ix3 b c a) == some (false, p)) && (lookT (tripN n) 0 (ix3 c a b) == some (false, p)) &&
   (lookT (tripN n) 0 (ix3 a c b) == some (true, p)) && (lookT (tripN n) 0 (ix3 c b a) == some (true, p)) && (lookT (tripN n) 0 (ix3 b a c) == some (true, p))
 | _ => false
def chkN (n : Nat) : Bool := (List.range n).all fun a => (List.range n).all fun b => (List.range n).all fun c => !(decide (a < b) && decide (b < c)) || chkT n a b c
theorem chkN_all {n : Nat} (h0 : 3 ≤ n) (h1 : n ≤ 7) : chkN n = true := by
 refine five (p := fun n => chkN n = true) h0 h1 ?_ ?_ ?_ ?_ ?_ <;> decide +kernel
theorem chi_all {n a b c : Nat} (t : ByteArray) (h0 : 3 ≤ n) (h1 : n ≤ 7) (hab : a < b) (hbc : b < c) (hc : c < n) :
  ∃ p, p < (tripN n).length ∧ Ev (fun k => spec_l3Index.f k (n : Int) (a : Int) (b : Int) (c : Int)) (p : Int) ∧ chi n t a b c = sgB t p ∧ chi n t b c a = sgB t p ∧ chi n t c a b = sgB t p ∧
   chi n t a c b = -sgB t p ∧ chi n t c b a = -sgB t p ∧ chi n t b a c = -sgB t p := by
 have h := chkN_all h0 h1
 have h := List.all_eq_true.1 h a (List.mem_range.2 (by omega))
 have h := List.all_eq_true.1 h b (List.mem_range.2 (by omega))
 have h := List.all_eq_true.1 h c (List.mem_range.2 hc)
 rw [decide_eq_true hab, decide_eq_true hbc] at h
 simp only [Bool.and_self, Bool.not_true, Bool.false_or] at h
 unfold chkT at h
 split at h
 ·rename_i p hp
  simp only [Bool.and_eq_true, decide_eq_true_eq, beq_iff_eq] at h
  obtain ⟨⟨⟨⟨⟨⟨g0, g1⟩, g2⟩, g3⟩, g4⟩, g5⟩, g6⟩ := h
  refine ⟨p, g0, Ev.of (spec_l3Index.mono _ _ _ _) g1, ?_⟩
  unfold chi
  rw [hp, g2, g3, g4, g5, g6]
  exact ⟨rfl, rfl, rfl, rfl, rfl, rfl⟩
 ·cases h
theorem wrap_neg_neg : wrap64 (- -1) = 1 := by decide +kernel
theorem wrap_one_ : wrap64 (-(1 : Int)) = -1 := by decide +kernel
theorem at_end {n : Nat} {t : ByteArray} (h : areOk n t = true) {a b c : Nat} {p : Nat} (hp : p < (tripN n).length) (he : Ev (fun k => spec_l3Index.f k (n : Int) (a : Int) (b : Int) (c : Int)) (p : Int)) (x y : Int) :
  Ev (fun k => (spec_l3Index.f k (n : Int) (a : Int) (b : Int) (c : Int)).bind fun z => if 0 ≤ z then (if z < (t.size : Int) then (if bt t z = 45 then some y else some x) else none) else none) (if bt t (p : Int) = 45 then y else x) := by
 obtain ⟨⟨h0, h1⟩, h2, _⟩ := (areOk_iff _ _).1 h
 have hc := (trip_small (n := n) (by omega) (by omega)).2
 refine Ev.bind he (ev_pos (by omega) (ev_pos (by omega) ?_))
 split <;> exact Ev.now _
theorem l3At_ev {n : Nat} {t : ByteArray} (h : areOk n t = true) {i j k : Nat} (hi : i < n) (hj : j < n) (hk : k < n) (hij : i ≠ j) (hjk : j ≠ k) (hik : i ≠ k) :
  Ev (fun q => spec_l3At.f q (n : Int) t (i : Int) (j : Int) (k : Int)) (chi n t i j k) := by
 obtain ⟨⟨h0, h1⟩, _, _⟩ := (areOk_iff _ _).1 h
 have h0 : 3 ≤ n := by omega
 have h1 : n ≤ 7 := by omega
 unfold spec_l3At.f
 rcases Nat.lt_or_gt_of_ne hij with ij | ij
 ·refine ev_neg (by omega) (ev_step ?_)
  simp only [spec_l3At.j0]
  rcases Nat.lt_or_gt_of_ne hjk with jk | jk
  ·refine ev_neg (by omega) (ev_step ?_)
   simp only [spec_l3At.j1]
   refine ev_neg (by omega) ?_
   obtain ⟨p, hp, he, e1, _⟩ := chi_all t h0 h1 ij jk hk
   refine ev_cast (at_end h hp he _ _) ?_
   rw [e1, wrap_one_]; rfl
  ·refine ev_pos (by omega) (ev_step ?_)
   simp only [spec_l3At.j1]
   rcases Nat.lt_or_gt_of_ne hik with ik | ik
   ·refine ev_neg (by omega) ?_
    obtain ⟨p, hp, he, _, _, _, e1, _⟩ := chi_all t h0 h1 ik jk hj
    refine ev_cast (at_end h hp he _ _) ?_
    rw [e1, wrap_one_, wrap_neg_neg]; unfold sgB; split <;> rfl
   ·refine ev_pos (by omega) ?_
    obtain ⟨p, hp, he, _, e1, _⟩ := chi_all t h0 h1 ik ij hj
    refine ev_cast (at_end h hp he _ _) ?_
    rw [e1, wrap_one_, wrap_neg_neg, wrap_one_]; rfl
 ·refine ev_pos (by omega) (ev_step ?_)
  simp only [spec_l3At.j0]
  rcases Nat.lt_or_gt_of_ne hik with ik | ik
  ·refine ev_neg (by omega) (ev_step ?_)
   simp only [spec_l3At.j1]
   refine ev_neg (by omega) ?_
   obtain ⟨p, hp, he, _, _, _, _, _, e1⟩ := chi_all t h0 h1 ij ik hk
   refine ev_cast (at_end h hp he _ _) ?_
   rw [e1, wrap_neg_neg]; unfold sgB; split <;> rfl
  ·refine ev_pos (by omega) (ev_step ?_)
   simp only [spec_l3At.j1]
   rcases Nat.lt_or_gt_of_ne hjk with jk | jk
   ·refine ev_neg (by omega) ?_
    obtain ⟨p, hp, he, _, _, e1, _⟩ := chi_all t h0 h1 jk ik hi
    refine ev_cast (at_end h hp he _ _) ?_
    rw [e1, wrap_neg_neg, wrap_one_]; rfl
   ·refine ev_pos (by omega) ?_
    obtain ⟨p, hp, he, _, _, _, _, e1, _⟩ := chi_all t h0 h1 jk ij hi
    refine ev_cast (at_end h hp he _ _) ?_
    rw [e1, wrap_neg_neg, wrap_one_, wrap_neg_neg]; unfold sgB; split <;> rfl
end Go.Proofs.Ythhgcdfdjlijjaa.M
namespace Go.Proofs.Ythhgcdfdjlijjaa.U
structure Uni (n : Nat) (f : Nat → Nat → Nat → Int) : Prop where
 pm : ∀ a b c, a < n → b < n → c < n → a ≠ b → b ≠ c → a ≠ c → f a b c = 1 ∨ f a b c = -1
 s1 : ∀ a b c, a < n → b < n → c < n → f b a c = -f a b c
 s2 : ∀ a b c, a < n → b < n → c < n → f a c b = -f a b c
 gp : ∀ x a b c d, x < n → a < n → b < n → c < n → d < n → a ≠ b → a ≠ c → a ≠ d → b ≠ c → b ≠ d → c ≠ d → x ≠ a → x ≠ b → x ≠ c → x ≠ d → ¬ (f x a b * f x c d = f x a d * f x b c ∧ f x a d * f x b c = -(f x a c) * f x b d)
def Pos (f : Nat → Nat → Nat → Int) (a b c d : Nat) : Prop := f a c d = -(f b c d) ∧ f a b d = f b c d ∧ f a b c = -(f b c d)
def D4 (a b c d : Nat) : Prop := a ≠ b ∧ a ≠ c ∧ a ≠ d ∧ b ≠ c ∧ b ≠ d ∧ c ≠ d
def Acy (n : Nat) (f : Nat → Nat → Nat → Int) : Prop := ∀ a b c d, a < n → b < n → c < n → d < n → D4 a b c d → ¬ Pos f a b c d
section
variable {n : Nat} {f : Nat → Nat → Nat → Int} (o : Uni n f)
include o
theorem Uni.trans {t s p q r : Nat} (ht : t < n) (hs : s < n) (hp : p < n) (hq : q < n) (hr : r < n) (hd : D4 s p q r) (k1 : t ≠ s) (k2 : t ≠ p) (k3 : t ≠ q) (k4 : t ≠ r)
  (h1 : f t s p = 1) (h2 : f t s q = 1) (h3 : f t s r = 1) (c1 : f t p q = 1) (c2 : f t q r = 1) : f t p r = 1 := by
 obtain ⟨d1, d2, d3, d4, d5, d6⟩ := hd
 rcases o.pm t p r ht hp hr k2 d5 k4 with v | v
 ·exact v
 ·refine absurd ?_ (o.gp t s p q r ht hs hp hq hr d1 d2 d3 d4 d5 d6 k1 k2 k3 k4)
  rw [h1, h2, h3, c1, c2, v]
  decide
theorem Uni.first {p q a b c d : Nat} (hp : p < n) (hq : q < n) (ha : a < n) (hb : b < n) (hc : c < n) (hd : d < n) (x : D4 a b c d) (k : p ≠ q) (ka : p ≠ a) (kb : p ≠ b) (kc : p ≠ c) (kd : p ≠ d) (ja : q ≠ a) (jb : q ≠ b) (jc : q ≠ c) (jd : q ≠ d)
  (h1 : f p q a = 1) (h2 : f p q b = 1) (h3 : f p q c = 1) (h4 : f p q d = 1) :
  (f p a b = 1 ∧ f p a c = 1 ∧ f p a d = 1) ∨ (f p b a = 1 ∧ f p b c = 1 ∧ f p b d = 1) ∨ (f p c a = 1 ∧ f p c b = 1 ∧ f p c d = 1) ∨ (f p d a = 1 ∧ f p d b = 1 ∧ f p d c = 1) := by
 obtain ⟨d1, d2, d3, d4, d5, d6⟩ := x
 have T := fun {x y z : Nat} (hx : x < n) (hy : y < n) (hz : z < n) (e1 : q ≠ x) (e2 : q ≠ y) (e3 : q ≠ z) (e4 : x ≠ y) (e5 : x ≠ z) (e6 : y ≠ z) => o.trans hp hq hx hy hz ⟨e1, e2, e3, e4, e5, e6⟩ k
 have tab := o.s2 p a b hp ha hb
 have tac := o.s2 p a c hp ha hc
 have tad := o.s2 p a d hp ha hd
 have tbc := o.s2 p b c hp hb hc
 have tbd := o.s2 p b d hp hb hd
 have tcd := o.s2 p c d hp hc hd
 have vab := o.pm p a b hp ha hb ka d1 kb
 have vac := o.pm p a c hp ha hc ka d2 kc
 have vad := o.pm p a d hp ha hd ka d3 kd
 have vbc := o.pm p b c hp hb hc kb d4 kc
 have vbd := o.pm p b d hp hb hd kb d5 kd
 have vcd := o.pm p c d hp hc hd kc d6 kd
 have abc := T ha hb hc ja jb jc d1 d2 d4 ka kb kc h1 h2 h3
 have abd := T ha hb hd ja jb jd d1 d3 d5 ka kb kd h1 h2 h4
 have acb := T ha hc hb ja jc jb d2 d1 d4.symm ka kc kb h1 h3 h2
 have acd := T ha hc hd ja jc jd d2 d3 d6 ka kc kd h1 h3 h4
 have bac := T hb ha hc jb ja jc d1.symm d4 d2 kb ka kc h2 h1 h3
 have bad := T hb ha hd jb ja jd d1.symm d5 d3 kb ka kd h2 h1 h4
 have bcd := T hb hc hd jb jc jd d4 d5 d6 kb kc kd h2 h3 h4
 have cad := T hc ha hd jc ja jd d2.symm d6 d3 kc ka kd h3 h1 h4
 have cbd := T hc hb hd jc jb jd d4.symm d6 d5 kc kb kd h3 h2 h4
 have cab := T hc ha hb jc ja jb d2.symm d4.symm d1 kc ka kb h3 h1 h2
 have dca := T hd hc ha jd jc ja d6.symm d3.symm d2.symm kd kc ka h4 h3 h1
 have dcb := T hd hc hb jd jc jb d6.symm d5.symm d4.symm kd kc kb h4 h3 h2
 have dab := T hd ha hb jd ja jb d3.symm d5.symm d1 kd ka kb h4 h1 h2
 have dac := T hd ha hc jd ja jc d3.symm d6.symm d2 kd ka kc h4 h1 h3
 have dba := T hd hb ha jd jb ja d5.symm d3.symm d1.symm kd kb ka h4 h2 h1
 have dbc := T hd hb hc jd jb jc d5.symm d6.symm d4 kd kb kc h4 h2 h3
 clear T
 rcases vab with g1 | g1
 ·rcases vac with g2 | g2
  ·rcases vad with g3 | g3
   ·exact Or.inl ⟨g1, g2, g3⟩
   ·have i1 : f p d a = 1 := by omega
    exact Or.inr (Or.inr (Or.inr ⟨i1, dab i1 g1, dac i1 g2⟩))
  ·have i1 : f p c a = 1 := by omega
   have i2 := cab i1 g1
   rcases vcd with g3 | g3
   ·exact Or.inr (Or.inr (Or.inl ⟨i1, i2, g3⟩))
   ·have i3 : f p d c = 1 := by omega
    exact Or.inr (Or.inr (Or.inr ⟨dca i3 i1, dcb i3 i2, i3⟩))
 ·have i0 : f p b a = 1 := by omega
  rcases vbc with g2 | g2
  ·rcases vbd with g3 | g3
   ·exact Or.inr (Or.inl ⟨i0, g2, g3⟩)
   ·have i1 : f p d b = 1 := by omega
    exact Or.inr (Or.inr (Or.inr ⟨dba i1 i0, i1, dbc i1 g2⟩))
  ·have i1 : f p c b = 1 := by omega
   have cba := o.trans hp hq hc hb ha ⟨jc, jb, ja, d4.symm, d2.symm, d1.symm⟩ k kc kb ka h3 h2 h1 i1 i0
   rcases vcd with g3 | g3
   ·exact Or.inr (Or.inr (Or.inl ⟨cba, i1, g3⟩))
   ·have i3 : f p d c = 1 := by omega
    exact Or.inr (Or.inr (Or.inr ⟨dca i3 cba, dcb i3 i1, i3⟩))
end
def sg (b : Bool) : Int := if b then -1 else 1
section
variable {n : Nat} {f : Nat → Nat → Nat → Int} (o : Uni n f)
include o
end
section
variable {n : Nat} {f : Nat → Nat → Nat → Int} (o : Uni n f) (ac : Acy n f)
include o ac
def Cuts (m : Nat) (S : Nat → Bool) (f : Nat → Nat → Nat → Int) (p q : Nat) : Prop := S p = true ∧ S q = false ∧ ∀ k, k < m → k ≠ p → k ≠ q → f p q k = if S k then 1 else -1
omit o ac in
theorem Cuts.left {m : Nat} {S : Nat → Bool} {p q k : Nat} (h : Cuts m S f p q) (hk : k < m) (h1 : k ≠ p) (e : S k = true) : f p q k = 1 := by
 have := h.2.2 k hk h1 (fun e' => by rw [e', h.2.1] at e; cases e)
 rw [e] at this
 exact this
omit o ac in
theorem Cuts.right {m : Nat} {S : Nat → Bool} {p q k : Nat} (h : Cuts m S f p q) (hk : k < m) (h1 : k ≠ q) (e : S k = false) : f p q k = -1 := by
 have := h.2.2 k hk (fun e' => by rw [e', h.1] at e; cases e) h1
 rw [e] at this
 exact this
end
section
variable {n : Nat} {f : Nat → Nat → Nat → Int} (o : Uni n f)
include o
end
/-! ### Sets as numbers -/
def num : Nat → (Nat → Bool) → Nat
 | 0, _ => 0
 | m + 1, P => num m P + if P m then 2 ^ m else 0
theorem num_lt (m : Nat) (P : Nat → Bool) : num m P < 2 ^ m := by
 induction m with
 | zero => exact Nat.one_pos
 | succ m ih =>
  rw [num, Nat.pow_succ]
  split <;> omega
theorem num_bit (m : Nat) (P : Nat → Bool) (k : Nat) : (num m P).testBit k = (decide (k < m) && P k) := by
 induction m with
 | zero => simp [num]
 | succ m ih =>
  rw [num]
  have hl := num_lt m P
  cases e : P m with
  | true =>
   rw [if_pos rfl, Nat.add_comm]
   by_cases h : k = m
   ·subst h
    rw [Nat.testBit_two_pow_add_eq, Nat.testBit_lt_two_pow hl]
    simp [e]
   ·by_cases h' : k < m
    ·rw [Nat.testBit_two_pow_add_gt h', ih]
     simp [h', Nat.lt_succ_of_lt h']
    ·rw [Nat.testBit_lt_two_pow]
     ·simp; omega
     ·have : 2 ^ (m + 1) ≤ 2 ^ k := Nat.pow_le_pow_right (by omega) (by omega)
      rw [Nat.pow_succ] at this
      omega
  | false =>
   rw [if_neg (by decide), Nat.add_zero, ih]
   by_cases h : k = m
   ·subst h; simp [e]
   ·by_cases h' : k < m
    ·simp [h', Nat.lt_succ_of_lt h']
    ·simp [h']; omega
def bits (m s : Nat) : Nat := ((List.range m).filter s.testBit).length
end Go.Proofs.Ythhgcdfdjlijjaa.U
namespace Go.Proofs.Ythhgcdfdjlijjaa.PX
open Go.RowKit Go.Proofs.Ythhgcdfdjlijjaa.G Go.Proofs.YthhgcdfdjlijjaaW.PrintWords Go.Proofs.YthhgcdfdjlijjaaW.PrintLast Go.Proofs.YthhgcdfdjlijjaaW.PrintMore
attribute [local go_sem] max2_int min2_int max_two min_two max_three min_three max_four min_four   -- for this text's walks alone
set_option linter.unusedVariables false
set_option linter.unusedSimpArgs false
/-! ### spec_CupOf: function 20 -/
def spec_CupOf.f (k : Nat) (a0_0 : Int) (a0_1 : ByteArray) : Option (List Int) := (spec_AreSigns.f k a0_0 a0_1).bind fun t332 => (if t332 = true then ((spec_l8Chain.f k a0_0 a0_1 1 (([] : List Int))).bind fun t336 => (some t336)) else (some (([] : List Int))))
set_option maxHeartbeats 8000000 in
set_option maxRecDepth 100000 in
theorem spec_CupOf.calls (k : Nat) (a0_0 : Int) (a0_1 : ByteArray) (r : List Int) (w : World) (h : spec_CupOf.f k a0_0 a0_1 = some r) :
  Calls Try.prog 20 #[.agg #[.int .i64 a0_0, .string a0_1]] w fun e w' => ∃ v0_ : Value, e = .returned (v0_) ∧ Kd.V (Kd.int .i64) 3 w' w.heap.size (fun k_ => (w.heap.size ≤ k_)) v0_ r ∧ Below w.heap.size w w' := by
 have hu35 := Try.underlying35
 have HB := Aside0.mk (Below.refl w.heap.size w)
 have H : ((spec_AreSigns.f k a0_0 a0_1).bind fun t332 => (if t332 = true then ((spec_l8Chain.f k a0_0 a0_1 1 (([] : List Int))).bind fun t336 => (some t336)) else (some (([] : List Int))))) = some r := h
 clear h
 obtain ⟨t332, A2, H⟩ := zO H
 by_cases c3 : t332 = true
 ·subst c3
  replace H := (if_pos rfl).symm.trans H
  obtain ⟨y333, hy333⟩ : ∃ y_ : List Int, y_ = (([] : List Int)) := ⟨_, rfl⟩
  replace H : ((spec_l8Chain.f k a0_0 a0_1 1 y333).bind fun t336 => (some t336)) = some r := by first | (rw [hy333]; with_reducible exact H) | (have H2_ := (Option.bind_some _ _).symm.trans H; rw [hy333]; with_reducible exact H2_) | (have H2_ := (Option.bind_some _ _).symm.trans H; with_reducible exact H2_) | with_reducible exact H | (rw [hy333]; exact H) | exact H
  have Ny333 := Aside0.mk hy333
  clear hy333
  obtain ⟨t336, A4, H⟩ := zO H
  obtain rfl := Option.some.inj H
  go_enter Try.func20, Try.ntmps20
  go_wp2_with (first | ((with_reducible refine gate_dst (N := 1) rfl ?_); refine zBx (N := 1) #[.int .i64 a0_0, .string a0_1] 35 ?_; intro gb331 hg w5 hbox hb; have BK331 := Aside0.mk (hbox); have GW331 := zS hg; have GE331 := zS hg; replace HB := zX hb; clear hb hbox hg; obtain ⟨hcz6_0, hcz6_1, hfz6_0, hfz6_1⟩ := zq2 BK331.out) | ((with_reducible refine gate_callee (f := 32) rfl ?_); refine zD (some 4) Try.func32 #[.agg #[.int .i64 a0_0, .string a0_1]] ?_; (with_reducible refine (spec_AreSigns.calls k a0_0 a0_1 true _ A2.out).mono ?_); rintro e w7 ⟨rfl, hb⟩; refine ⟨_, rfl, ?_⟩; replace BK331 := zV BK331.out hb; replace HB := zX1 GE331.out hb; (try clear hb); obtain ⟨hcz8_0, hcz8_1, hfz8_0, hfz8_1⟩ := zq2 BK331.out) | ((with_reducible refine gate_dst (N := 8) rfl ?_); refine Kd.R_lit (Kd.int .i64) _ 3 ?hg (N := 8) ?hd (xs := ([] : List Int)) (inner := []) (ok := fun _ => True) (okp := fun _ => True) ?hr ?hp (fun _ hk => hk) trivial (Below.refl _ _) (Nat.le_refl _) (by simp) ?_; (case hd => rfl); (case hg => rfl); (case hr => first | (go_simp; done) | (go_simp; rfl)); (case hp => exact (Reps.none _ _)); intro v334 w9 ho10 hb hg_ hnew_; clear hg_ hnew_; (first | rw [← Ny333.out] at ho10 | (simp only [Int.reduceToNat] at ho10; rw [← Ny333.out] at ho10)); have HO335 := Aside0.mk (Kd.R_lower (Kd.R_newM (M := fun k_ => (w.heap.size ≤ k_)) ho10 (below_size (zG GE331.out)) (fun k_ h_ => h_)) (below_size (zG GE331.out))); replace BK331 := zV BK331.out hb; replace HB := zX1 GE331.out hb; clear hb ho10; obtain ⟨Ao11, co11, eo11⟩ := Kd.R_slice HO335.out; subst eo11) | ((with_reducible refine gate_callee (f := 33) rfl ?_); refine zD (some 9) Try.func33 #[.agg #[.int .i64 a0_0, .string a0_1], .int .i64 1, .slice Ao11 y333.length co11] ?_; (with_reducible refine (spec_l8Chain.calls k a0_0 a0_1 1 (fun k_ => some k_ = (.slice Ao11 y333.length co11 : Value).ownBlock) _ _ y333 t336 _ ?side1 A4.out).mono ?_); (case side1 => exact Kd.R_V (Kd.R_tight rfl (Kd.R_types (HO335.out) BK331.out (by decide)))); rintro e w12 ⟨v337, rfl, ho0, hb⟩; refine ⟨_, rfl, ?_⟩; have HO338 := Aside0.mk (Kd.V_lower (Kd.V_mono (ok' := fun k_ => (w.heap.size ≤ k_) ∧ k_ ≠ gb331) ho0 (fun k_ hk_ => ⟨Or.elim hk_ (fun hs_ => ((Kd.R_types (HO335.out) BK331.out (by decide)).1 k_ hs_.symm).1.1) (fun hn_ => (Nat.le_trans (below_size (zG GE331.out)) hn_)), Or.elim hk_ (fun hs_ => ((Kd.R_types (HO335.out) BK331.out (by decide)).1 k_ hs_.symm).2) (fun hn_ => (Kd.freshB (g := gb331) (o := .cells #[.int .i64 a0_0, .string a0_1] 35 (0, 0)) (zK BK331.out) k_ hn_))⟩)) (below_size (zG GE331.out))); replace HO335 := zW HO335.out hb; replace BK331 := zV BK331.out hb; replace HB := zX1 GE331.out hb; (try clear hb); (try clear ho0)))
  go_ret
  exact ⟨_, zE, by (with_reducible repeat (first | apply Kd.V_alloc | apply Kd.V_drewN | apply Kd.V_drew)); exact Kd.V_mono HO338.out (fun _ hk => hk.1), zG GE331.out⟩
 replace c3 := Bool.eq_false_iff.mpr c3
 subst c3
 replace H := (if_neg zFf).symm.trans H
 obtain ⟨y339, hy339⟩ : ∃ y_ : List Int, y_ = (([] : List Int)) := ⟨_, rfl⟩
 replace H : (some y339) = some r := by first | (rw [hy339]; with_reducible exact H) | (have H2_ := (Option.bind_some _ _).symm.trans H; rw [hy339]; with_reducible exact H2_) | (have H2_ := (Option.bind_some _ _).symm.trans H; with_reducible exact H2_) | with_reducible exact H | (rw [hy339]; exact H) | exact H
 have Ny339 := Aside0.mk hy339
 clear hy339
 obtain rfl := Option.some.inj H
 go_enter Try.func20, Try.ntmps20
 go_wp2_with (first | ((with_reducible refine gate_dst (N := 1) rfl ?_); refine zBx (N := 1) #[.int .i64 a0_0, .string a0_1] 35 ?_; intro gb331 hg w13 hbox hb; have BK331 := Aside0.mk (hbox); have GW331 := zS hg; have GE331 := zS hg; replace HB := zX hb; clear hb hbox hg; obtain ⟨hcz14_0, hcz14_1, hfz14_0, hfz14_1⟩ := zq2 BK331.out) | ((with_reducible refine gate_callee (f := 32) rfl ?_); refine zD (some 4) Try.func32 #[.agg #[.int .i64 a0_0, .string a0_1]] ?_; (with_reducible refine (spec_AreSigns.calls k a0_0 a0_1 false _ A2.out).mono ?_); rintro e w15 ⟨rfl, hb⟩; refine ⟨_, rfl, ?_⟩; replace BK331 := zV BK331.out hb; replace HB := zX1 GE331.out hb; (try clear hb)) | ((with_reducible refine gate_dst (N := 6) rfl ?_); refine Kd.R_lit (Kd.int .i64) _ 3 ?hg (N := 6) ?hd (xs := ([] : List Int)) (inner := []) (ok := fun _ => True) (okp := fun _ => True) ?hr ?hp (fun _ hk => hk) trivial (Below.refl _ _) (Nat.le_refl _) (by simp) ?_; (case hd => rfl); (case hg => rfl); (case hr => first | (go_simp; done) | (go_simp; rfl)); (case hp => exact (Reps.none _ _)); intro v340 w16 ho17 hb hg_ hnew_; clear hg_ hnew_; (first | rw [← Ny339.out] at ho17 | (simp only [Int.reduceToNat] at ho17; rw [← Ny339.out] at ho17)); have HO341 := Aside0.mk (Kd.R_lower (Kd.R_newM (M := fun k_ => (w.heap.size ≤ k_)) ho17 (below_size (zG GE331.out)) (fun k_ h_ => h_)) (below_size (zG GE331.out))); replace BK331 := zV BK331.out hb; replace HB := zX1 GE331.out hb; clear hb ho17))
 go_ret
 exact ⟨_, zE, Kd.R_V (by (with_reducible repeat (first | apply Kd.R_alloc | apply Kd.R_drewN | apply Kd.R_drew)); exact Kd.R_mono HO341.out (fun _ hk => hk.1)), zG GE331.out⟩
/-! ### impl_CupOf: function 21 -/
def impl_CupOf.f (k : Nat) (a0_0 : Int) (a0_1 : ByteArray) : Option (List Int) := (impl_longest.f k a0_0 a0_1 1).bind fun t343 => (some t343)
set_option maxHeartbeats 8000000 in
set_option maxRecDepth 100000 in
theorem impl_CupOf.calls (k : Nat) (a0_0 : Int) (a0_1 : ByteArray) (r : List Int) (w : World) (h : impl_CupOf.f k a0_0 a0_1 = some r) :
  Calls Try.prog 21 #[.agg #[.int .i64 a0_0, .string a0_1]] w fun e w' => ∃ v0_ : Value, e = .returned (v0_) ∧ Kd.R (Kd.int .i64) 3 w' w.heap.size (fun _ => True) v0_ r ∧ Below w.heap.size w w' := by
 have hu35 := Try.underlying35
 have HB := Aside0.mk (Below.refl w.heap.size w)
 have H : ((impl_longest.f k a0_0 a0_1 1).bind fun t343 => (some t343)) = some r := h
 clear h
 obtain ⟨t343, A2, H⟩ := zO H
 obtain rfl := Option.some.inj H
 go_enter Try.func21, Try.ntmps21
 go_wp2_with (first | ((with_reducible refine gate_dst (N := 1) rfl ?_); refine zBx (N := 1) #[.int .i64 a0_0, .string a0_1] 35 ?_; intro gb342 hg w3 hbox hb; have BK342 := Aside0.mk (hbox); have GW342 := zS hg; have GE342 := zS hg; replace HB := zX hb; clear hb hbox hg; obtain ⟨hcz4_0, hcz4_1, hfz4_0, hfz4_1⟩ := zq2 BK342.out) | ((with_reducible refine gate_callee (f := 34) rfl ?_); refine zD (some 4) Try.func34 #[.agg #[.int .i64 a0_0, .string a0_1], .int .i64 1] ?_; (with_reducible refine (impl_longest.calls k a0_0 a0_1 1 t343 _ A2.out).mono ?_); rintro e w5 ⟨v344, rfl, ho0, hb⟩; refine ⟨_, rfl, ?_⟩; have HO345 := Aside0.mk (Kd.R_lower ho0 (below_size (zG GE342.out))); replace BK342 := zV BK342.out hb; replace HB := zX1 GE342.out hb; (try clear hb); (try clear ho0)))
 go_ret
 exact ⟨_, zE, zR HO345.out, zG GE342.out⟩
end Go.Proofs.Ythhgcdfdjlijjaa.PX
namespace Go.Proofs.Ythhgcdfdjlijjaa.M
open Go.RowKit Go.Proofs.YthhgcdfdjlijjaaW.PrintWords Go.Proofs.Ythhgcdfdjlijjaa.PX Go.Proofs.Ythhgcdfdjlijjaa.G
/-! ### the order of chains -/
def lexN : List Nat → List Nat → Bool
 | [], [] => false
 | [], _ :: _ => true
 | _ :: _, [] => false
 | x :: xs, y :: ys => decide (x < y) || (decide (x = y) && lexN xs ys)
theorem lexN_cons {x y : Nat} {xs ys : List Nat} : lexN (x :: xs) (y :: ys) = true ↔ x < y ∨ (x = y ∧ lexN xs ys = true) := by
 simp only [lexN, Bool.or_eq_true, Bool.and_eq_true, decide_eq_true_eq]
theorem lexN_trans : ∀ a b c : List Nat, lexN a b = true → lexN b c = true → lexN a c = true
 | [], [], _, h, _ => by simp [lexN] at h
 | [], _ :: _, [], _, h => by simp [lexN] at h
 | [], _ :: _, _ :: _, _, _ => by simp [lexN]
 | _ :: _, [], _, h, _ => by simp [lexN] at h
 | _ :: _, _ :: _, [], _, h => by simp [lexN] at h
 | x :: xs, y :: ys, z :: zs, h1, h2 => by
  rw [lexN_cons] at h1 h2 ⊢
  rcases h1 with h1 | ⟨rfl, h1⟩
  ·rcases h2 with h2 | ⟨rfl, h2⟩
   ·exact .inl (by omega)
   ·exact .inl h1
  ·rcases h2 with h2 | ⟨rfl, h2⟩
   ·exact .inl h2
   ·exact .inr ⟨rfl, lexN_trans xs ys zs h1 h2⟩
theorem lexN_tri : ∀ a b : List Nat, a = b ∨ lexN a b = true ∨ lexN b a = true
 | [], [] => .inl rfl
 | [], _ :: _ => .inr (.inl rfl)
 | _ :: _, [] => .inr (.inr rfl)
 | x :: xs, y :: ys => by
  simp only [lexN_cons]
  rcases Nat.lt_trichotomy x y with h | rfl | h
  ·exact .inr (.inl (.inl h))
  ·rcases lexN_tri xs ys with rfl | h | h
   ·exact .inl rfl
   ·exact .inr (.inl (.inr ⟨rfl, h⟩))
   ·exact .inr (.inr (.inr ⟨rfl, h⟩))
  ·exact .inr (.inr (.inl h))
theorem lexN_irr : ∀ a : List Nat, lexN a a = false
 | [] => rfl
 | x :: xs => by
  rw [Bool.eq_false_iff, ne_eq, lexN_cons]
  rintro (h | ⟨_, h⟩)
  ·omega
  ·rw [lexN_irr xs] at h; cases h
theorem lexN_app (p : List Nat) (a b : List Nat) : lexN (p ++ a) (p ++ b) = lexN a b := by
 induction p with
 | nil => rfl
 | cons x p ih => rw [List.cons_append, List.cons_append, lexN, ih]; simp
def bet (a b : List Nat) : Prop := b.length < a.length ∨ (a.length = b.length ∧ lexN a b = true)
theorem bet_trans {a b c : List Nat} (h1 : bet a b) (h2 : bet b c) : bet a c := by
 rcases h1 with h1 | ⟨e1, h1⟩ <;> rcases h2 with h2 | ⟨e2, h2⟩
 ·exact .inl (by omega)
 ·exact .inl (by omega)
 ·exact .inl (by omega)
 ·exact .inr ⟨by omega, lexN_trans _ _ _ h1 h2⟩
theorem bet_asym {a b : List Nat} (h1 : bet a b) (h2 : bet b a) : False := by
 rcases bet_trans h1 h2 with h | ⟨_, h⟩
 ·omega
 ·rw [lexN_irr] at h; cases h
/-! ### chains -/
def goodL (f : Nat → Nat → Nat → Int) (sg : Int) (L : List Nat) : Prop := ∀ i j k, i < j → j < k → k < L.length → f (L.getD i 0) (L.getD j 0) (L.getD k 0) = sg
theorem getD_l {L M : List Nat} {i : Nat} (h : i < L.length) : (L ++ M).getD i 0 = L.getD i 0 := by
 rw [List.getD_eq_getElem?_getD, List.getD_eq_getElem?_getD, List.getElem?_append_left h]
theorem getD_last {L : List Nat} {x : Nat} : (L ++ [x]).getD L.length 0 = x := by
 rw [List.getD_eq_getElem?_getD, List.getElem?_append_right (Nat.le_refl _)]
 simp
theorem good_pre {f : Nat → Nat → Nat → Int} {sg : Int} {L M : List Nat} (h : goodL f sg (L ++ M)) : goodL f sg L := by
 intro i j k hij hjk hk
 have := h i j k hij hjk (by rw [List.length_append]; omega)
 rwa [getD_l (by omega), getD_l (by omega), getD_l hk] at this
theorem good_snoc {f : Nat → Nat → Nat → Int} {sg : Int} {L : List Nat} {x : Nat} : goodL f sg (L ++ [x]) ↔ goodL f sg L ∧ ∀ i j, i < j → j < L.length → f (L.getD i 0) (L.getD j 0) x = sg := by
 constructor
 ·intro h
  refine ⟨good_pre h, fun i j hij hj => ?_⟩
  have := h i j L.length hij hj (by rw [List.length_append, List.length_singleton]; omega)
  rwa [getD_l (by omega), getD_l hj, getD_last] at this
 ·rintro ⟨h1, h2⟩ i j k hij hjk hk
  rw [List.length_append, List.length_singleton] at hk
  by_cases e : k = L.length
  ·subst e
   rw [getD_l (by omega), getD_l hjk, getD_last]
   exact h2 i j hij hjk
  ·rw [getD_l (by omega), getD_l (by omega), getD_l (by omega)]
   exact h1 i j k hij hjk (by omega)
def asc (n : Nat) (L : List Nat) : Prop := L.Pairwise (· < ·) ∧ ∀ x ∈ L, x < n
theorem asc_ext : ∀ L L' : List Nat, L.Pairwise (· < ·) → L'.Pairwise (· < ·) → (∀ x, x ∈ L ↔ x ∈ L') → L = L'
 | [], [], _, _, _ => rfl
 | [], y :: ys, _, _, h => absurd ((h y).2 List.mem_cons_self) (by simp)
 | x :: xs, [], _, _, h => absurd ((h x).1 List.mem_cons_self) (by simp)
 | x :: xs, y :: ys, h1, h2, h => by
  rw [List.pairwise_cons] at h1 h2
  have e : x = y := by
   rcases List.mem_cons.1 ((h x).1 List.mem_cons_self) with e | m
   ·exact e
   ·rcases List.mem_cons.1 ((h y).2 List.mem_cons_self) with e | m'
    ·exact e.symm
    ·have a := h2.1 x m
     have b := h1.1 y m'
     omega
  subst e
  rw [asc_ext xs ys h1.2 h2.2 fun z => ?_]
  constructor
  ·intro m
   rcases List.mem_cons.1 ((h z).1 (List.mem_cons_of_mem _ m)) with rfl | m'
   ·exact absurd (h1.1 z m) (Nat.lt_irrefl _)
   ·exact m'
  ·intro m
   rcases List.mem_cons.1 ((h z).2 (List.mem_cons_of_mem _ m)) with rfl | m'
   ·exact absurd (h2.1 z m) (Nat.lt_irrefl _)
   ·exact m'
def chain (n : Nat) (f : Nat → Nat → Nat → Int) (sg : Int) (head L : List Nat) : Prop := (∃ M, L = head ++ M) ∧ asc n L ∧ goodL f sg L
def bestC (n : Nat) (f : Nat → Nat → Nat → Int) (sg : Int) (head R : List Nat) : Prop := chain n f sg head R ∧ ∀ L, chain n f sg head L → L = R ∨ bet R L
theorem best_uni {n : Nat} {f : Nat → Nat → Nat → Int} {sg : Int} {head R R' : List Nat} (h : bestC n f sg head R) (h' : bestC n f sg head R') : R = R' := by
 rcases h.2 R' h'.1 with e | e
 ·exact e.symm
 ·rcases h'.2 R h.1 with e' | e'
  ·exact e'
  ·exact (bet_asym e e').elim
theorem asc_snoc {n x : Nat} {L : List Nat} (h : asc n L) (hx : x < n) (hl : ∀ y ∈ L, y < x) : asc n (L ++ [x]) := by
 refine ⟨List.pairwise_append.2 ⟨h.1, List.pairwise_singleton _ _, fun a ha b hb => by rw [List.mem_singleton] at hb; rw [hb]; exact hl a ha⟩, fun y hy => ?_⟩
 rw [List.mem_append, List.mem_singleton] at hy
 rcases hy with hy | rfl
 ·exact h.2 y hy
 ·exact hx
def cl (L : List Nat) : List Int := L.map fun (x : Nat) => (x : Int)
theorem cl_len (L : List Nat) : (cl L).length = L.length := List.length_map ..
theorem rd_cl {L : List Nat} {i : Nat} : rd (cl L) (i : Int) = (L.getD i 0 : Int) := by
 unfold rd cl
 rw [Int.toNat_natCast, List.getD_eq_getElem?_getD, List.getD_eq_getElem?_getD, List.getElem?_map]
 cases L[i]? <;> rfl
theorem getD_mem {L : List Nat} {i : Nat} (h : i < L.length) : L.getD i 0 ∈ L := by
 rw [List.getD_eq_getElem?_getD, List.getElem?_eq_getElem h]
 exact List.getElem_mem _
theorem asc_get {L : List Nat} (h : L.Pairwise (· < ·)) {i j : Nat} (hij : i < j) (hj : j < L.length) : L.getD i 0 < L.getD j 0 := by
 rw [List.getD_eq_getElem?_getD, List.getElem?_eq_getElem (by omega), List.getD_eq_getElem?_getD, List.getElem?_eq_getElem hj]
 exact List.pairwise_iff_getElem.1 h i j (by omega) hj hij
theorem asc_len {n : Nat} {L : List Nat} (h : asc n L) : L.length ≤ n := by
 have key : ∀ (L : List Nat) (m : Nat), L.Pairwise (· < ·) → (∀ x ∈ L, m ≤ x ∧ x < n) → L.length + m ≤ n ∨ L = [] := by
  intro L
  induction L with
  | nil => intro m _ _; exact .inr rfl
  | cons x xs ih =>
   intro m hp hb
   rw [List.pairwise_cons] at hp
   have hx := hb x List.mem_cons_self
   rcases ih (x + 1) hp.2 fun y hy => ⟨hp.1 y hy, (hb y (List.mem_cons_of_mem _ hy)).2⟩ with g | g
   ·left; rw [List.length_cons]; omega
   ·left; rw [g]; simp; omega
 rcases key L 0 h.1 fun x hx => ⟨Nat.zero_le _, h.2 x hx⟩ with g | g
 ·omega
 ·rw [g]; exact Nat.zero_le _
theorem len_le {B L : List Nat} (g : L = B ∨ bet B L) : L.length ≤ B.length := by
 rcases g with rfl | g | ⟨g, _⟩
 ·exact Nat.le_refl _
 ·omega
 ·omega
theorem cl_snoc (L : List Nat) (x : Nat) : ([] ++ cl L) ++ [(x : Int)] = cl (L ++ [x]) := by simp [cl]
/-! ### the reference -/
section
variable {n : Nat} {t : ByteArray} (h : areOk n t = true) (h0 : 3 ≤ n) (h1 : n ≤ 7) (sg : Int)
include h h0 h1
def rowOk (n : Nat) (t : ByteArray) (sg : Int) (L : List Nat) (x i j : Nat) : Bool := (List.range' j (L.length - j)).all fun j => chi n t (L.getD i 0) (L.getD j 0) x == sg
def allOk (n : Nat) (t : ByteArray) (sg : Int) (L : List Nat) (x i : Nat) : Bool := (List.range' i (L.length - i)).all fun i => rowOk n t sg L x i (i + 1)
theorem allOk_iff {L : List Nat} {x : Nat} : allOk n t sg L x 0 = true ↔ ∀ i j, i < j → j < L.length → chi n t (L.getD i 0) (L.getD j 0) x = sg := by
 have _ := h; have _ := h0; have _ := h1
 unfold allOk rowOk
 simp only [List.all_eq_true, List.mem_range'_1, beq_iff_eq]
 constructor
 ·intro g i j hij hj
  exact g i ⟨Nat.zero_le _, by omega⟩ j ⟨by omega, by omega⟩
 ·intro g i hi j hj
  exact g i j (by omega) (by omega)
theorem chain_l2 {L : List Nat} {x : Nat} (hL : asc n L) (hx : x < n) (hl : ∀ y ∈ L, y < x) (B : List Int) (i : Nat) (V : List Int) (d : Nat) : ∀ (j : Nat) (fine : Bool), i < j → j + d = L.length →
  (Ev (fun k => spec_l8Chain.l1 k sg (cl L) B (x : Int) (fine && rowOk n t sg L x i j) ((i + 1 : Nat) : Int) (n : Int) t) V) → Ev (fun k => spec_l8Chain.l2 k sg (cl L) B (x : Int) fine (i : Int) (j : Int) (n : Int) t) V := by
 have ll := asc_len hL
 induction d with
 | zero =>
  intro j fine hij hj hV
  refine ev_step ?_
  simp only [spec_l8Chain.l2]
  rw [cl_len, wrap_id (x := (i : Int) + 1) (by omega) (by omega)]
  have e : rowOk n t sg L x i j = true := by unfold rowOk; rw [show L.length - j = 0 by omega]; rfl
  rw [e, Bool.and_true] at hV
  exact ev_neg (by omega) hV
 | succ d ih =>
  intro j fine hij hj hV
  have hjl : j < L.length := by omega
  have e : rowOk n t sg L x i j = ((chi n t (L.getD i 0) (L.getD j 0) x == sg) && rowOk n t sg L x i (j + 1)) := by
   unfold rowOk
   rw [show L.length - j = (L.length - (j + 1)) + 1 by omega, List.range'_succ, List.all_cons]
  refine ev_step ?_
  simp only [spec_l8Chain.l2]
  rw [cl_len, wrap_id (x := (j : Int) + 1) (by omega) (by omega)]
  refine ev_pos (by omega) ?_
  cases fine with
  | true =>
   have m1 := getD_mem (L := L) (i := i) (by omega)
   have m2 := getD_mem hjl
   have a1 := asc_get hL.1 hij hjl
   have a2 := hl _ m1
   have a3 := hl _ m2
   rw [rd_cl, rd_cl]
   refine ev_pos rfl (ev_pos (by omega) (ev_pos (by omega) (ev_pos (by omega) (Ev.bind (l3At_ev h (hL.2 _ m1) (hL.2 _ m2) hx (by omega) (by omega) (by omega)) ?_))))
   refine ih (j + 1) _ (by omega) (by omega) ?_
   rw [e, Bool.true_and] at hV
   exact hV
  | false =>
   refine ev_neg (by simp) (ih (j + 1) false (by omega) (by omega) ?_)
   rw [Bool.false_and] at hV ⊢
   exact hV
theorem chain_l1 {L : List Nat} {x : Nat} (hL : asc n L) (hx : x < n) (hl : ∀ y ∈ L, y < x) (B : List Int) (V : List Int) (d : Nat) : ∀ (i : Nat) (fine : Bool), i + d = L.length →
  (Ev (fun k => spec_l8Chain.l1 k sg (cl L) B (x : Int) (fine && allOk n t sg L x i) (L.length : Int) (n : Int) t) V) → Ev (fun k => spec_l8Chain.l1 k sg (cl L) B (x : Int) fine (i : Int) (n : Int) t) V := by
 have ll := asc_len hL
 induction d with
 | zero =>
  intro i fine hi hV
  have e : allOk n t sg L x i = true := by unfold allOk; rw [show L.length - i = 0 by omega]; rfl
  rw [e, Bool.and_true] at hV
  rw [show (i : Int) = (L.length : Int) by omega]
  exact hV
 | succ d ih =>
  intro i fine hi hV
  have e : allOk n t sg L x i = (rowOk n t sg L x i (i + 1) && allOk n t sg L x (i + 1)) := by
   unfold allOk
   rw [show L.length - i = (L.length - (i + 1)) + 1 by omega, List.range'_succ, List.all_cons]
  refine ev_step ?_
  simp only [spec_l8Chain.l1]
  rw [cl_len, wrap_id (x := (i : Int) + 1) (by omega) (by omega)]
  refine ev_pos (by omega) (chain_l2 h h0 h1 sg hL hx hl B i V (L.length - (i + 1)) (i + 1) fine (by omega) (by omega) (ih (i + 1) _ (by omega) ?_))
  rw [e, ← Bool.and_assoc] at hV
  exact hV
def chainInv (n : Nat) (t : ByteArray) (sg : Int) (head B : List Nat) (x : Nat) : Prop :=
 chain n (chi n t) sg head B ∧ (B = head ∨ ∃ y M, B = head ++ y :: M ∧ y < x) ∧ ∀ L, chain n (chi n t) sg head L → (L = head ∨ ∃ y M, L = head ++ y :: M ∧ y < x) → L = B ∨ bet B L
theorem chain_loop {head : List Nat} {fr : Nat} (hA : asc n head) (hG : goodL (chi n t) sg head) (hl : ∀ y ∈ head, y < fr)
  (hrec : ∀ x, fr ≤ x → x < n → asc n (head ++ [x]) → goodL (chi n t) sg (head ++ [x]) → ∃ R, Ev (fun k => spec_l8Chain.f k (n : Int) t sg (cl (head ++ [x]))) (cl R) ∧ bestC n (chi n t) sg (head ++ [x]) R) (e : Nat) :
  ∀ (x : Nat) (B : List Nat), fr ≤ x → x + e = n → chainInv n t sg head B x → ∃ R, Ev (fun k => spec_l8Chain.l0 k sg (cl head) (cl B) (x : Int) (n : Int) t) (cl R) ∧ bestC n (chi n t) sg head R := by
 have ll := asc_len hA
 induction e with
 | zero =>
  intro x B hx he ⟨hB, _, hall⟩
  refine ⟨B, ?_, hB, fun L hL => hall L hL ?_⟩
  ·refine ev_step ?_
   simp only [spec_l8Chain.l0]
   exact ev_neg (by omega) (Ev.now _)
  ·obtain ⟨⟨M, rfl⟩, hLa, _⟩ := hL
   cases M with
   | nil => exact .inl (List.append_nil _)
   | cons y M => exact .inr ⟨y, M, rfl, by have := hLa.2 y (by simp); omega⟩
 | succ e ih =>
  intro x B hx he hI
  have hxn : x < n := by omega
  have hl' : ∀ y ∈ head, y < x := fun y hy => by have := hl y hy; omega
  have hI' := hI
  obtain ⟨hB, hBs, hall⟩ := hI'
  have lb := asc_len hB.2.1
  have enter : ∀ R, Ev (fun k => spec_l8Chain.l1 k sg (cl head) (cl B) (x : Int) (true && allOk n t sg head x 0) (head.length : Int) (n : Int) t) (cl R) → Ev (fun k => spec_l8Chain.l0 k sg (cl head) (cl B) (x : Int) (n : Int) t) (cl R) := by
   intro R hR
   refine ev_step ?_
   simp only [spec_l8Chain.l0]
   exact ev_pos (by omega) (chain_l1 h h0 h1 sg hA hxn hl' (cl B) (cl R) head.length 0 true (by omega) hR)
  cases ok : allOk n t sg head x 0 with
  | false =>
   have inv : chainInv n t sg head B (x + 1) := by
    refine ⟨hB, ?_, fun L hL hs => hall L hL ?_⟩
    ·rcases hBs with g | ⟨y, M, g, gy⟩
     ·exact .inl g
     ·exact .inr ⟨y, M, g, by omega⟩
    ·rcases hs with g | ⟨y, M, g, gy⟩
     ·exact .inl g
     ·by_cases gx : y = x
      ·subst gx
       exfalso
       have hg := hL.2.2
       rw [g, show head ++ y :: M = (head ++ [y]) ++ M by simp] at hg
       have := (allOk_iff h h0 h1 sg).2 (good_snoc.1 (good_pre hg)).2
       rw [ok] at this
       cases this
      ·exact .inr ⟨y, M, g, by omega⟩
   obtain ⟨R, hR, hb⟩ := ih (x + 1) B (by omega) (by omega) inv
   refine ⟨R, enter R ?_, hb⟩
   rw [ok]
   refine ev_step ?_
   simp only [spec_l8Chain.l1]
   rw [cl_len, wrap_id (x := (x : Int) + 1) (by omega) (by omega)]
   exact ev_neg (by omega) (ev_neg (by simp) hR)
  | true =>
   have hA' := asc_snoc hA hxn hl'
   have hG' : goodL (chi n t) sg (head ++ [x]) := good_snoc.2 ⟨hG, (allOk_iff h h0 h1 sg).1 ok⟩
   obtain ⟨R1, e1, ⟨⟨M1, r1⟩, ra, rg⟩, rb⟩ := hrec x hx hxn hA' hG'
   have r1' : R1 = head ++ x :: M1 := by rw [r1]; simp
   have lr := asc_len ra
   have down : ∀ L, chain n (chi n t) sg head L → ∀ M, L = head ++ x :: M → L = R1 ∨ bet R1 L := fun L hL M g => rb L ⟨⟨M, by rw [g]; simp⟩, hL.2⟩
   have body : ∀ R, Ev (fun k => if ((cl R1).length : Int) > ((cl B).length : Int) then spec_l8Chain.l0 k sg (cl head) (cl R1) ((x + 1 : Nat) : Int) (n : Int) t else spec_l8Chain.l0 k sg (cl head) (cl B) ((x + 1 : Nat) : Int) (n : Int) t) (cl R) → Ev (fun k => spec_l8Chain.l0 k sg (cl head) (cl B) (x : Int) (n : Int) t) (cl R) := by
    intro R hR
    refine enter R ?_
    rw [ok]
    refine ev_step ?_
    simp only [spec_l8Chain.l1]
    rw [cl_len head, wrap_id (x := (x : Int) + 1) (by omega) (by omega)]
    refine ev_neg (by omega) (ev_pos rfl (ev_call rfl (ev_pos (by rw [List.length_nil]; omega) (ev_call rfl (ev_call rfl (ev_pos (by simp only [List.length_append, List.length_nil, List.length_singleton, cl_len]; omega) ?_))))))
    rw [cl_snoc]
    exact Ev.bind e1 hR
   by_cases g : B.length < R1.length
   ·have inv : chainInv n t sg head R1 (x + 1) := by
     refine ⟨⟨⟨x :: M1, r1'⟩, ra, rg⟩, .inr ⟨x, M1, r1', by omega⟩, fun L hL hs => ?_⟩
     have old : (L = head ∨ ∃ y M, L = head ++ y :: M ∧ y < x) → L = R1 ∨ bet R1 L := fun hs => .inr (.inl (by have := len_le (hall L hL hs); omega))
     rcases hs with g' | ⟨y, M, g', gy⟩
     ·exact old (.inl g')
     ·by_cases gx : y = x
      ·subst gx; exact down L hL M g'
      ·exact old (.inr ⟨y, M, g', by omega⟩)
    obtain ⟨R, hR, hb⟩ := ih (x + 1) R1 (by omega) (by omega) inv
    exact ⟨R, body R (ev_pos (by rw [cl_len, cl_len]; omega) hR), hb⟩
   ·have inv : chainInv n t sg head B (x + 1) := by
     refine ⟨hB, ?_, fun L hL hs => ?_⟩
     ·rcases hBs with g | ⟨y, M, g, gy⟩
      ·exact .inl g
      ·exact .inr ⟨y, M, g, by omega⟩
     ·rcases hs with g' | ⟨y, M, g', gy⟩
      ·exact hall L hL (.inl g')
      ·by_cases gx : y = x
       ·subst gx
        have lL := len_le (down L hL M g')
        by_cases ge : L.length < B.length
        ·exact .inr (.inl ge)
        ·right
         right
         refine ⟨by omega, ?_⟩
         rcases hBs with gb | ⟨z, M', gb, gz⟩
         ·have : R1.length = head.length + (M1.length + 1) := by rw [r1', List.length_append, List.length_cons]
          rw [gb] at g ge
          omega
         ·rw [gb, g', lexN_app, lexN_cons]
          exact .inl gz
       ·exact hall L hL (.inr ⟨y, M, g', by omega⟩)
    obtain ⟨R, hR, hb⟩ := ih (x + 1) B (by omega) (by omega) inv
    exact ⟨R, body R (ev_neg (by rw [cl_len, cl_len]; omega) hR), hb⟩
theorem chain_enter (head : List Nat) (fr : Nat) (hA : asc n head) (hG : goodL (chi n t) sg head) (hf : (head = [] ∧ fr = 0) ∨ ∃ pre last, head = pre ++ [last] ∧ fr = last + 1)
  (hrec : ∀ x, fr ≤ x → x < n → asc n (head ++ [x]) → goodL (chi n t) sg (head ++ [x]) → ∃ R, Ev (fun k => spec_l8Chain.f k (n : Int) t sg (cl (head ++ [x]))) (cl R) ∧ bestC n (chi n t) sg (head ++ [x]) R) :
  ∃ R, Ev (fun k => spec_l8Chain.f k (n : Int) t sg (cl head)) (cl R) ∧ bestC n (chi n t) sg head R := by
 have ll := asc_len hA
 have hl : (∀ y ∈ head, y < fr) ∧ fr ≤ n := by
  rcases hf with ⟨rfl, rfl⟩ | ⟨pre, last, rfl, rfl⟩
  ·exact ⟨fun y hy => (by cases hy), Nat.zero_le _⟩
  ·refine ⟨fun y hy => ?_, hA.2 last (by simp)⟩
   rw [List.mem_append, List.mem_singleton] at hy
   rcases hy with hy | rfl
   ·have := (List.pairwise_append.1 hA.1).2.2 y hy last (by simp)
    omega
   ·omega
 have inv : chainInv n t sg head head fr := by
  refine ⟨⟨⟨[], (List.append_nil _).symm⟩, hA, hG⟩, .inl rfl, fun L hL hs => ?_⟩
  rcases hs with g | ⟨y, M, g, gy⟩
  ·exact .inl g
  ·exfalso
   rcases hf with ⟨_, rfl⟩ | ⟨pre, last, hp, rfl⟩
   ·omega
   ·have hp2 := hL.2.1.1
    rw [g, hp] at hp2
    have := (List.pairwise_append.1 hp2).2.2 last (by simp) y (by simp)
    omega
 obtain ⟨R, hR, hb⟩ := chain_loop h h0 h1 sg hA hG hl.1 hrec (n - fr) fr head (Nat.le_refl _) (by omega) inv
 have j0 : Ev (fun k => spec_l8Chain.j0 k sg (cl head) (cl head) (fr : Int) (n : Int) t) (cl R) := by
  refine ev_step ?_
  simp only [spec_l8Chain.j0]
  exact hR
 refine ⟨R, ?_, hb⟩
 refine ev_step ?_
 simp only [spec_l8Chain.f]
 rw [cl_len]
 rcases hf with ⟨hh, hf0⟩ | ⟨pre, last, hp, hfl⟩
 ·rw [hf0] at j0
  exact ev_neg (by rw [hh]; simp) j0
 ·have hlen : head.length = pre.length + 1 := by rw [hp, List.length_append, List.length_singleton]
  rw [wrap_id (x := (head.length : Int) - 1) (by omega) (by omega), show (head.length : Int) - 1 = (pre.length : Int) by omega, rd_cl]
  have hg : head.getD pre.length 0 = last := by rw [hp]; exact getD_last
  have hln := hA.2 last (by rw [hp]; simp)
  rw [hg, wrap_id (x := (last : Int) + 1) (by omega) (by omega), show (last : Int) + 1 = (fr : Int) by omega]
  exact ev_pos (by omega) (ev_pos (by omega) (ev_pos (by omega) j0))
theorem chain_main (d : Nat) : ∀ (head : List Nat) (fr : Nat), asc n head → goodL (chi n t) sg head → ((head = [] ∧ fr = 0) ∨ ∃ pre last, head = pre ++ [last] ∧ fr = last + 1) → n ≤ fr + d →
  ∃ R, Ev (fun k => spec_l8Chain.f k (n : Int) t sg (cl head)) (cl R) ∧ bestC n (chi n t) sg head R := by
 induction d with
 | zero => exact fun head fr hA hG hf hd => chain_enter h h0 h1 sg head fr hA hG hf fun x h2 h3 => by omega
 | succ d ih => exact fun head fr hA hG hf hd => chain_enter h h0 h1 sg head fr hA hG hf fun x h2 h3 h4 h5 => ih (head ++ [x]) (x + 1) h4 h5 (.inr ⟨head, x, rfl, rfl⟩) (by omega)
end
/-! ### the program -/
def elS (s : Nat) : List Nat := (List.range 7).filter fun i => s.testBit i
def elsChk : Bool := (List.range 128).all fun s => decide (impl_elementsOf.f 70 (s : Int) = some (cl (elS s)))
theorem elsChk_ok : elsChk = true := by decide +kernel
theorem els_ev {s : Nat} (hs : s < 128) : Ev (fun k => impl_elementsOf.f k (s : Int)) (cl (elS s)) := Ev.of (impl_elementsOf.mono _) (of_decide_eq_true (List.all_eq_true.1 elsChk_ok s (List.mem_range.2 hs)))
theorem full_cap : ∀ n : Nat, n ≤ 7 → impl_fullSet.f (n : Int) = some ((2 ^ n - 1 : Nat) : Int) := by decide +kernel
theorem elS_pw (s : Nat) : (elS s).Pairwise (· < ·) := List.Pairwise.filter _ List.pairwise_lt_range
theorem elS_mem {s x : Nat} : x ∈ elS s ↔ x < 7 ∧ s.testBit x = true := by
 unfold elS
 rw [List.mem_filter, List.mem_range]
theorem bit_lt {n s x : Nat} (hs : s < 2 ^ n) (hx : s.testBit x = true) : x < n := by
 refine Classical.byContradiction fun g => ?_
 rw [Nat.testBit_lt_two_pow (Nat.lt_of_lt_of_le hs (Nat.pow_le_pow_right (by omega) (by omega)))] at hx
 cases hx
theorem elS_asc {n s : Nat} (hs : s < 2 ^ n) : asc n (elS s) := ⟨elS_pw s, fun x hx => bit_lt hs (elS_mem.1 hx).2⟩
theorem elS_of {n : Nat} (h1 : n ≤ 7) {L : List Nat} (h : asc n L) : ∃ s, s < 2 ^ n ∧ elS s = L := by
 refine ⟨U.num n (fun k => decide (k ∈ L)), U.num_lt _ _, asc_ext _ _ (elS_pw _) h.1 fun x => ?_⟩
 rw [elS_mem, U.num_bit, Bool.and_eq_true, decide_eq_true_eq, decide_eq_true_eq]
 constructor
 ·exact fun g => g.2.2
 ·exact fun g => ⟨by have := h.2 x g; omega, h.2 x g, g⟩
theorem trip_T : ∀ m : Nat, m ≤ 7 → Ev (fun k => impl_triplesOf.f k (m : Int)) ((tripsL m).map fun q => (⟨(q.1 : Int), (q.2.1 : Int), (q.2.2 : Int)⟩ : S59)) := by
 intro m hm
 by_cases g : 3 ≤ m
 ·rw [← tripN_L g hm]
  exact triples_ev g hm
 ·have e : m = 0 ∨ m = 1 ∨ m = 2 := by omega
  rcases e with rfl | rfl | rfl
  ·exact Ev.of (impl_triplesOf.mono _) (show impl_triplesOf.f 200 0 = _ by kernel_rfl)
  ·exact Ev.of (impl_triplesOf.mono _) (show impl_triplesOf.f 200 1 = _ by kernel_rfl)
  ·exact Ev.of (impl_triplesOf.mono _) (show impl_triplesOf.f 200 2 = _ by kernel_rfl)
theorem cmp_int (x y : Nat) : cmp_Compare_int.f (x : Int) (y : Int) = some (if x < y then -1 else if y < x then 1 else 0) := by
 unfold cmp_Compare_int.f cmp_isNaN_int.f
 simp only [bne_self_eq_false, Option.bind_some, Bool.false_eq_true, if_false]
 by_cases g : x < y
 ·rw [if_pos (by omega), if_pos g]
 ·rw [if_neg (by omega), if_neg g]
  by_cases g' : y < x
  ·rw [if_pos (by omega), if_pos g']
  ·rw [if_neg (by omega), if_neg g']
theorem cmp_lists (A B : List Nat) (hA : A.length ≤ 100) (d : Nat) : ∀ (A' B' P : List Nat), A'.length = d → B'.length = d → A = P ++ A' → B = P ++ B' →
  ∃ v : Int, Ev (fun k => slices_Compare_int_int.l0 k (cl A) (cl B) (cl A) ((cl A).length : Int) (P.length : Int)) v ∧ (v < 0 ↔ lexN A' B' = true) := by
 induction d with
 | zero =>
  intro A' B' P ha hb eA eB
  have ea : A' = [] := List.length_eq_zero_iff.1 ha
  have eb : B' = [] := List.length_eq_zero_iff.1 hb
  subst ea eb
  rw [List.append_nil] at eA eB
  refine ⟨0, ?_, by simp [lexN]⟩
  refine ev_step ?_
  simp only [slices_Compare_int_int.l0]
  rw [eA, eB]
  exact ev_neg (by rw [cl_len]; omega) (ev_neg (by omega) (Ev.now _))
 | succ d ih =>
  intro A' B' P ha hb eA eB
  cases A' with
  | nil => cases ha
  | cons x xs =>
   cases B' with
   | nil => cases hb
   | cons y ys =>
    have lA : A.length = P.length + (xs.length + 1) := by rw [eA, List.length_append, List.length_cons]
    have lB : B.length = P.length + (ys.length + 1) := by rw [eB, List.length_append, List.length_cons]
    have rx : rd (cl A) (P.length : Int) = (x : Int) := by
     rw [rd_cl, eA, List.getD_eq_getElem?_getD, List.getElem?_append_right (Nat.le_refl _)]; simp
    have ry : rd (cl B) (P.length : Int) = (y : Int) := by
     rw [rd_cl, eB, List.getD_eq_getElem?_getD, List.getElem?_append_right (Nat.le_refl _)]; simp
    have step : ∀ v : Int, Ev (fun k => (some (if x < y then (-1 : Int) else if y < x then 1 else 0)).bind fun t280 => (if t280 = 0 then (slices_Compare_int_int.l0 k (cl A) (cl B) (cl A) ((cl A).length : Int) (wrap64 ((P.length : Int) + 1))) else (some t280))) v → Ev (fun k => slices_Compare_int_int.l0 k (cl A) (cl B) (cl A) ((cl A).length : Int) (P.length : Int)) v := by
     intro v hv
     refine ev_step ?_
     simp only [slices_Compare_int_int.l0]
     rw [rx, ry, cmp_int]
     exact ev_pos (by rw [cl_len]; omega) (ev_pos (by omega) (ev_pos (by rw [cl_len]; omega) (ev_neg (by rw [cl_len]; omega) (ev_pos (by rw [cl_len]; omega) hv))))
    by_cases g : x < y
    ·refine ⟨-1, step _ ?_, by simp [lexN, g]⟩
     rw [if_pos g]
     exact ev_call rfl (ev_neg (by decide) (Ev.now _))
    ·by_cases g' : y < x
     ·refine ⟨1, step _ ?_, ?_⟩
      ·rw [if_neg g, if_pos g']
       exact ev_call rfl (ev_neg (by decide) (Ev.now _))
      ·simp [lexN, g, show ¬ x = y by omega]
     ·have e : x = y := by omega
      subst e
      obtain ⟨v, hv, hl⟩ := ih xs ys (P ++ [x]) (by simpa using ha) (by simpa using hb) (by rw [eA]; simp) (by rw [eB]; simp)
      refine ⟨v, step _ ?_, ?_⟩
      ·rw [if_neg g, if_neg g, wrap_id (by omega) (by omega)]
       rw [List.length_append, List.length_singleton] at hv
       exact ev_call rfl (ev_pos rfl hv)
      ·rw [hl, lexN_cons]
       simp
section
variable {n : Nat} {t : ByteArray} (h : areOk n t = true) (h0 : 3 ≤ n) (h1 : n ≤ 7) (sg : Int)
include h h0 h1
def ok3 (n : Nat) (t : ByteArray) (sg : Int) (E : List Nat) (q : Nat × Nat × Nat) : Bool := chi n t (E.getD q.1 0) (E.getD q.2.1 0) (E.getD q.2.2 0) == sg
theorem ok3_iff {E : List Nat} : (tripsL E.length).all (ok3 n t sg E) = true ↔ goodL (chi n t) sg E := by
 have _ := h; have _ := h0; have _ := h1
 rw [List.all_eq_true]
 constructor
 ·intro g i j k hij hjk hk
  exact beq_iff_eq.1 (g (i, j, k) (trips_mem hij hjk hk))
 ·rintro g ⟨i, j, k⟩ hq
  obtain ⟨a, b, c⟩ := mem_trips hq
  exact beq_iff_eq.2 (g i j k a b c)
theorem long_l1 {E : List Nat} (hE : asc n E) (B : List Int) (s : Int) (V : List Int) (d : Nat) : ∀ (p : Nat) (fine : Bool), p + d = (tripsL E.length).length →
  Ev (fun k => impl_longest.l1 k sg (tblL n t) B s (cl E) (fine && ((tripsL E.length).drop p).all (ok3 n t sg E)) ((tripsL E.length).map fun q => (⟨(q.1 : Int), (q.2.1 : Int), (q.2.2 : Int)⟩ : S59)) ((tripsL E.length).length : Int) ((tripsL E.length).length : Int) (n : Int) t) V →
  Ev (fun k => impl_longest.l1 k sg (tblL n t) B s (cl E) fine ((tripsL E.length).map fun q => (⟨(q.1 : Int), (q.2.1 : Int), (q.2.2 : Int)⟩ : S59)) ((tripsL E.length).length : Int) (p : Int) (n : Int) t) V := by
 have _ := h; have _ := h0
 have ll := asc_len hE
 have ts := trips_small E.length (by omega)
 induction d with
 | zero =>
  intro p fine hp hV
  rw [List.drop_of_length_le (by omega), List.all_nil, Bool.and_true] at hV
  rw [show (p : Int) = ((tripsL E.length).length : Int) by omega]
  exact hV
 | succ d ih =>
  intro p fine hp hV
  have hpl : p < (tripsL E.length).length := by omega
  rw [List.drop_eq_getElem_cons hpl, List.all_cons] at hV
  have hq := mem_trips (show ((tripsL E.length)[p].1, (tripsL E.length)[p].2.1, (tripsL E.length)[p].2.2) ∈ tripsL E.length from List.getElem_mem hpl)
  have hr : rd_T59 ((tripsL E.length).map fun q => (⟨(q.1 : Int), (q.2.1 : Int), (q.2.2 : Int)⟩ : S59)) (p : Int) = ⟨((tripsL E.length)[p].1 : Int), ((tripsL E.length)[p].2.1 : Int), ((tripsL E.length)[p].2.2 : Int)⟩ := by
   rw [rd_trip (by rw [List.length_map]; exact hpl), List.getElem_map]
  generalize (tripsL E.length)[p] = q at hV hq hr
  obtain ⟨a, b, c⟩ := q
  simp only at hq hr
  obtain ⟨q1, q2, q3⟩ := hq
  have m1 := hE.2 _ (getD_mem (L := E) (i := a) (by omega))
  have m2 := hE.2 _ (getD_mem (L := E) (i := b) (by omega))
  have m3 := hE.2 _ (getD_mem (L := E) (i := c) (by omega))
  refine ev_step ?_
  simp only [impl_longest.l1]
  rw [hr, wrap_id (x := (p : Int) + 1) (by omega) (by omega)]
  simp only [rd_cl]
  refine ev_pos (by omega) (ev_pos (by omega) (ev_pos (by rw [List.length_map]; omega) ?_))
  cases fine with
  | true =>
   rw [tbl_rd n t _ _ _ (by omega) (by omega) (by omega)]
   refine ev_pos rfl (ev_pos (by omega) (ev_pos (by rw [cl_len]; omega) (ev_pos (by omega) (ev_pos (by rw [cl_len]; omega) (ev_pos (by omega) (ev_pos (by rw [cl_len]; omega) (ev_pos (tblL_length _ _) (ev_pos (by omega) (ev_pos (by omega) (ev_pos (by omega) (ev_pos (by omega) (ev_pos (by omega) (ev_pos (by omega) ?_)))))))))))))
   refine ih (p + 1) _ (by omega) ?_
   rw [Bool.true_and] at hV
   exact hV
  | false =>
   refine ev_neg (by simp) (ih (p + 1) false (by omega) ?_)
   rw [Bool.false_and] at hV ⊢
   exact hV
def longInv (n : Nat) (t : ByteArray) (sg : Int) (B : List Nat) (s : Nat) : Prop :=
 (asc n B ∧ goodL (chi n t) sg B) ∧ ([] = B ∨ bet B []) ∧ ∀ s', 1 ≤ s' → s' < s → goodL (chi n t) sg (elS s') → elS s' = B ∨ bet B (elS s')
theorem long_loop (d : Nat) : ∀ (s : Nat) (B : List Nat), 1 ≤ s → s + d = 2 ^ n → longInv n t sg B s → ∃ R, Ev (fun k => impl_longest.l0 k sg (tblL n t) (cl B) (s : Int) (n : Int) t) (cl R) ∧ bestC n (chi n t) sg [] R := by
 have p7 : 2 ^ n ≤ 128 := Nat.pow_le_pow_right (n := 2) (by omega) h1
 induction d with
 | zero =>
  intro s B hs he ⟨hB, hnil, hall⟩
  refine ⟨B, ?_, ⟨⟨B, rfl⟩, hB⟩, fun L hL => ?_⟩
  ·refine ev_step ?_
   simp only [impl_longest.l0]
   exact ev_call (full_cap n h1) (ev_neg (by omega) (Ev.now _))
  ·obtain ⟨_, hLa, hLg⟩ := hL
   obtain ⟨s', hs', rfl⟩ := elS_of h1 hLa
   by_cases g : s' = 0
   ·subst g
    have e : elS 0 = [] := by decide
    rw [e]
    exact hnil
   ·exact hall s' (by omega) (by omega) hLg
 | succ d ih =>
  intro s B hs he hI
  obtain ⟨hB, hnil, hall⟩ := hI
  have hsn : s < 2 ^ n := by omega
  have hE := elS_asc hsn
  have ll := asc_len hE
  have lb := asc_len hB.1
  have ts := trips_small (elS s).length (by omega)
  have enter : ∀ R, Ev (fun k => impl_longest.l1 k sg (tblL n t) (cl B) (s : Int) (cl (elS s)) (true && ((tripsL (elS s).length).drop 0).all (ok3 n t sg (elS s))) ((tripsL (elS s).length).map fun q => (⟨(q.1 : Int), (q.2.1 : Int), (q.2.2 : Int)⟩ : S59)) ((tripsL (elS s).length).length : Int) ((tripsL (elS s).length).length : Int) (n : Int) t) (cl R) →
    Ev (fun k => impl_longest.l0 k sg (tblL n t) (cl B) (s : Int) (n : Int) t) (cl R) := by
   intro R hR
   have hT := trip_T (elS s).length (by omega)
   rw [← cl_len] at hT
   refine ev_step ?_
   simp only [impl_longest.l0]
   refine ev_call (full_cap n h1) (ev_pos (by omega) (Ev.bind (els_ev (by omega)) (Ev.bind hT ?_)))
   rw [List.length_map, cl_len]
   exact long_l1 h h0 h1 sg hE (cl B) (s : Int) (cl R) (tripsL (elS s).length).length 0 true (by omega) hR
  rw [List.drop_zero, Bool.true_and] at enter
  have exit1 : ∀ (b : Bool) R, Ev (fun k => (if b = true then (if ((cl (elS s)).length : Int) > ((cl B).length : Int) then (impl_longest.l0 k sg (tblL n t) (cl (elS s)) ((s + 1 : Nat) : Int) (n : Int) t) else (if ((cl (elS s)).length : Int) = ((cl B).length : Int) then ((slices_Compare_int_int.f k (cl (elS s)) (cl B)).bind fun t299 => (if t299 < 0 then (impl_longest.l0 k sg (tblL n t) (cl (elS s)) ((s + 1 : Nat) : Int) (n : Int) t) else (impl_longest.l0 k sg (tblL n t) (cl B) ((s + 1 : Nat) : Int) (n : Int) t))) else (impl_longest.l0 k sg (tblL n t) (cl B) ((s + 1 : Nat) : Int) (n : Int) t))) else (impl_longest.l0 k sg (tblL n t) (cl B) ((s + 1 : Nat) : Int) (n : Int) t))) (cl R) →
    Ev (fun k => impl_longest.l1 k sg (tblL n t) (cl B) (s : Int) (cl (elS s)) b ((tripsL (elS s).length).map fun q => (⟨(q.1 : Int), (q.2.1 : Int), (q.2.2 : Int)⟩ : S59)) ((tripsL (elS s).length).length : Int) ((tripsL (elS s).length).length : Int) (n : Int) t) (cl R) := by
   intro b R hR
   refine ev_step ?_
   simp only [impl_longest.l1]
   rw [wrap_id (x := (s : Int) + 1) (by omega) (by omega)]
   exact ev_neg (by omega) hR
  have keep : (goodL (chi n t) sg (elS s) → elS s = B ∨ bet B (elS s)) → longInv n t sg B (s + 1) := fun hk => ⟨hB, hnil, fun s' a b g => by
   by_cases e : s' = s
   ·subst e; exact hk g
   ·exact hall s' a (by omega) g⟩
  have take : bet (elS s) B → goodL (chi n t) sg (elS s) → longInv n t sg (elS s) (s + 1) := fun hk hg => ⟨⟨hE, hg⟩, by
   rcases hnil with e | e
   ·rw [e]; exact .inr hk
   ·exact .inr (bet_trans hk e), fun s' a b g => by
   by_cases e : s' = s
   ·subst e; exact .inl rfl
   ·rcases hall s' a (by omega) g with e | e
    ·rw [e]; exact .inr hk
    ·exact .inr (bet_trans hk e)⟩
  cases ok : (tripsL (elS s).length).all (ok3 n t sg (elS s)) with
  | false =>
   obtain ⟨R, hR, hb⟩ := ih (s + 1) B (by omega) (by omega) (keep fun g => by rw [(ok3_iff h h0 h1 sg).2 g] at ok; cases ok)
   refine ⟨R, enter R ?_, hb⟩
   rw [ok]
   exact exit1 false R (ev_neg (by simp) hR)
  | true =>
   have hg := (ok3_iff h h0 h1 sg).1 ok
   by_cases g1 : B.length < (elS s).length
   ·obtain ⟨R, hR, hb⟩ := ih (s + 1) (elS s) (by omega) (by omega) (take (.inl g1) hg)
    refine ⟨R, enter R ?_, hb⟩
    rw [ok]
    exact exit1 true R (ev_pos rfl (ev_pos (by rw [cl_len, cl_len]; omega) hR))
   ·by_cases g2 : (elS s).length = B.length
    ·obtain ⟨v, hv, hlx⟩ := cmp_lists (elS s) B (by omega) (elS s).length (elS s) B [] rfl g2.symm rfl rfl
     have hc : Ev (fun k => slices_Compare_int_int.f k (cl (elS s)) (cl B)) v := by unfold slices_Compare_int_int.f; exact hv
     by_cases g3 : lexN (elS s) B = true
     ·obtain ⟨R, hR, hb⟩ := ih (s + 1) (elS s) (by omega) (by omega) (take (.inr ⟨g2, g3⟩) hg)
      refine ⟨R, enter R ?_, hb⟩
      rw [ok]
      exact exit1 true R (ev_pos rfl (ev_neg (by rw [cl_len, cl_len]; omega) (ev_pos (by rw [cl_len, cl_len]; omega) (Ev.bind hc (ev_pos (hlx.2 g3) hR)))))
     ·obtain ⟨R, hR, hb⟩ := ih (s + 1) B (by omega) (by omega) (keep fun _ => by
       rcases lexN_tri (elS s) B with e | e | e
       ·exact .inl e
       ·exact absurd e g3
       ·exact .inr (.inr ⟨g2.symm, e⟩))
      refine ⟨R, enter R ?_, hb⟩
      rw [ok]
      exact exit1 true R (ev_pos rfl (ev_neg (by rw [cl_len, cl_len]; omega) (ev_pos (by rw [cl_len, cl_len]; omega) (Ev.bind hc (ev_neg (fun e => g3 (hlx.1 e)) hR)))))
    ·obtain ⟨R, hR, hb⟩ := ih (s + 1) B (by omega) (by omega) (keep fun _ => .inr (.inl (by omega)))
     refine ⟨R, enter R ?_, hb⟩
     rw [ok]
     exact exit1 true R (ev_pos rfl (ev_neg (by rw [cl_len, cl_len]; omega) (ev_neg (by rw [cl_len, cl_len]; omega) hR)))
end
theorem longest_both {n : Int} {t : ByteArray} (hs : t.size ≤ 9223372036854775807) (sg : Int) : ∃ R : List Int, R.length ≤ 7 ∧ Ev (fun k => impl_longest.f k n t sg) R ∧ (areOk n t = true → Ev (fun k => spec_l8Chain.f k n t sg []) R) ∧ (areOk n t = false → R = []) := by
 cases ho : areOk n t with
 | false =>
  refine ⟨[], Nat.zero_le _, ?_, fun g => (by cases g), fun _ => rfl⟩
  unfold impl_longest.f
  have hi := impl_are n t hs
  rw [ho] at hi
  exact Ev.bind hi (ev_neg (by simp) (Ev.now _))
 | true =>
  obtain ⟨⟨h0, h1⟩, _, _⟩ := (areOk_iff _ _).1 ho
  obtain ⟨N, rfl⟩ := Int.eq_ofNat_of_zero_le (show 0 ≤ n by omega)
  have h0 : 3 ≤ N := by omega
  have h1 : N ≤ 7 := by omega
  have hnil : asc N [] ∧ goodL (chi N t) sg [] := ⟨⟨List.Pairwise.nil, fun x hx => (by cases hx)⟩, fun i j k _ _ hk => absurd hk (by simp)⟩
  have pp : 1 ≤ 2 ^ N := Nat.pow_pos (by omega)
  obtain ⟨R, eR, bR⟩ := long_loop ho h0 h1 sg (2 ^ N - 1) 1 [] (Nat.le_refl _) (by omega) ⟨hnil, .inl rfl, fun s' a b _ => by omega⟩
  obtain ⟨R', eR', bR'⟩ := chain_main ho h0 h1 sg N [] 0 hnil.1 hnil.2 (.inl ⟨rfl, rfl⟩) (by omega)
  obtain rfl := best_uni bR bR'
  refine ⟨cl R, by rw [cl_len]; exact Nat.le_trans (asc_len bR.1.2.1) h1, ?_, fun _ => eR', fun g => (by cases g)⟩
  unfold impl_longest.f
  have hi := impl_are (N : Int) t hs
  rw [ho] at hi
  exact Ev.bind hi (ev_pos rfl (Ev.bind (tableOf_ev ho) eR))
theorem cap_both {n : Int} {t : ByteArray} (hs : t.size ≤ 9223372036854775807) : ∃ R : List Int, R.length ≤ 7 ∧ Ev (fun k => impl_CapOf.f k n t) R ∧ Ev (fun k => spec_CapOf.f k n t) R := by
 obtain ⟨R, hl, hi, hsp, hno⟩ := longest_both (n := n) hs (-1)
 refine ⟨R, hl, ?_, ?_⟩
 ·unfold impl_CapOf.f
  exact Ev.bind hi (Ev.now _)
 ·unfold spec_CapOf.f
  refine Ev.bind (spec_are n t hs) ?_
  cases ho : areOk n t with
  | true => exact ev_pos rfl (Ev.bind (hsp ho) (Ev.now _))
  | false =>
   rw [hno ho]
   exact ev_neg (by simp) (Ev.now _)
theorem cup_both {n : Int} {t : ByteArray} (hs : t.size ≤ 9223372036854775807) : ∃ R : List Int, R.length ≤ 7 ∧ Ev (fun k => impl_CupOf.f k n t) R ∧ Ev (fun k => spec_CupOf.f k n t) R := by
 obtain ⟨R, hl, hi, hsp, hno⟩ := longest_both (n := n) hs 1
 refine ⟨R, hl, ?_, ?_⟩
 ·unfold impl_CupOf.f
  exact Ev.bind hi (Ev.now _)
 ·unfold spec_CupOf.f
  refine Ev.bind (spec_are n t hs) ?_
  cases ho : areOk n t with
  | true => exact ev_pos rfl (Ev.bind (hsp ho) (Ev.now _))
  | false =>
   rw [hno ho]
   exact ev_neg (by simp) (Ev.now _)
end Go.Proofs.Ythhgcdfdjlijjaa.M
namespace Go.Proofs.Ythhgcdfdjlijjaa.M
open Go.RowKit Go.Proofs.YthhgcdfdjlijjaaW.PrintWords Go.Proofs.Ythhgcdfdjlijjaa.PX
theorem rd_nat {l : List Int} {i : Nat} (h : i < l.length) : rd l (i : Int) = l[i] := by
 unfold rd
 rw [Int.toNat_natCast, List.getD_eq_getElem?_getD, List.getElem?_eq_getElem h]
 rfl
theorem eqIntS_loop (l : List Int) (hl : l.length ≤ 1000000000) (d : Nat) : ∀ i : Nat, i + d = l.length → Ev (fun k => laws_eqIntS.l0 k l l (i : Int)) true := by
 induction d with
 | zero =>
  intro i hi
  refine ev_step ?_
  simp only [laws_eqIntS.l0]
  exact ev_neg (by omega) (Ev.now _)
 | succ d ih =>
  intro i hi
  refine ev_step ?_
  simp only [laws_eqIntS.l0]
  refine ev_pos (by omega) (ev_pos (by omega) (ev_pos (by omega) (ev_pos (by first | trivial | rfl) ?_)))
  rw [wrap_id (by omega) (by omega)]
  exact ih (i + 1) (by omega)
theorem eqIntS_self (l : List Int) (hl : l.length ≤ 1000000000) : Ev (fun k => laws_eqIntS.f k l l) true := by
 unfold laws_eqIntS.f
 exact ev_pos rfl (eqIntS_loop l hl l.length 0 (by omega))
def marks (n : Nat) : List Int := (List.range n).map fun (i : Nat) => (1 : Int) + (i : Int)
theorem marks_length (n : Nat) : (marks n).length = n := by simp [marks]
theorem marks_succ (n : Nat) : marks (n + 1) = marks n ++ [(1 : Int) + (n : Int)] := by simp [marks, List.range_succ]
theorem mark_loop (d : Nat) : ∀ (i : Nat) (suf : List Int), suf.length = d → i + d ≤ 1000000000 → Ev (fun k => laws_markIntS.l0 k (marks i ++ suf) ((1 : Int) + (i : Int)) (i : Int)) ((1 : Int) + ((i + d : Nat) : Int), marks (i + d)) := by
 induction d with
 | zero =>
  intro i suf hs hb
  obtain rfl : suf = [] := List.eq_nil_of_length_eq_zero hs
  refine ev_step ?_
  simp only [laws_markIntS.l0, List.length_append, marks_length, List.length_nil]
  refine ev_neg (by omega) (ev_cast (Ev.now _) ?_)
  rw [List.append_nil]
  rfl
 | succ d ih =>
  intro i suf hs hb
  cases suf with
  | nil => cases hs
  | cons y ys =>
   rw [List.length_cons] at hs
   refine ev_step ?_
   simp only [laws_markIntS.l0, List.length_append, marks_length, List.length_cons]
   refine ev_pos (by omega) (ev_pos (by omega) ?_)
   rw [wrap_id (x := (i : Int) + 1) (by omega) (by omega), wrap_id (x := (1 : Int) + (i : Int) + 1) (by omega) (by omega)]
   have e : (marks i ++ y :: ys).set (i : Int).toNat ((1 : Int) + (i : Int)) = marks (i + 1) ++ ys := by
    rw [Int.toNat_natCast, List.set_append_right _ _ (by rw [marks_length]; omega), marks_length, Nat.sub_self, List.set_cons_zero, marks_succ, List.append_assoc]
    rfl
   rw [e, show i + (d + 1) = (i + 1) + d by omega, show (1 : Int) + (i : Int) + 1 = (1 : Int) + ((i + 1 : Nat) : Int) by omega]
   exact ih (i + 1) ys (by omega) (by omega)
theorem mark_ev (l : List Int) (hl : l.length ≤ 1000000000) : Ev (fun k => laws_markIntS.f k l 1) ((1 : Int) + (l.length : Int), marks l.length) := by
 unfold laws_markIntS.f
 have := mark_loop l.length 0 l rfl (by omega)
 rw [Nat.zero_add] at this
 exact this
theorem held_loop (n : Nat) (hn : n ≤ 1000000000) (d : Nat) : ∀ i : Nat, i + d = n → Ev (fun k => laws_heldIntS.l0 k (marks n) ((1 : Int) + (i : Int)) (i : Int)) ((1 : Int) + (n : Int)) := by
 induction d with
 | zero =>
  intro i hi
  refine ev_step ?_
  simp only [laws_heldIntS.l0, marks_length]
  refine ev_neg (by omega) (ev_cast (Ev.now _) ?_)
  omega
 | succ d ih =>
  intro i hi
  refine ev_step ?_
  simp only [laws_heldIntS.l0, marks_length]
  refine ev_pos (by omega) (ev_pos (by omega) (ev_pos ?_ ?_))
  ·rw [rd_nat (by rw [marks_length]; omega)]
   simp [marks]
  ·rw [wrap_id (x := (i : Int) + 1) (by omega) (by omega), wrap_id (x := (1 : Int) + (i : Int) + 1) (by omega) (by omega), show (1 : Int) + (i : Int) + 1 = (1 : Int) + ((i + 1 : Nat) : Int) by omega]
   exact ih (i + 1) (by omega)
theorem held_ev (n : Nat) (hn : n ≤ 1000000000) : Ev (fun k => laws_heldIntS.f k (marks n) 1) ((1 : Int) + (n : Int)) := by
 unfold laws_heldIntS.f
 exact held_loop n hn n 0 (by omega)
theorem sz_signs (n : Int) (t : ByteArray) : ∃ r, laws_szSigns.f n t 1048576 = some r := by
 unfold laws_szSigns.f
 split <;> exact ⟨_, rfl⟩
end Go.Proofs.Ythhgcdfdjlijjaa.M
