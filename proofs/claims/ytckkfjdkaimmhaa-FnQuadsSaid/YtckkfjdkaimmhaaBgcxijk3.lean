/- A part of proofs about signs and points: what some functions answer, and that their calls answer so. No condition. -/
import Derived.Test.YtckkfjdkaimmhaaProg
import Derived.Test.YtckkfjdkaimmhaaV1
import Derived.Test.YtckkfjdkaimmhaaBgcxijk1
import Derived.Test.YtckkfjdkaimmhaaBgcxijk2
set_option linter.unusedVariables false
set_option linter.unusedSimpArgs false
namespace Go.Proofs.Ytckkfjdkaimmhaa.PX
open Go.RowKit Go.Proofs.Ytckkfjdkaimmhaa.G Go.Proofs.YtckkfjdkaimmhaaW.PrintWords Go.Proofs.YtckkfjdkaimmhaaW.PrintLast Go.Proofs.YtckkfjdkaimmhaaW.PrintMore
attribute [local go_sem] max2_int min2_int max_two min_two max_three min_three max_four min_four   -- for this text's walks alone
set_option linter.unusedVariables false
set_option linter.unusedSimpArgs false
/-! ### spec_l3Bent: function 141 -/
def spec_l3Bent.f (k : Nat) (s0_0 : List Int) (s0_1 : Int) (s0_2 : Int) : Option (Int × ByteArray × Int × Int) := (spec_l3Draw.f k s0_0 s0_1 s0_2).bind fun bt207 => ((spec_l1Below.f s0_0 bt207.2.2.1 bt207.2.2.2 18).bind fun bt212 => (if bt212.1 = 0 then ((spec_l1PickInt.f s0_0 bt212.2.1 bt212.2.2 (([2, 8, 4, 5] : List Int))).bind fun bt218 => (some (bt218.1, bt207.2.1, bt218.2.1, bt218.2.2))) else (if bt212.1 = 1 then ((spec_l1Pick.f s0_0 bt212.2.1 bt212.2.2 (([(⟨#[43]⟩ : ByteArray), (⟨#[48]⟩ : ByteArray)] : List ByteArray))).bind fun bt224 => (if bt207.2.1.size + bt224.1.size ≤ 9223372036854775807 then (some (bt207.1, bt207.2.1 ++ bt224.1, bt224.2.1, bt224.2.2)) else (none))) else (some (bt207.1, bt207.2.1, bt212.2.1, bt212.2.2)))))
def spec_l3Bent.T6 : Bool × List (List Nat × List Nat) := (true, [([], []), ([0], [0]), ([], []), ([], []), ([2, 3], [2, 3]), ([1, 4], [1, 4]), ([0, 1, 2, 3, 4, 5], []), ([6, 5, 4, 0, 1, 2, 3, 4, 5], [5, 6])])
def spec_l3Bent.B6 : List Nat := [0, 1, 0, 0, 12, 31, 63, 127]
theorem spec_l3Bent.tab6 : rtab .any (opsOf Try.f141 6) = spec_l3Bent.T6 := by kernel_rfl
theorem spec_l3Bent.bits6 : waitsOk spec_l3Bent.T6.2 spec_l3Bent.B6 = true := by kernel_rfl
theorem zl21_0 {p q : Prop} (g : p) (h : p → q := by intro zg_; repeat (first | (with_reducible first | exact zg_ | apply IsS110.alloc | apply IsS110.drewN | apply IsS110.drew | apply IsS110.set_1 | apply IsS110.set_2) | exact zg_)) : q := h g
theorem zl21_1 {p q : Prop} (g : p) (h : p → q := by intro zg_; repeat (first | (with_reducible first | exact zg_ | apply KeepBut.set_ | apply keep_drewN | apply keep_drew | apply keep_alloc) | exact zg_)) : q := h g
theorem zl21_2 {p q p0 : Prop} (g : p) (g0 : p0) (h : p → p0 → q := by intro zg_ z0_; repeat (first | (with_reducible first | exact zg_ | apply IsS110.alloc | apply IsS110.drewN | apply IsS110.drew | apply IsS110.set_1 | apply IsS110.set_2 | refine IsS110.far ?_ z0_ _) | exact zg_)) : q := h g g0
theorem zl21_3 {p q p0 p1 : Prop} (g : p) (g0 : p0) (g1 : p1) (h : p → p0 → p1 → q := by intro zg_ z0_ z1_; repeat (first | (with_reducible first | exact zg_ | apply below_alloc | apply pw_below_drewN | apply below_drew1 | refine below_set ?_ z0_ | refine below_set ?_ z1_) | exact zg_)) : q := h g g0 g1
theorem zl21_4 {p q p0 : Prop} (g : p) (g0 : p0) (h : p → p0 → q := by intro zg_ z0_; repeat (first | (with_reducible first | exact zg_ | apply KeepBut.set_ | apply keep_drewN | apply keep_drew | apply keep_alloc | refine keep_far ?_ z0_ _) | exact zg_)) : q := h g g0
theorem zl21_5 {p q p0 p1 : Prop} (g : p) (g0 : p0) (g1 : p1) (h : p → p0 → p1 → q := by intro zg_ z0_ z1_; repeat (first | (with_reducible first | exact zg_ | apply IsS110.alloc | apply IsS110.drewN | apply IsS110.drew | apply IsS110.set_1 | apply IsS110.set_2 | refine IsS110.far ?_ z0_ _ | refine IsS110.far ?_ z1_ _) | exact zg_)) : q := h g g0 g1
theorem zl21_6 {p q p0 p1 p2 : Prop} (g : p) (g0 : p0) (g1 : p1) (g2 : p2) (h : p → p0 → p1 → p2 → q := by intro zg_ z0_ z1_ z2_; repeat (first | (with_reducible first | exact zg_ | apply below_alloc | apply pw_below_drewN | apply below_drew1 | refine below_set ?_ z0_ | refine below_set ?_ z1_ | refine below_set ?_ z2_) | exact zg_)) : q := h g g0 g1 g2
theorem zl21_7 {p q p0 p1 : Prop} (g : p) (g0 : p0) (g1 : p1) (h : p → p0 → p1 → q := by intro zg_ z0_ z1_; repeat (first | (with_reducible first | exact zg_ | apply KeepBut.set_ | apply keep_drewN | apply keep_drew | apply keep_alloc | refine keep_far ?_ z0_ _ | refine keep_far ?_ z1_ _) | exact zg_)) : q := h g g0 g1
set_option maxHeartbeats 8000000 in
set_option maxRecDepth 100000 in
theorem spec_l3Bent.calls (k : Nat) (g : Nat) (s0_0 : List Int) (s0_1 : Int) (s0_2 : Int) (r1 : Int) (r2 : ByteArray) (r3 : Int) (r4 : Int) (w0 w : World) (hI : IsS110 w0 w g s0_0 s0_1 s0_2) (hB : Below w0.heap.size w0 w) (h : spec_l3Bent.f k s0_0 s0_1 s0_2 = some (r1, r2, r3, r4)) :
  Calls Try.prog 141 #[.pointer (some ⟨g, 0, none⟩)] w fun e w' => e = .returned (.agg #[.int .i64 r1, .string r2]) ∧ IsS110 w0 w' g s0_0 r3 r4 ∧ Below w0.heap.size w0 w' ∧ KeepBut w w' g none := by
 have hu25 := Try.underlying25
 have HI0 := Aside0.mk hI
 have HK := Aside0.mk (KeepBut.refl w g none)
 have HL := Aside0.mk hB.size
 clear hI
 have HW0 := Aside0.mk hB.size
 have HB := Aside0.mk hB
 clear hB
 have H : ((spec_l3Draw.f k s0_0 s0_1 s0_2).bind fun bt207 => ((spec_l1Below.f s0_0 bt207.2.2.1 bt207.2.2.2 18).bind fun bt212 => (if bt212.1 = 0 then ((spec_l1PickInt.f s0_0 bt212.2.1 bt212.2.2 (([2, 8, 4, 5] : List Int))).bind fun bt218 => (some (bt218.1, bt207.2.1, bt218.2.1, bt218.2.2))) else (if bt212.1 = 1 then ((spec_l1Pick.f s0_0 bt212.2.1 bt212.2.2 (([(⟨#[43]⟩ : ByteArray), (⟨#[48]⟩ : ByteArray)] : List ByteArray))).bind fun bt224 => (if bt207.2.1.size + bt224.1.size ≤ 9223372036854775807 then (some (bt207.1, bt207.2.1 ++ bt224.1, bt224.2.1, bt224.2.2)) else (none))) else (some (bt207.1, bt207.2.1, bt212.2.1, bt212.2.2)))))) = some (r1, r2, r3, r4) := h
 clear h
 obtain ⟨⟨t207, t208, t209, t210⟩, A2, H⟩ := zO H
 dsimp only at H
 obtain ⟨⟨t212, t213, t214⟩, A3, H⟩ := zO H
 dsimp only at H
 by_cases c4 : t212 = 0
 ·rw [if_pos c4] at H
  have c4b0 : (t212 == 0) = true := beq_iff_eq.mpr c4
  have c4b1 : (t212 != 0) = false := bne_eq_false_iff_eq.mpr c4
  clear c4
  obtain ⟨y215, hy215⟩ : ∃ y_ : List Int, y_ = (([2, 8, 4, 5] : List Int)) := ⟨_, rfl⟩
  replace H : ((spec_l1PickInt.f s0_0 t213 t214 y215).bind fun bt218 => (some (bt218.1, t208, bt218.2.1, bt218.2.2))) = some (r1, r2, r3, r4) := by first | (rw [hy215]; with_reducible exact H) | (have H2_ := (Option.bind_some _ _).symm.trans H; rw [hy215]; with_reducible exact H2_) | (have H2_ := (Option.bind_some _ _).symm.trans H; with_reducible exact H2_) | with_reducible exact H | (rw [hy215]; exact H) | exact H
  have Ny215 := Aside0.mk hy215
  clear hy215
  obtain ⟨⟨t218, t219, t220⟩, A5, H⟩ := zO H
  replace H : (some (t218, t208, t219, t220)) = some (r1, r2, r3, r4) := H
  simp only [Option.some.injEq, Prod.mk.injEq] at H
  obtain ⟨rfl, rfl, rfl, rfl⟩ := H
  go_enter Try.func141, Try.ntmps141
  go_wp2_with (first | ((with_reducible refine gate_dst (N := 2) rfl ?_); refine zBx (N := 2) #[.int .i64 0, .string (⟨#[]⟩ : ByteArray)] 25 ?_; intro gb206 hg w6 hbox hb; have n0_ := Aside0.mk (IsS110.below (zl21_0 HI0.out) hb); have n1_ := Aside0.mk (KeepBut.trans (zl21_1 HK.out) (KeepBut.of_below hb g none) (.inl rfl)); have n2_ := Aside0.mk (below_step (zG (IsS110.ge HI0.out)) hb); have n3_ := Aside0.mk (hbox); have n4_ := Aside0.mk ((by rw [hg]; exact (keep_size (w := w) (g := g) (row := none) (zl21_1 HK.out)) : w.heap.size ≤ gb206)); have n5_ := Aside0.mk ((Nat.le_trans HW0.out (by rw [hg]; exact (keep_size (w := w) (g := g) (row := none) (zl21_1 HK.out)) : w.heap.size ≤ gb206) : w0.heap.size ≤ gb206)); have n6_ := Aside0.mk ((by rw [hg]; exact Nat.ne_of_lt (IsS110.lt (show IsS110 w0 _ g s0_0 s0_1 s0_2 from (zl21_0 HI0.out))) : g ≠ gb206)); have n7_ := Aside0.mk ((by rw [hg]; exact Nat.ne_of_gt (IsS110.lt (show IsS110 w0 _ g s0_0 s0_1 s0_2 from (zl21_0 HI0.out))) : gb206 ≠ g)); clear HI0; clear HK; clear HB; have HI0 := n0_; have HK := n1_; have HB := n2_; have BK206 := n3_; have GW206 := n4_; have GE206 := n5_; have NB0_206 := n6_; have NB206_0 := n7_; clear n0_ n1_ n2_ n3_ n4_ n5_ n6_ n7_; clear hb hbox hg) | ((with_reducible refine gate_callee (f := 154) rfl ?_); refine zD (some 5) Try.func154 #[.pointer (some ⟨g, 0, none⟩)] ?_; (with_reducible refine (spec_l3Draw.calls k g s0_0 s0_1 s0_2 t207 t208 t209 t210 w0 _ ?side1 ?side2 A2.out).mono ?_); (case side1 => exact (zl21_2 HI0.out NB0_206.out)); (case side2 => exact (zl21_3 HB.out (IsS110.ge HI0.out) GE206.out)); rintro e w7 ⟨rfl, hi, hb, hk⟩; refine ⟨_, rfl, ?_⟩; replace BK206 := zKB hk BK206.out NB206_0.out; replace HK := Aside0.mk (KeepBut.trans (zl21_4 HK.out GW206.out) hk (.inl rfl)); replace HI0 := Aside0.mk (hi); replace HB := Aside0.mk (hb); (try clear hb); (try clear hk); (try clear hi)) | ((with_reducible refine gate_dst (N := 3) rfl ?_); refine zBx (N := 3) #[.int .i64 0, .string (⟨#[]⟩ : ByteArray)] 25 ?_; intro gb211 hg w8 hbox hb; have n0_ := Aside0.mk (IsS110.below (zl21_2 HI0.out NB0_206.out) hb); have n1_ := zV BK206.out hb; have n2_ := Aside0.mk (KeepBut.trans (zl21_4 HK.out GW206.out) (KeepBut.of_below hb g none) (.inl rfl)); have n3_ := Aside0.mk (below_step (zG2 (IsS110.ge HI0.out) GE206.out) hb); have n4_ := Aside0.mk (hbox); have n5_ := Aside0.mk ((by rw [hg]; exact (keep_size (w := w) (g := g) (row := none) (zl21_4 HK.out GW206.out)) : w.heap.size ≤ gb211)); have n6_ := Aside0.mk ((Nat.le_trans HW0.out (by rw [hg]; exact (keep_size (w := w) (g := g) (row := none) (zl21_4 HK.out GW206.out)) : w.heap.size ≤ gb211) : w0.heap.size ≤ gb211)); have n7_ := zL hg BK206.out; have n8_ := zLg hg BK206.out; have n9_ := Aside0.mk ((by rw [hg]; exact Nat.ne_of_lt (IsS110.lt (show IsS110 w0 _ g s0_0 t209 t210 from (zl21_2 HI0.out NB0_206.out))) : g ≠ gb211)); have n10_ := Aside0.mk ((by rw [hg]; exact Nat.ne_of_gt (IsS110.lt (show IsS110 w0 _ g s0_0 t209 t210 from (zl21_2 HI0.out NB0_206.out))) : gb211 ≠ g)); clear HI0; clear BK206; clear HK; clear HB; have HI0 := n0_; have BK206 := n1_; have HK := n2_; have HB := n3_; have BK211 := n4_; have GW211 := n5_; have GE211 := n6_; have NB206_211 := n7_; have NB211_206 := n8_; have NB0_211 := n9_; have NB211_0 := n10_; clear n0_ n1_ n2_ n3_ n4_ n5_ n6_ n7_ n8_ n9_ n10_; clear hb hbox hg; have hnb9 := NB211_206.out; have hnc9 := NB206_211.out; have hnb10 := NB211_0.out; have hnc10 := NB0_211.out; obtain ⟨hcz11_0, hcz11_1, hfz11_0, hfz11_1⟩ := zq2 BK211.out) | ((with_reducible refine gate_callee (f := 125) rfl ?_); refine zD (some 7) Try.func125 #[.pointer (some ⟨g, 0, none⟩), .int .i64 18] ?_; (with_reducible refine (spec_l1Below.calls g s0_0 t209 t210 18 t212 t213 t214 w0 _ ?side1 ?side2 A3.out).mono ?_); (case side1 => exact (zl21_5 HI0.out NB0_206.out NB0_211.out)); (case side2 => exact (zl21_6 HB.out (IsS110.ge HI0.out) GE206.out GE211.out)); rintro e w12 ⟨rfl, hi, hb, hk⟩; refine ⟨_, rfl, ?_⟩; replace BK206 := Aside0.mk (KeepBut.blk hk (g' := gb206) (o := .cells #[.int .i64 0, .string (⟨#[]⟩ : ByteArray)] 25 (0, 0)) (zk2 BK206.out NB206_211.out NB206_211.out) NB206_0.out (by simp)); replace BK211 := Aside0.mk (KeepBut.blk hk (g' := gb211) (o := .cells #[.int .i64 t207, .string t208] 25 (0, 0)) (zk0 BK211.out) NB211_0.out (by simp)); replace HK := Aside0.mk (KeepBut.trans (zl21_7 HK.out GW206.out GW211.out) hk (.inl rfl)); replace HI0 := Aside0.mk (hi); replace HB := Aside0.mk (hb); (try clear hb); (try clear hk); (try clear hi)) | ((with_reducible refine gate_dst (N := 11) rfl ?_); refine Kd.R_lit (Kd.int .i64) _ 3 ?hg (N := 11) ?hd (xs := ([2, 8, 4, 5] : List Int)) (inner := [.int .i64 2, .int .i64 8, .int .i64 4, .int .i64 5]) (ok := fun _ => True) (okp := fun _ => True) ?hr ?hp (fun _ hk => hk) trivial (Below.refl _ _) (Nat.le_refl _) (by simp) ?_; (case hd => rfl); (case hg => rfl); (case hr => first | (go_simp; done) | (go_simp; rfl)); (case hp => exact (Reps.one (show Kd.M (Kd.int .i64) _ _ _ 2 [.int .i64 2] from rfl) (Reps.one (show Kd.M (Kd.int .i64) _ _ _ 8 [.int .i64 8] from rfl) (Reps.one (show Kd.M (Kd.int .i64) _ _ _ 4 [.int .i64 4] from rfl) (Reps.one (show Kd.M (Kd.int .i64) _ _ _ 5 [.int .i64 5] from rfl) (Reps.none _ _)))))); intro v216 w13 ho14 hb hg_ hnew_; clear hg_ hnew_; (first | rw [← Ny215.out] at ho14 | (simp only [Int.reduceToNat] at ho14; rw [← Ny215.out] at ho14)); have n0_ := Aside0.mk (Kd.R_lower ho14 (keep_size (w := w) (g := g) (row := none) (zl21_7 HK.out GW206.out GW211.out))); have n1_ := Aside0.mk (IsS110.below (zl21_5 HI0.out NB0_206.out NB0_211.out) hb); have n2_ := zV BK206.out hb; have n3_ := zV BK211.out hb; have n4_ := Aside0.mk (KeepBut.trans (zl21_7 HK.out GW206.out GW211.out) (KeepBut.of_below hb g none) (.inl rfl)); have n5_ := Aside0.mk (below_step (zG3 (IsS110.ge HI0.out) GE206.out GE211.out) hb); clear HI0; clear BK206; clear BK211; clear HK; clear HB; have HO217 := n0_; have HI0 := n1_; have BK206 := n2_; have BK211 := n3_; have HK := n4_; have HB := n5_; clear n0_ n1_ n2_ n3_ n4_ n5_; clear hb ho14; obtain ⟨Ao15, co15, eo15⟩ := Kd.R_slice HO217.out; subst eo15) | ((with_reducible refine gate_callee (f := 126) rfl ?_); refine zD (some 12) Try.func126 #[.pointer (some ⟨g, 0, none⟩), .slice Ao15 y215.length co15] ?_; (with_reducible refine (spec_l1PickInt.calls g s0_0 t213 t214 _ _ y215 t218 t219 t220 w0 _ ?side1 ?side2 ?side3 ?side4 ?side5 A5.out).mono ?_); (case side1 => exact (zl21_5 HI0.out NB0_206.out NB0_211.out)); (case side2 => exact (zl21_6 HB.out (IsS110.ge HI0.out) GE206.out GE211.out)); (case side3 => repeat (first | exact (Kd.R_reads' HO217.out).2.2 | (with_reducible refine Kd.C_alloc ?_ _) | (with_reducible refine Kd.C_drewN ?_ _) | (with_reducible refine Kd.C_drew ?_))); (case side4 => exact (Kd.R_reads' HO217.out).2.1); (case side5 => exact far_slice (IsS110.own_ne HI0.out HO217.out (by decide))); rintro e w16 ⟨rfl, hi, hb, hk⟩; refine ⟨_, rfl, ?_⟩; replace BK206 := zKB hk BK206.out NB206_0.out; replace BK211 := zKB hk BK211.out NB211_0.out; replace HO217 := Aside0.mk (Kd.R_mono (Kd.R_keep (IsS110.apart (show IsS110 w0 _ g s0_0 t213 t214 from (zl21_5 HI0.out NB0_206.out NB0_211.out)) (zR HO217.out) (by decide)) hk (fun _ h => h.2)) (fun _ h => h.1)); replace HK := Aside0.mk (KeepBut.trans (zl21_7 HK.out GW206.out GW211.out) hk (.inl rfl)); replace HI0 := Aside0.mk (hi); replace HB := Aside0.mk (hb); (try clear hb); (try clear hk); (try clear hi); obtain ⟨hcz17_0, hcz17_1, hfz17_0, hfz17_1⟩ := zq2 BK211.out; have hnb18 := NB206_0.out; have hnc18 := NB0_206.out; obtain ⟨hcz19_0, hcz19_1, hfz19_0, hfz19_1⟩ := zq2 BK206.out))
  refine bodyPost_ret (results_cell_row rfl _ _ gb206 25 #[.int .i64 t218, .string t208] (0, 0) _ rfl (zk1 BK206.out NB206_211.out) Try.underlying25 rfl (by kernel_rfl)) rfl ?_
  exact ⟨zE, (zl21_5 HI0.out NB0_206.out NB0_211.out), zG3 (IsS110.ge HI0.out) GE206.out GE211.out, (zl21_7 HK.out GW206.out GW211.out)⟩
 rw [if_neg c4] at H
 have c4b0 : (t212 == 0) = false := beq_eq_false_iff_ne.mpr c4
 have c4b1 : (t212 != 0) = true := bne_iff_ne.mpr c4
 by_cases c20 : t212 = 1
 ·rw [if_pos c20] at H
  have c20b0 : (t212 == 1) = true := beq_iff_eq.mpr c20
  have c20b1 : (t212 != 1) = false := bne_eq_false_iff_eq.mpr c20
  clear c20
  obtain ⟨y221, hy221⟩ : ∃ y_ : List ByteArray, y_ = (([(⟨#[43]⟩ : ByteArray), (⟨#[48]⟩ : ByteArray)] : List ByteArray)) := ⟨_, rfl⟩
  replace H : ((spec_l1Pick.f s0_0 t213 t214 y221).bind fun bt224 => (if t208.size + bt224.1.size ≤ 9223372036854775807 then (some (t207, t208 ++ bt224.1, bt224.2.1, bt224.2.2)) else (none))) = some (r1, r2, r3, r4) := by first | (rw [hy221]; with_reducible exact H) | (have H2_ := (Option.bind_some _ _).symm.trans H; rw [hy221]; with_reducible exact H2_) | (have H2_ := (Option.bind_some _ _).symm.trans H; with_reducible exact H2_) | with_reducible exact H | (rw [hy221]; exact H) | exact H
  have Ny221 := Aside0.mk hy221
  clear hy221
  obtain ⟨⟨t224, t225, t226⟩, A21, H⟩ := zO H
  dsimp only at H
  by_cases c22 : t208.size + t224.size ≤ 9223372036854775807
  ·rw [if_pos c22] at H
   have c22b0 := eq_true c22
   have c22b1 : decide (t208.size + t224.size ≤ 9223372036854775807) = true := decide_eq_true c22
   try have c22b2 : (9223372036854775807 < t208.size + t224.size) = False := eq_false (Nat.not_lt.2 c22)
   simp only [Option.some.injEq, Prod.mk.injEq] at H
   obtain ⟨rfl, rfl, rfl, rfl⟩ := H
   go_enter Try.func141, Try.ntmps141
   try go_wp2_with (first | ((with_reducible refine gate_dst (N := 2) rfl ?_); refine zBx (N := 2) #[.int .i64 0, .string (⟨#[]⟩ : ByteArray)] 25 ?_; intro gb206 hg w23 hbox hb; have n0_ := Aside0.mk (IsS110.below (zl21_0 HI0.out) hb); have n1_ := Aside0.mk (KeepBut.trans (zl21_1 HK.out) (KeepBut.of_below hb g none) (.inl rfl)); have n2_ := Aside0.mk (below_step (zG (IsS110.ge HI0.out)) hb); have n3_ := Aside0.mk (hbox); have n4_ := Aside0.mk ((by rw [hg]; exact (keep_size (w := w) (g := g) (row := none) (zl21_1 HK.out)) : w.heap.size ≤ gb206)); have n5_ := Aside0.mk ((Nat.le_trans HW0.out (by rw [hg]; exact (keep_size (w := w) (g := g) (row := none) (zl21_1 HK.out)) : w.heap.size ≤ gb206) : w0.heap.size ≤ gb206)); have n6_ := Aside0.mk ((by rw [hg]; exact Nat.ne_of_lt (IsS110.lt (show IsS110 w0 _ g s0_0 s0_1 s0_2 from (zl21_0 HI0.out))) : g ≠ gb206)); have n7_ := Aside0.mk ((by rw [hg]; exact Nat.ne_of_gt (IsS110.lt (show IsS110 w0 _ g s0_0 s0_1 s0_2 from (zl21_0 HI0.out))) : gb206 ≠ g)); clear HI0; clear HK; clear HB; have HI0 := n0_; have HK := n1_; have HB := n2_; have BK206 := n3_; have GW206 := n4_; have GE206 := n5_; have NB0_206 := n6_; have NB206_0 := n7_; clear n0_ n1_ n2_ n3_ n4_ n5_ n6_ n7_; clear hb hbox hg) | ((with_reducible refine gate_callee (f := 154) rfl ?_); refine zD (some 5) Try.func154 #[.pointer (some ⟨g, 0, none⟩)] ?_; (with_reducible refine (spec_l3Draw.calls k g s0_0 s0_1 s0_2 t207 t208 t209 t210 w0 _ ?side1 ?side2 A2.out).mono ?_); (case side1 => exact (zl21_2 HI0.out NB0_206.out)); (case side2 => exact (zl21_3 HB.out (IsS110.ge HI0.out) GE206.out)); rintro e w24 ⟨rfl, hi, hb, hk⟩; refine ⟨_, rfl, ?_⟩; replace BK206 := zKB hk BK206.out NB206_0.out; replace HK := Aside0.mk (KeepBut.trans (zl21_4 HK.out GW206.out) hk (.inl rfl)); replace HI0 := Aside0.mk (hi); replace HB := Aside0.mk (hb); (try clear hb); (try clear hk); (try clear hi)) | ((with_reducible refine gate_dst (N := 3) rfl ?_); refine zBx (N := 3) #[.int .i64 0, .string (⟨#[]⟩ : ByteArray)] 25 ?_; intro gb211 hg w25 hbox hb; have n0_ := Aside0.mk (IsS110.below (zl21_2 HI0.out NB0_206.out) hb); have n1_ := zV BK206.out hb; have n2_ := Aside0.mk (KeepBut.trans (zl21_4 HK.out GW206.out) (KeepBut.of_below hb g none) (.inl rfl)); have n3_ := Aside0.mk (below_step (zG2 (IsS110.ge HI0.out) GE206.out) hb); have n4_ := Aside0.mk (hbox); have n5_ := Aside0.mk ((by rw [hg]; exact (keep_size (w := w) (g := g) (row := none) (zl21_4 HK.out GW206.out)) : w.heap.size ≤ gb211)); have n6_ := Aside0.mk ((Nat.le_trans HW0.out (by rw [hg]; exact (keep_size (w := w) (g := g) (row := none) (zl21_4 HK.out GW206.out)) : w.heap.size ≤ gb211) : w0.heap.size ≤ gb211)); have n7_ := zL hg BK206.out; have n8_ := zLg hg BK206.out; have n9_ := Aside0.mk ((by rw [hg]; exact Nat.ne_of_lt (IsS110.lt (show IsS110 w0 _ g s0_0 t209 t210 from (zl21_2 HI0.out NB0_206.out))) : g ≠ gb211)); have n10_ := Aside0.mk ((by rw [hg]; exact Nat.ne_of_gt (IsS110.lt (show IsS110 w0 _ g s0_0 t209 t210 from (zl21_2 HI0.out NB0_206.out))) : gb211 ≠ g)); clear HI0; clear BK206; clear HK; clear HB; have HI0 := n0_; have BK206 := n1_; have HK := n2_; have HB := n3_; have BK211 := n4_; have GW211 := n5_; have GE211 := n6_; have NB206_211 := n7_; have NB211_206 := n8_; have NB0_211 := n9_; have NB211_0 := n10_; clear n0_ n1_ n2_ n3_ n4_ n5_ n6_ n7_ n8_ n9_ n10_; clear hb hbox hg; have hnb26 := NB211_206.out; have hnc26 := NB206_211.out; have hnb27 := NB211_0.out; have hnc27 := NB0_211.out; obtain ⟨hcz28_0, hcz28_1, hfz28_0, hfz28_1⟩ := zq2 BK211.out) | ((with_reducible refine gate_callee (f := 125) rfl ?_); refine zD (some 7) Try.func125 #[.pointer (some ⟨g, 0, none⟩), .int .i64 18] ?_; (with_reducible refine (spec_l1Below.calls g s0_0 t209 t210 18 t212 t213 t214 w0 _ ?side1 ?side2 A3.out).mono ?_); (case side1 => exact (zl21_5 HI0.out NB0_206.out NB0_211.out)); (case side2 => exact (zl21_6 HB.out (IsS110.ge HI0.out) GE206.out GE211.out)); rintro e w29 ⟨rfl, hi, hb, hk⟩; refine ⟨_, rfl, ?_⟩; replace BK206 := Aside0.mk (KeepBut.blk hk (g' := gb206) (o := .cells #[.int .i64 0, .string (⟨#[]⟩ : ByteArray)] 25 (0, 0)) (zk2 BK206.out NB206_211.out NB206_211.out) NB206_0.out (by simp)); replace BK211 := Aside0.mk (KeepBut.blk hk (g' := gb211) (o := .cells #[.int .i64 t207, .string t208] 25 (0, 0)) (zk0 BK211.out) NB211_0.out (by simp)); replace HK := Aside0.mk (KeepBut.trans (zl21_7 HK.out GW206.out GW211.out) hk (.inl rfl)); replace HI0 := Aside0.mk (hi); replace HB := Aside0.mk (hb); (try clear hb); (try clear hk); (try clear hi)))
   replace BK206 := Aside0.mk (blk_drew BK206.out)
   replace BK211 := Aside0.mk (blk_drew BK211.out)
   replace HI0 := Aside0.mk (IsS110.drew HI0.out)
   replace HK := Aside0.mk (keep_drew HK.out)
   replace HB := Aside0.mk (below_drew1 HB.out)
   refine start_ (n := 8) (S := fun w' => w'.cell? ⟨gb211, 0, none⟩ = some (.int .i64 t207) ∧ w'.cell? ⟨gb211, 1, none⟩ = some (.string t208)) (ds := [7]) #[false, false, false, false, false, false, false, false] (by kernel_rfl) rfl rfl ⟨(blk_cell BK211.out 0).trans rfl, (blk_cell BK211.out 1).trans rfl⟩ (fun hHeld => ?_); refine with_tabW spec_l3Bent.tab6 spec_l3Bent.bits6 (fun HT_ HW_ => ?_)
   generalize w29.drew = w30 at BK206 BK211 HI0 HK HB hHeld ⊢
   refine zP 0 (some 16) rfl rfl ?_
   refine zP 2 (some 18) rfl rfl ?_
   refine zY2 1 (some 17) rfl rfl hHeld ?_
   refine zU 3 (some 19) rfl rfl (fun K hK => ?_)
   refine Kd.R_lit_step Kd.string _ 9 ?hg (N := 19) ?hd (xs := ([(⟨#[43]⟩ : ByteArray), (⟨#[48]⟩ : ByteArray)] : List ByteArray)) (inner := [.string (⟨#[43]⟩ : ByteArray), .string (⟨#[48]⟩ : ByteArray)]) (ok := fun _ => True) (okp := fun _ => True) ?hr ?hp (fun _ hk => hk) trivial (Below.refl _ _) (Nat.le_refl _) (by simp) ?_; (case hd => rfl); (case hg => rfl); (case hr => first | (go_simp; done) | (go_simp; rfl)); (case hp => exact (Reps.one (show Kd.M Kd.string _ _ _ (⟨#[43]⟩ : ByteArray) [.string (⟨#[43]⟩ : ByteArray)] from rfl) (Reps.one (show Kd.M Kd.string _ _ _ (⟨#[48]⟩ : ByteArray) [.string (⟨#[48]⟩ : ByteArray)] from rfl) (Reps.none _ _))))
   intro v222 w31 ho32 hb hg_ hnew_
   clear hg_ hnew_
   (first | rw [← Ny221.out] at ho32 | (simp only [Int.reduceToNat] at ho32; rw [← Ny221.out] at ho32))
   have n0_ := Aside0.mk (Kd.R_lower ho32 (keep_size (w := w) (g := g) (row := none) (zl21_7 HK.out GW206.out GW211.out)))
   have n1_ := Aside0.mk (IsS110.below (zl21_5 HI0.out NB0_206.out NB0_211.out) hb)
   have n2_ := zV BK206.out hb
   have n3_ := zV BK211.out hb
   have n4_ := Aside0.mk (KeepBut.trans (zl21_7 HK.out GW206.out GW211.out) (KeepBut.of_below hb g none) (.inl rfl))
   have n5_ := Aside0.mk (below_step (zG3 (IsS110.ge HI0.out) GE206.out GE211.out) hb)
   clear HI0
   clear BK206
   clear BK211
   clear HK
   clear HB
   have HO223 := n0_
   have HI0 := n1_
   have BK206 := n2_
   have BK211 := n3_
   have HK := n4_
   have HB := n5_
   clear n0_ n1_ n2_ n3_ n4_ n5_
   clear hb ho32
   obtain ⟨Ao33, co33, eo33⟩ := Kd.R_slice HO223.out
   (first | subst eo33 | (injection eo33 with f1_ f2_ f3_; have f4_ := f1_.symm; have f5_ := f3_.symm; clear f1_ f2_ f3_; subst f4_; subst f5_))
   refine hK.out _ _ (zh2 BK211.out) (fun hHeld => ?_)
   clear hK K
   refine zN ?_
   refine zU 4 (some 20) rfl rfl (fun K hK => ?_)
   refine goes_ Try.func155 (by kernel_rfl) rfl #[.pointer (some ⟨g, 0, none⟩), .slice Ao33 y221.length co33] (by rfl) rfl rfl zM ?_
   with_reducible refine (spec_l1Pick.calls g s0_0 t213 t214 _ _ y221 t224 t225 t226 w0 _ ?side1 ?side2 ?side3 ?side4 ?side5 A21.out).mono ?_
   (case side1 => exact (zl21_5 HI0.out NB0_206.out NB0_211.out))
   (case side2 => exact (zl21_6 HB.out (IsS110.ge HI0.out) GE206.out GE211.out))
   (case side3 => repeat (first | exact (Kd.R_reads' HO223.out).2.2 | (with_reducible refine Kd.C_alloc ?_ _) | (with_reducible refine Kd.C_drewN ?_ _) | (with_reducible refine Kd.C_drew ?_)))
   (case side4 => exact (Kd.R_reads' HO223.out).2.1)
   (case side5 => exact far_slice (IsS110.own_ne HI0.out HO223.out (by decide)))
   rintro e w34 ⟨rfl, hi, hb, hk⟩
   refine ⟨_, rfl, ?_⟩
   replace BK206 := zKB hk BK206.out NB206_0.out
   replace BK211 := zKB hk BK211.out NB211_0.out
   replace HO223 := Aside0.mk (Kd.R_mono (Kd.R_keep (IsS110.apart (show IsS110 w0 _ g s0_0 t213 t214 from (zl21_5 HI0.out NB0_206.out NB0_211.out)) (zR HO223.out) (by decide)) hk (fun _ h => h.2)) (fun _ h => h.1))
   replace HK := Aside0.mk (KeepBut.trans (zl21_7 HK.out GW206.out GW211.out) hk (.inl rfl))
   replace HI0 := Aside0.mk (hi)
   replace HB := Aside0.mk (hb)
   (try clear hb)
   (try clear hk)
   (try clear hi)
   refine hK.out _ _ (zh2 BK211.out) (fun hHeld => ?_)
   clear hK K
   refine zN ?_
   refine zP 5 (some 21) rfl rfl ?_
   refine zP 6 (some 22) rfl rfl ?_
   refine last_ (i := 7) (N := none) #[true, true, true, true, true, true, true, true] rfl rfl (one_of HT_.out (by kernel_rfl)) (by decide) (fun K hK => ?_)
   have hs35 : w34.cell? ⟨gb211, 1, none⟩ = some (.string t208) := (blk_cell BK211.out 1).trans rfl
   have hfs35 := blk_frozen BK211.out 1
   have hns35_0 := NB206_211.out
   have hms35_0 := NB211_206.out
   refine skip_ (w1 := ?_) (by rfl) rfl ?_ ?_
   rotate_left
   ·go_simp
    rfl
   refine hK.out _ _ ?_
   clear hK K
   refine done_ (done_of HT_.out (by kernel_rfl)) ?_
   obtain ⟨hcz36_0, hcz36_1, hfz36_0, hfz36_1⟩ := zq2 BK211.out
   have hnb37 := NB206_0.out
   have hnc37 := NB0_206.out
   obtain ⟨hcz38_0, hcz38_1, hfz38_0, hfz38_1⟩ := zq2 BK206.out
   try go_wp2
   refine bodyPost_ret (results_cell_row rfl _ _ gb206 25 #[.int .i64 t207, .string (t208 ++ t224)] (0, 0) _ rfl (zk1 BK206.out NB206_211.out) Try.underlying25 rfl (by kernel_rfl)) rfl ?_
   exact ⟨zE, (zl21_5 HI0.out NB0_206.out NB0_211.out), zG3 (IsS110.ge HI0.out) GE206.out GE211.out, (zl21_7 HK.out GW206.out GW211.out)⟩
  rw [if_neg c22] at H
  exact absurd H (by simp)
 rw [if_neg c20] at H
 have c20b0 : (t212 == 1) = false := beq_eq_false_iff_ne.mpr c20
 have c20b1 : (t212 != 1) = true := bne_iff_ne.mpr c20
 simp only [Option.some.injEq, Prod.mk.injEq] at H
 obtain ⟨rfl, rfl, rfl, rfl⟩ := H
 go_enter Try.func141, Try.ntmps141
 go_wp2_with (first | ((with_reducible refine gate_dst (N := 2) rfl ?_); refine zBx (N := 2) #[.int .i64 0, .string (⟨#[]⟩ : ByteArray)] 25 ?_; intro gb206 hg w39 hbox hb; have n0_ := Aside0.mk (IsS110.below (zl21_0 HI0.out) hb); have n1_ := Aside0.mk (KeepBut.trans (zl21_1 HK.out) (KeepBut.of_below hb g none) (.inl rfl)); have n2_ := Aside0.mk (below_step (zG (IsS110.ge HI0.out)) hb); have n3_ := Aside0.mk (hbox); have n4_ := Aside0.mk ((by rw [hg]; exact (keep_size (w := w) (g := g) (row := none) (zl21_1 HK.out)) : w.heap.size ≤ gb206)); have n5_ := Aside0.mk ((Nat.le_trans HW0.out (by rw [hg]; exact (keep_size (w := w) (g := g) (row := none) (zl21_1 HK.out)) : w.heap.size ≤ gb206) : w0.heap.size ≤ gb206)); have n6_ := Aside0.mk ((by rw [hg]; exact Nat.ne_of_lt (IsS110.lt (show IsS110 w0 _ g s0_0 s0_1 s0_2 from (zl21_0 HI0.out))) : g ≠ gb206)); have n7_ := Aside0.mk ((by rw [hg]; exact Nat.ne_of_gt (IsS110.lt (show IsS110 w0 _ g s0_0 s0_1 s0_2 from (zl21_0 HI0.out))) : gb206 ≠ g)); clear HI0; clear HK; clear HB; have HI0 := n0_; have HK := n1_; have HB := n2_; have BK206 := n3_; have GW206 := n4_; have GE206 := n5_; have NB0_206 := n6_; have NB206_0 := n7_; clear n0_ n1_ n2_ n3_ n4_ n5_ n6_ n7_; clear hb hbox hg) | ((with_reducible refine gate_callee (f := 154) rfl ?_); refine zD (some 5) Try.func154 #[.pointer (some ⟨g, 0, none⟩)] ?_; (with_reducible refine (spec_l3Draw.calls k g s0_0 s0_1 s0_2 t207 t208 t209 t210 w0 _ ?side1 ?side2 A2.out).mono ?_); (case side1 => exact (zl21_2 HI0.out NB0_206.out)); (case side2 => exact (zl21_3 HB.out (IsS110.ge HI0.out) GE206.out)); rintro e w40 ⟨rfl, hi, hb, hk⟩; refine ⟨_, rfl, ?_⟩; replace BK206 := zKB hk BK206.out NB206_0.out; replace HK := Aside0.mk (KeepBut.trans (zl21_4 HK.out GW206.out) hk (.inl rfl)); replace HI0 := Aside0.mk (hi); replace HB := Aside0.mk (hb); (try clear hb); (try clear hk); (try clear hi)) | ((with_reducible refine gate_dst (N := 3) rfl ?_); refine zBx (N := 3) #[.int .i64 0, .string (⟨#[]⟩ : ByteArray)] 25 ?_; intro gb211 hg w41 hbox hb; have n0_ := Aside0.mk (IsS110.below (zl21_2 HI0.out NB0_206.out) hb); have n1_ := zV BK206.out hb; have n2_ := Aside0.mk (KeepBut.trans (zl21_4 HK.out GW206.out) (KeepBut.of_below hb g none) (.inl rfl)); have n3_ := Aside0.mk (below_step (zG2 (IsS110.ge HI0.out) GE206.out) hb); have n4_ := Aside0.mk (hbox); have n5_ := Aside0.mk ((by rw [hg]; exact (keep_size (w := w) (g := g) (row := none) (zl21_4 HK.out GW206.out)) : w.heap.size ≤ gb211)); have n6_ := Aside0.mk ((Nat.le_trans HW0.out (by rw [hg]; exact (keep_size (w := w) (g := g) (row := none) (zl21_4 HK.out GW206.out)) : w.heap.size ≤ gb211) : w0.heap.size ≤ gb211)); have n7_ := zL hg BK206.out; have n8_ := zLg hg BK206.out; have n9_ := Aside0.mk ((by rw [hg]; exact Nat.ne_of_lt (IsS110.lt (show IsS110 w0 _ g s0_0 t209 t210 from (zl21_2 HI0.out NB0_206.out))) : g ≠ gb211)); have n10_ := Aside0.mk ((by rw [hg]; exact Nat.ne_of_gt (IsS110.lt (show IsS110 w0 _ g s0_0 t209 t210 from (zl21_2 HI0.out NB0_206.out))) : gb211 ≠ g)); clear HI0; clear BK206; clear HK; clear HB; have HI0 := n0_; have BK206 := n1_; have HK := n2_; have HB := n3_; have BK211 := n4_; have GW211 := n5_; have GE211 := n6_; have NB206_211 := n7_; have NB211_206 := n8_; have NB0_211 := n9_; have NB211_0 := n10_; clear n0_ n1_ n2_ n3_ n4_ n5_ n6_ n7_ n8_ n9_ n10_; clear hb hbox hg; have hnb42 := NB211_206.out; have hnc42 := NB206_211.out; have hnb43 := NB211_0.out; have hnc43 := NB0_211.out; obtain ⟨hcz44_0, hcz44_1, hfz44_0, hfz44_1⟩ := zq2 BK211.out) | ((with_reducible refine gate_callee (f := 125) rfl ?_); refine zD (some 7) Try.func125 #[.pointer (some ⟨g, 0, none⟩), .int .i64 18] ?_; (with_reducible refine (spec_l1Below.calls g s0_0 t209 t210 18 t212 t213 t214 w0 _ ?side1 ?side2 A3.out).mono ?_); (case side1 => exact (zl21_5 HI0.out NB0_206.out NB0_211.out)); (case side2 => exact (zl21_6 HB.out (IsS110.ge HI0.out) GE206.out GE211.out)); rintro e w45 ⟨rfl, hi, hb, hk⟩; refine ⟨_, rfl, ?_⟩; replace BK206 := Aside0.mk (KeepBut.blk hk (g' := gb206) (o := .cells #[.int .i64 0, .string (⟨#[]⟩ : ByteArray)] 25 (0, 0)) (zk2 BK206.out NB206_211.out NB206_211.out) NB206_0.out (by simp)); replace BK211 := Aside0.mk (KeepBut.blk hk (g' := gb211) (o := .cells #[.int .i64 t207, .string t208] 25 (0, 0)) (zk0 BK211.out) NB211_0.out (by simp)); replace HK := Aside0.mk (KeepBut.trans (zl21_7 HK.out GW206.out GW211.out) hk (.inl rfl)); replace HI0 := Aside0.mk (hi); replace HB := Aside0.mk (hb); (try clear hb); (try clear hk); (try clear hi); obtain ⟨hcz46_0, hcz46_1, hfz46_0, hfz46_1⟩ := zq2 BK211.out; have hnb47 := NB206_0.out; have hnc47 := NB0_206.out; obtain ⟨hcz48_0, hcz48_1, hfz48_0, hfz48_1⟩ := zq2 BK206.out))
 refine bodyPost_ret (results_cell_row rfl _ _ gb206 25 #[.int .i64 t207, .string t208] (0, 0) _ rfl (zk0 BK206.out) Try.underlying25 rfl (by kernel_rfl)) rfl ?_
 exact ⟨zE, (zl21_5 HI0.out NB0_206.out NB0_211.out), zG3 (IsS110.ge HI0.out) GE206.out GE211.out, (zl21_7 HK.out GW206.out GW211.out)⟩
/-! ### spec_l4Reverse: function 90 -/
mutual
def spec_l4Reverse.l0 : Nat → Int → Int → Int → ByteArray → Int → ByteArray → Option (Int × ByteArray)
 | 0, _, _, _, _, _, _ => none
 | k + 1, x1, x6, x107000, x107001, x109000, x109001 => if x6 < x107000 then (spec_l4Reverse.l1 k x1 x6 (wrap64 (x6 + 1)) x107000 x107001 x109000 x109001) else (some (x109000, x109001))
def spec_l4Reverse.l1 : Nat → Int → Int → Int → Int → ByteArray → Int → ByteArray → Option (Int × ByteArray)
 | 0, _, _, _, _, _, _, _ => none
 | k + 1, x1, x6, x7, x107000, x107001, x109000, x109001 => if x7 < x107000 then (spec_l4Reverse.l2 k x1 x6 x7 (wrap64 (x7 + 1)) x107000 x107001 x109000 x109001) else (spec_l4Reverse.l0 k x1 (wrap64 (x6 + 1)) x107000 x107001 x109000 x109001)
def spec_l4Reverse.l2 : Nat → Int → Int → Int → Int → Int → ByteArray → Int → ByteArray → Option (Int × ByteArray)
 | 0, _, _, _, _, _, _, _, _ => none
 | k + 1, x1, x6, x7, x8, x107000, x107001, x109000, x109001 => if x8 < x107000 then ((spec_l3At.f k x107000 x107001 x6 x7 x8).bind fun t109 => (if 0 ≤ (IntKind.u64.wrap (x6)) then (if 0 ≤ (IntKind.u64.wrap (x7)) then (if 0 ≤ (IntKind.u64.wrap (x8)) then (if (Go.bits .and .i64 (wrap64 ((wrap64 ((shr .i64 x1 (IntKind.u64.wrap (x6))) + (shr .i64 x1 (IntKind.u64.wrap (x7))))) + (shr .i64 x1 (IntKind.u64.wrap (x8))))) 1) = 1 then ((spec_l3Byte.f (wrap64 (-t109))).bind fun t110 => (if x109001.size + t110.size ≤ 9223372036854775807 then (spec_l4Reverse.l2 k x1 x6 x7 (wrap64 (x8 + 1)) x107000 x107001 x109000 (x109001 ++ t110)) else (none))) else ((spec_l3Byte.f t109).bind fun t111 => (if x109001.size + t111.size ≤ 9223372036854775807 then (spec_l4Reverse.l2 k x1 x6 x7 (wrap64 (x8 + 1)) x107000 x107001 x109000 (x109001 ++ t111)) else (none)))) else (none)) else (none)) else (none))) else (spec_l4Reverse.l1 k x1 x6 (wrap64 (x7 + 1)) x107000 x107001 x109000 x109001)
end
def spec_l4Reverse.f (k : Nat) (a0_0 : Int) (a0_1 : ByteArray) (a1 : Int) : Option (Int × ByteArray) := spec_l4Reverse.l0 k a1 0 a0_0 a0_1 a0_0 (⟨#[]⟩ : ByteArray)
set_option maxHeartbeats 8000000 in
set_option maxRecDepth 100000 in
theorem spec_l4Reverse.calls (k : Nat) (a0_0 : Int) (a0_1 : ByteArray) (a1 : Int) (r1 : Int) (r2 : ByteArray) (w : World) (h : spec_l4Reverse.f k a0_0 a0_1 a1 = some (r1, r2)) :
  Calls Try.prog 90 #[.agg #[.int .i64 a0_0, .string a0_1], .int .i64 a1] w fun e w' => e = .returned (.agg #[.int .i64 r1, .string r2]) ∧ Below w.heap.size w w' := by
 have hu25 := Try.underlying25
 have HB := Aside0.mk (Below.refl w.heap.size w)
 have H : (spec_l4Reverse.l0 k a1 0 a0_0 a0_1 a0_0 (⟨#[]⟩ : ByteArray)) = some (r1, r2) := h
 clear h
 have H' := Aside0.mk H; clear H
 go_enter Try.func90, Try.ntmps90
 go_wp2_with (first | ((with_reducible refine gate_dst (N := 2) rfl ?_); refine zBx (N := 2) #[.int .i64 a0_0, .string a0_1] 25 ?_; intro gb106 hg w3 hbox hb; have BK106 := Aside0.mk (hbox); have GW106 := zS hg; have GE106 := zS hg; replace HB := zX hb; clear hb hbox hg) | ((with_reducible refine gate_dst (N := 4) rfl ?_); refine zBx (N := 4) #[.int .i64 0, .string (⟨#[]⟩ : ByteArray)] 25 ?_; intro gb107 hg w4 hbox hb; have BK107 := Aside0.mk (hbox); have GW107 := zSg hg (zG GE106.out); have GE107 := zSg hg (zG GE106.out); have NB106_107 := zL hg BK106.out; have NB107_106 := zLg hg BK106.out; replace BK106 := zV BK106.out hb; replace HB := zX1 GE106.out hb; clear hb hbox hg; have hnb5 := NB106_107.out; have hnc5 := NB107_106.out; obtain ⟨hcz6_0, hcz6_1, hfz6_0, hfz6_1⟩ := zq2 BK106.out) | ((with_reducible refine gate_dst (N := 5) rfl ?_); refine zBx (N := 5) #[.int .i64 0, .string (⟨#[]⟩ : ByteArray)] 25 ?_; intro gb108 hg w7 hbox hb; have BK108 := Aside0.mk (hbox); have GW108 := zSg hg (zG2 GE106.out GE107.out); have GE108 := zSg hg (zG2 GE106.out GE107.out); have NB106_108 := zL hg BK106.out; have NB108_106 := zLg hg BK106.out; replace BK106 := zV BK106.out hb; have NB107_108 := zL hg BK107.out; have NB108_107 := zLg hg BK107.out; replace BK107 := zV BK107.out hb; replace HB := Aside0.mk (below_step (zG2 GE106.out GE107.out) hb); clear hb hbox hg; have hnb8 := NB108_106.out; have hnc8 := NB106_108.out; have hnb9 := NB108_107.out; have hnc9 := NB107_108.out; obtain ⟨hcz10_0, hcz10_1, hfz10_0, hfz10_1⟩ := zq2 BK108.out))
 go_loopg [6] k (fun kq v6 w' => ∃ (x6_1 : Int) (x109001_1 : ByteArray), v6 = .int .i64 x6_1 ∧ Aside0 (spec_l4Reverse.l0 kq a1 x6_1 a0_0 a0_1 a0_0 x109001_1 = some (r1, r2)) ∧ Aside0 (kq ≤ k) ∧ Aside0 (w'.heap[gb106]? = some (.cells #[.int .i64 a0_0, .string a0_1] 25 (0, 0))) ∧ Aside0 (w'.heap[gb107]? = some (.cells #[.int .i64 0, .string (⟨#[]⟩ : ByteArray)] 25 (0, 0))) ∧ Aside0 (w'.heap[gb108]? = some (.cells #[.int .i64 a0_0, .string x109001_1] 25 (0, 0))) ∧ Aside0 (Below w.heap.size w w'))
 case atStart => exact ⟨(0), ((⟨#[]⟩ : ByteArray)), zF, H', ⟨Nat.le_refl _⟩, ⟨zk2 BK106.out NB106_108.out NB106_108.out⟩, ⟨zk2 BK107.out NB107_108.out NB107_108.out⟩, ⟨zk0 BK108.out⟩, ⟨zG3 GE106.out GE107.out GE108.out⟩⟩
 case round =>
 clear H'
 try clear hcz10_0
 try clear hcz10_1
 try clear hcz6_0
 try clear hcz6_1
 try clear hfz10_0
 try clear hfz10_1
 try clear hfz6_0
 try clear hfz6_1
 obtain ⟨x6_1, x109001_1, rfl, HA, HK1, BK106, BK107, BK108, HB⟩ := hrel
 cases gk with
 | zero => exact absurd HA.out (by simp [spec_l4Reverse.l0])
 | succ k1 =>
 have H := HA.out
 clear HA
 simp only [spec_l4Reverse.l0] at H
 by_cases c11 : x6_1 < a0_0
 ·rw [if_pos c11] at H
  have c11b0 : decide (x6_1 < a0_0) = true := decide_eq_true c11
  clear c11
  have H' := Aside0.mk H; clear H
  have hnb12 := NB106_107.out
  have hnc12 := NB107_106.out
  have hnb13 := NB106_108.out
  have hnc13 := NB108_106.out
  obtain ⟨hcz14_0, hcz14_1, hfz14_0, hfz14_1⟩ := zq2 BK106.out
  go_wp2
  go_loopg [7] k1 (fun kq v7 w' => ∃ (x7_2 : Int) (x109001_2 : ByteArray), v7 = .int .i64 x7_2 ∧ Aside0 (spec_l4Reverse.l1 kq a1 x6_1 x7_2 a0_0 a0_1 a0_0 x109001_2 = some (r1, r2)) ∧ Aside0 (kq ≤ k1) ∧ Aside0 (w'.heap[gb106]? = some (.cells #[.int .i64 a0_0, .string a0_1] 25 (0, 0))) ∧ Aside0 (w'.heap[gb107]? = some (.cells #[.int .i64 0, .string (⟨#[]⟩ : ByteArray)] 25 (0, 0))) ∧ Aside0 (w'.heap[gb108]? = some (.cells #[.int .i64 a0_0, .string x109001_2] 25 (0, 0))) ∧ Aside0 (Below w.heap.size w w'))
  case atStart => exact ⟨(wrap64 (x6_1 + 1)), (x109001_1), zF, H', ⟨Nat.le_refl _⟩, ⟨zK BK106.out⟩, ⟨zK BK107.out⟩, ⟨zK BK108.out⟩, ⟨zG3 GE106.out GE107.out GE108.out⟩⟩
  case round =>
  clear H'
  try clear c11
  try clear c11b0
  try clear hcz10_0
  try clear hcz10_1
  try clear hcz14_0
  try clear hcz14_1
  try clear hcz6_0
  try clear hcz6_1
  try clear hfz10_0
  try clear hfz10_1
  try clear hfz14_0
  try clear hfz14_1
  try clear hfz6_0
  try clear hfz6_1
  obtain ⟨x7_2, x109001_2, rfl, HA, HK2, BK106, BK107, BK108, HB⟩ := hrel
  cases gk with
  | zero => exact absurd HA.out (by simp [spec_l4Reverse.l1])
  | succ k2 =>
  have H := HA.out
  clear HA
  simp only [spec_l4Reverse.l1] at H
  by_cases c15 : x7_2 < a0_0
  ·rw [if_pos c15] at H
   have c15b0 : decide (x7_2 < a0_0) = true := decide_eq_true c15
   clear c15
   have H' := Aside0.mk H; clear H
   have hnb16 := NB106_107.out
   have hnc16 := NB107_106.out
   have hnb17 := NB106_108.out
   have hnc17 := NB108_106.out
   obtain ⟨hcz18_0, hcz18_1, hfz18_0, hfz18_1⟩ := zq2 BK106.out
   go_wp2
   go_loopg [8] k2 (fun kq v8 w' => ∃ (x8_3 : Int) (x109001_3 : ByteArray), v8 = .int .i64 x8_3 ∧ Aside0 (spec_l4Reverse.l2 kq a1 x6_1 x7_2 x8_3 a0_0 a0_1 a0_0 x109001_3 = some (r1, r2)) ∧ Aside0 (kq ≤ k2) ∧ Aside0 (w'.heap[gb106]? = some (.cells #[.int .i64 a0_0, .string a0_1] 25 (0, 0))) ∧ Aside0 (w'.heap[gb107]? = some (.cells #[.int .i64 0, .string (⟨#[]⟩ : ByteArray)] 25 (0, 0))) ∧ Aside0 (w'.heap[gb108]? = some (.cells #[.int .i64 a0_0, .string x109001_3] 25 (0, 0))) ∧ Aside0 (Below w.heap.size w w'))
   case atStart => exact ⟨(wrap64 (x7_2 + 1)), (x109001_2), zF, H', ⟨Nat.le_refl _⟩, ⟨zK BK106.out⟩, ⟨zK BK107.out⟩, ⟨zK BK108.out⟩, ⟨zG3 GE106.out GE107.out GE108.out⟩⟩
   case round =>
   clear H'
   try clear c11
   try clear c11b0
   try clear c15
   try clear c15b0
   try clear hcz10_0
   try clear hcz10_1
   try clear hcz14_0
   try clear hcz14_1
   try clear hcz18_0
   try clear hcz18_1
   try clear hcz6_0
   try clear hcz6_1
   try clear hfz10_0
   try clear hfz10_1
   try clear hfz14_0
   try clear hfz14_1
   try clear hfz18_0
   try clear hfz18_1
   try clear hfz6_0
   try clear hfz6_1
   obtain ⟨x8_3, x109001_3, rfl, HA, HK3, BK106, BK107, BK108, HB⟩ := hrel
   cases gk with
   | zero => exact absurd HA.out (by simp [spec_l4Reverse.l2])
   | succ k3 =>
   have H := HA.out
   clear HA
   simp only [spec_l4Reverse.l2] at H
   by_cases c19 : x8_3 < a0_0
   ·rw [if_pos c19] at H
    have c19b0 : decide (x8_3 < a0_0) = true := decide_eq_true c19
    clear c19
    obtain ⟨t109, A20, H⟩ := zO H
    obtain ⟨ji21, hji21⟩ : ∃ j_ : Int, (IntKind.u64.wrap (x6_1)) = j_ := ⟨_, rfl⟩
    replace H : (if 0 ≤ (ji21) then (if 0 ≤ (IntKind.u64.wrap (x7_2)) then (if 0 ≤ (IntKind.u64.wrap (x8_3)) then (if (Go.bits .and .i64 (wrap64 ((wrap64 ((shr .i64 a1 (ji21)) + (shr .i64 a1 (IntKind.u64.wrap (x7_2))))) + (shr .i64 a1 (IntKind.u64.wrap (x8_3))))) 1) = 1 then ((spec_l3Byte.f (wrap64 (-t109))).bind fun t110 => (if x109001_3.size + t110.size ≤ 9223372036854775807 then (spec_l4Reverse.l2 k3 a1 x6_1 x7_2 (wrap64 (x8_3 + 1)) a0_0 a0_1 a0_0 (x109001_3 ++ t110)) else (none))) else ((spec_l3Byte.f t109).bind fun t111 => (if x109001_3.size + t111.size ≤ 9223372036854775807 then (spec_l4Reverse.l2 k3 a1 x6_1 x7_2 (wrap64 (x8_3 + 1)) a0_0 a0_1 a0_0 (x109001_3 ++ t111)) else (none)))) else (none)) else (none)) else (none)) = some (r1, r2) := by first | (rw [hji21] at H; exact H) | (simp only [hji21] at H ⊢; exact H)
    (try rw [hji21] at A20)
    by_cases c22 : 0 ≤ (ji21)
    ·rw [if_pos c22] at H
     have c22b0 := eq_true c22
     have c22b1 : decide (0 ≤ (ji21)) = true := decide_eq_true c22
     clear c22
     obtain ⟨ji23, hji23⟩ : ∃ j_ : Int, (shr .i64 a1 (ji21)) = j_ := ⟨_, rfl⟩
     replace H : (if 0 ≤ (IntKind.u64.wrap (x7_2)) then (if 0 ≤ (IntKind.u64.wrap (x8_3)) then (if (Go.bits .and .i64 (wrap64 ((wrap64 ((ji23) + (shr .i64 a1 (IntKind.u64.wrap (x7_2))))) + (shr .i64 a1 (IntKind.u64.wrap (x8_3))))) 1) = 1 then ((spec_l3Byte.f (wrap64 (-t109))).bind fun t110 => (if x109001_3.size + t110.size ≤ 9223372036854775807 then (spec_l4Reverse.l2 k3 a1 x6_1 x7_2 (wrap64 (x8_3 + 1)) a0_0 a0_1 a0_0 (x109001_3 ++ t110)) else (none))) else ((spec_l3Byte.f t109).bind fun t111 => (if x109001_3.size + t111.size ≤ 9223372036854775807 then (spec_l4Reverse.l2 k3 a1 x6_1 x7_2 (wrap64 (x8_3 + 1)) a0_0 a0_1 a0_0 (x109001_3 ++ t111)) else (none)))) else (none)) else (none)) = some (r1, r2) := by first | (rw [hji23] at H; exact H) | (simp only [hji23] at H ⊢; exact H)
     (try rw [hji23] at A20)
     have hji23_ : (a1 / 2 ^ min (ji21).toNat 64) = ji23 := hji23
     have hji23z : (ji21) ≤ 64 → (a1 / 2 ^ (ji21).toNat) = ji23 := shr_small hji23
     obtain ⟨ji24, hji24⟩ : ∃ j_ : Int, (IntKind.u64.wrap (x7_2)) = j_ := ⟨_, rfl⟩
     replace H : (if 0 ≤ (ji24) then (if 0 ≤ (IntKind.u64.wrap (x8_3)) then (if (Go.bits .and .i64 (wrap64 ((wrap64 ((ji23) + (shr .i64 a1 (ji24)))) + (shr .i64 a1 (IntKind.u64.wrap (x8_3))))) 1) = 1 then ((spec_l3Byte.f (wrap64 (-t109))).bind fun t110 => (if x109001_3.size + t110.size ≤ 9223372036854775807 then (spec_l4Reverse.l2 k3 a1 x6_1 x7_2 (wrap64 (x8_3 + 1)) a0_0 a0_1 a0_0 (x109001_3 ++ t110)) else (none))) else ((spec_l3Byte.f t109).bind fun t111 => (if x109001_3.size + t111.size ≤ 9223372036854775807 then (spec_l4Reverse.l2 k3 a1 x6_1 x7_2 (wrap64 (x8_3 + 1)) a0_0 a0_1 a0_0 (x109001_3 ++ t111)) else (none)))) else (none)) else (none)) = some (r1, r2) := by first | (rw [hji24] at H; exact H) | (simp only [hji24] at H ⊢; exact H)
     (try rw [hji24] at A20)
     by_cases c25 : 0 ≤ (ji24)
     ·rw [if_pos c25] at H
      have c25b0 := eq_true c25
      have c25b1 : decide (0 ≤ (ji24)) = true := decide_eq_true c25
      clear c25
      obtain ⟨ji26, hji26⟩ : ∃ j_ : Int, (shr .i64 a1 (ji24)) = j_ := ⟨_, rfl⟩
      replace H : (if 0 ≤ (IntKind.u64.wrap (x8_3)) then (if (Go.bits .and .i64 (wrap64 ((wrap64 ((ji23) + (ji26))) + (shr .i64 a1 (IntKind.u64.wrap (x8_3))))) 1) = 1 then ((spec_l3Byte.f (wrap64 (-t109))).bind fun t110 => (if x109001_3.size + t110.size ≤ 9223372036854775807 then (spec_l4Reverse.l2 k3 a1 x6_1 x7_2 (wrap64 (x8_3 + 1)) a0_0 a0_1 a0_0 (x109001_3 ++ t110)) else (none))) else ((spec_l3Byte.f t109).bind fun t111 => (if x109001_3.size + t111.size ≤ 9223372036854775807 then (spec_l4Reverse.l2 k3 a1 x6_1 x7_2 (wrap64 (x8_3 + 1)) a0_0 a0_1 a0_0 (x109001_3 ++ t111)) else (none)))) else (none)) = some (r1, r2) := by first | (rw [hji26] at H; exact H) | (simp only [hji26] at H ⊢; exact H)
      (try rw [hji26] at A20)
      have hji26_ : (a1 / 2 ^ min (ji24).toNat 64) = ji26 := hji26
      have hji26z : (ji24) ≤ 64 → (a1 / 2 ^ (ji24).toNat) = ji26 := shr_small hji26
      obtain ⟨ji27, hji27⟩ : ∃ j_ : Int, (IntKind.u64.wrap (x8_3)) = j_ := ⟨_, rfl⟩
      replace H : (if 0 ≤ (ji27) then (if (Go.bits .and .i64 (wrap64 ((wrap64 ((ji23) + (ji26))) + (shr .i64 a1 (ji27)))) 1) = 1 then ((spec_l3Byte.f (wrap64 (-t109))).bind fun t110 => (if x109001_3.size + t110.size ≤ 9223372036854775807 then (spec_l4Reverse.l2 k3 a1 x6_1 x7_2 (wrap64 (x8_3 + 1)) a0_0 a0_1 a0_0 (x109001_3 ++ t110)) else (none))) else ((spec_l3Byte.f t109).bind fun t111 => (if x109001_3.size + t111.size ≤ 9223372036854775807 then (spec_l4Reverse.l2 k3 a1 x6_1 x7_2 (wrap64 (x8_3 + 1)) a0_0 a0_1 a0_0 (x109001_3 ++ t111)) else (none)))) else (none)) = some (r1, r2) := by first | (rw [hji27] at H; exact H) | (simp only [hji27] at H ⊢; exact H)
      (try rw [hji27] at A20)
      by_cases c28 : 0 ≤ (ji27)
      ·rw [if_pos c28] at H
       have c28b0 := eq_true c28
       have c28b1 : decide (0 ≤ (ji27)) = true := decide_eq_true c28
       clear c28
       obtain ⟨ji29, hji29⟩ : ∃ j_ : Int, (shr .i64 a1 (ji27)) = j_ := ⟨_, rfl⟩
       replace H : (if (Go.bits .and .i64 (wrap64 ((wrap64 ((ji23) + (ji26))) + (ji29))) 1) = 1 then ((spec_l3Byte.f (wrap64 (-t109))).bind fun t110 => (if x109001_3.size + t110.size ≤ 9223372036854775807 then (spec_l4Reverse.l2 k3 a1 x6_1 x7_2 (wrap64 (x8_3 + 1)) a0_0 a0_1 a0_0 (x109001_3 ++ t110)) else (none))) else ((spec_l3Byte.f t109).bind fun t111 => (if x109001_3.size + t111.size ≤ 9223372036854775807 then (spec_l4Reverse.l2 k3 a1 x6_1 x7_2 (wrap64 (x8_3 + 1)) a0_0 a0_1 a0_0 (x109001_3 ++ t111)) else (none)))) = some (r1, r2) := by first | (rw [hji29] at H; exact H) | (simp only [hji29] at H ⊢; exact H)
       (try rw [hji29] at A20)
       have hji29_ : (a1 / 2 ^ min (ji27).toNat 64) = ji29 := hji29
       have hji29z : (ji27) ≤ 64 → (a1 / 2 ^ (ji27).toNat) = ji29 := shr_small hji29
       by_cases c30 : (Go.bits .and .i64 (wrap64 ((wrap64 ((ji23) + (ji26))) + (ji29))) 1) = 1
       ·rw [if_pos c30] at H
        have c30b0 : ((Go.bits .and .i64 (wrap64 ((wrap64 ((ji23) + (ji26))) + (ji29))) 1) == 1) = true := beq_iff_eq.mpr c30
        have c30b1 : ((Go.bits .and .i64 (wrap64 ((wrap64 ((ji23) + (ji26))) + (ji29))) 1) != 1) = false := bne_eq_false_iff_eq.mpr c30
        clear c30
        obtain ⟨t110, A31, H⟩ := zO H
        by_cases c32 : x109001_3.size + t110.size ≤ 9223372036854775807
        ·rw [if_pos c32] at H
         have c32b0 := eq_true c32
         have c32b1 : decide (x109001_3.size + t110.size ≤ 9223372036854775807) = true := decide_eq_true c32
         try have c32b2 : (9223372036854775807 < x109001_3.size + t110.size) = False := eq_false (Nat.not_lt.2 c32)
         have H' := Aside0.mk H; clear H
         have hnb33 := NB106_107.out
         have hnc33 := NB107_106.out
         have hnb34 := NB106_108.out
         have hnc34 := NB108_106.out
         obtain ⟨hcz35_0, hcz35_1, hfz35_0, hfz35_1⟩ := zq2 BK106.out
         try go_wp2_with (first | ((with_reducible refine gate_callee (f := 144) rfl ?_); refine zD (some 39) Try.func144 #[.agg #[.int .i64 a0_0, .string a0_1], .int .i64 x6_1, .int .i64 x7_2, .int .i64 x8_3] ?_; (with_reducible refine (spec_l3At.calls k3 a0_0 a0_1 x6_1 x7_2 x8_3 t109 _ A20.out).mono ?_); rintro e w36 ⟨rfl, hb⟩; refine ⟨_, rfl, ?_⟩; replace BK106 := zV BK106.out hb; replace BK107 := zV BK107.out hb; replace BK108 := zV BK108.out hb; replace HB := Aside0.mk (below_step (zG3 GE106.out GE107.out GE108.out) hb); (try clear hb)))
         replace BK106 := Aside0.mk (blk_drew BK106.out)
         replace BK107 := Aside0.mk (blk_drew BK107.out)
         replace BK108 := Aside0.mk (blk_drew BK108.out)
         replace HB := Aside0.mk (below_drew1 HB.out)
         refine start_ (n := 7) (S := fun w' => w'.cell? ⟨gb108, 0, none⟩ = some (.int .i64 a0_0) ∧ w'.cell? ⟨gb108, 1, none⟩ = some (.string x109001_3)) (ds := [6]) #[false, false, false, false, false, false, false] (by kernel_rfl) rfl rfl ⟨(blk_cell BK108.out 0).trans rfl, (blk_cell BK108.out 1).trans rfl⟩ (fun hHeld => ?_)
         generalize w36.drew = w37 at BK106 BK107 BK108 HB hHeld ⊢
         refine pure_ (i := 0) (N := some 58) (v := ?_) (a' := ?_) #[true, false, false, false, false, false, false] rfl rfl (by kernel_rfl) (fun _ _ _ h => h) (Or.inl ⟨by rfl, ?_⟩) ?_ ?_
         rotate_left
         ·intro w'
          go_simp
          with_reducible rfl
         rotate_left
         ·simp only [Act.put, List.setIfInBounds_toArray, List.set_cons_zero, List.set_cons_succ, i64_w, i32_w]
          rfl
         refine pure_ (i := 2) (N := some 60) (v := ?_) (a' := ?_) #[true, false, true, false, false, false, false] rfl rfl (by kernel_rfl) (fun _ _ _ h => h) (Or.inl ⟨by rfl, ?_⟩) ?_ ?_
         rotate_left
         ·intro w'
          go_simp
          with_reducible rfl
         rotate_left
         ·simp only [Act.put, List.setIfInBounds_toArray, List.set_cons_zero, List.set_cons_succ, i64_w, i32_w]
          rfl
         refine take_ (i := 1) (N := some 59) (v := ?_) (a' := ?_) #[true, true, true, false, false, false, false] rfl rfl (by kernel_rfl) (fun _ _ _ h => h) (Or.inl ⟨by rfl, ?_⟩) hHeld ?_ ?_
         rotate_left
         ·rintro w' ⟨s0, s1⟩
          go_simp
          with_reducible rfl
         rotate_left
         ·simp only [Act.put, List.setIfInBounds_toArray, List.set_cons_zero, List.set_cons_succ, i64_w, i32_w]
          rfl
         refine one_ (i := 3) (N := some 61) #[true, true, true, true, false, false, false] rfl rfl (by kernel_rfl) (by decide) (fun K hK => ?_)
         refine goes_ Try.func102 (by kernel_rfl) rfl #[.int .i64 (wrap64 (-t109))] (by rfl) rfl rfl zM ?_
         with_reducible refine (spec_l3Byte.calls (wrap64 (-t109)) t110 _ A31.out).mono ?_
         rintro e w' ⟨rfl, ⟨nd, rfl⟩⟩
         refine ⟨_, rfl, ?_⟩
         refine hK.out _ _ (zh2 BK108.out) (fun hHeld => ?_)
         clear hK K
         refine zN ?_
         refine pure_ (i := 4) (N := some 62) (v := ?_) (a' := ?_) #[true, true, true, true, true, false, false] rfl rfl (by kernel_rfl) (fun _ _ _ h => h) (Or.inl ⟨by rfl, ?_⟩) ?_ ?_
         rotate_left
         ·intro w'
          go_simp
          with_reducible rfl
         rotate_left
         ·simp only [Act.put, List.setIfInBounds_toArray, List.set_cons_zero, List.set_cons_succ, i64_w, i32_w]
          rfl
         refine pure_ (i := 5) (N := some 63) (v := ?_) (a' := ?_) #[true, true, true, true, true, true, false] rfl rfl (by kernel_rfl) (fun _ _ _ h => h) (Or.inl ⟨by rfl, ?_⟩) ?_ ?_
         rotate_left
         ·intro w'
          go_simp
          with_reducible rfl
         rotate_left
         ·simp only [Act.put, List.setIfInBounds_toArray, List.set_cons_zero, List.set_cons_succ, i64_w, i32_w]
          rfl
         refine last_ (i := 6) (N := none) #[true, true, true, true, true, true, true] rfl rfl (by kernel_rfl) (by decide) (fun K hK => ?_)
         have hs38 : w37.cell? ⟨gb108, 1, none⟩ = some (.string x109001_3) := (blk_cell BK108.out 1).trans rfl
         have hfs38 := blk_frozen BK108.out 1
         have hns38_0 := NB106_108.out
         have hns38_1 := NB107_108.out
         have hms38_0 := NB108_106.out
         have hms38_1 := NB108_107.out
         refine skip_ (w1 := ?_) (by rfl) rfl ?_ ?_
         rotate_left
         ·go_simp
          rfl
         refine hK.out _ _ ?_
         clear hK K
         refine done_ (by kernel_rfl) ?_
         try go_wp2
         go_roundg k3
         case measure => have := HK1.out; have := HK2.out; have := HK3.out; omega
         case rel => exact ⟨(wrap64 (x8_3 + 1)), (x109001_3 ++ t110), zF, H', ⟨by have := HK1.out; have := HK2.out; have := HK3.out; omega⟩, ⟨zk1 BK106.out NB106_108.out⟩, ⟨zk1 BK107.out NB107_108.out⟩, ⟨zk0 BK108.out⟩, ⟨zG3 GE106.out GE107.out GE108.out⟩⟩
        rw [if_neg c32] at H
        exact absurd H (by simp)
       rw [if_neg c30] at H
       have c30b0 : ((Go.bits .and .i64 (wrap64 ((wrap64 ((ji23) + (ji26))) + (ji29))) 1) == 1) = false := beq_eq_false_iff_ne.mpr c30
       have c30b1 : ((Go.bits .and .i64 (wrap64 ((wrap64 ((ji23) + (ji26))) + (ji29))) 1) != 1) = true := bne_iff_ne.mpr c30
       obtain ⟨t111, A39, H⟩ := zO H
       by_cases c40 : x109001_3.size + t111.size ≤ 9223372036854775807
       ·rw [if_pos c40] at H
        have c40b0 := eq_true c40
        have c40b1 : decide (x109001_3.size + t111.size ≤ 9223372036854775807) = true := decide_eq_true c40
        try have c40b2 : (9223372036854775807 < x109001_3.size + t111.size) = False := eq_false (Nat.not_lt.2 c40)
        have H' := Aside0.mk H; clear H
        have hnb41 := NB106_107.out
        have hnc41 := NB107_106.out
        have hnb42 := NB106_108.out
        have hnc42 := NB108_106.out
        obtain ⟨hcz43_0, hcz43_1, hfz43_0, hfz43_1⟩ := zq2 BK106.out
        try go_wp2_with (first | ((with_reducible refine gate_callee (f := 144) rfl ?_); refine zD (some 39) Try.func144 #[.agg #[.int .i64 a0_0, .string a0_1], .int .i64 x6_1, .int .i64 x7_2, .int .i64 x8_3] ?_; (with_reducible refine (spec_l3At.calls k3 a0_0 a0_1 x6_1 x7_2 x8_3 t109 _ A20.out).mono ?_); rintro e w44 ⟨rfl, hb⟩; refine ⟨_, rfl, ?_⟩; replace BK106 := zV BK106.out hb; replace BK107 := zV BK107.out hb; replace BK108 := zV BK108.out hb; replace HB := Aside0.mk (below_step (zG3 GE106.out GE107.out GE108.out) hb); (try clear hb)))
        replace BK106 := Aside0.mk (blk_drew BK106.out)
        replace BK107 := Aside0.mk (blk_drew BK107.out)
        replace BK108 := Aside0.mk (blk_drew BK108.out)
        replace HB := Aside0.mk (below_drew1 HB.out)
        refine start_ (n := 7) (S := fun w' => w'.cell? ⟨gb108, 0, none⟩ = some (.int .i64 a0_0) ∧ w'.cell? ⟨gb108, 1, none⟩ = some (.string x109001_3)) (ds := [6]) #[false, false, false, false, false, false, false] (by kernel_rfl) rfl rfl ⟨(blk_cell BK108.out 0).trans rfl, (blk_cell BK108.out 1).trans rfl⟩ (fun hHeld => ?_)
        generalize w44.drew = w45 at BK106 BK107 BK108 HB hHeld ⊢
        refine pure_ (i := 0) (N := some 58) (v := ?_) (a' := ?_) #[true, false, false, false, false, false, false] rfl rfl (by kernel_rfl) (fun _ _ _ h => h) (Or.inl ⟨by rfl, ?_⟩) ?_ ?_
        rotate_left
        ·intro w'
         go_simp
         with_reducible rfl
        rotate_left
        ·simp only [Act.put, List.setIfInBounds_toArray, List.set_cons_zero, List.set_cons_succ, i64_w, i32_w]
         rfl
        refine pure_ (i := 2) (N := some 60) (v := ?_) (a' := ?_) #[true, false, true, false, false, false, false] rfl rfl (by kernel_rfl) (fun _ _ _ h => h) (Or.inl ⟨by rfl, ?_⟩) ?_ ?_
        rotate_left
        ·intro w'
         go_simp
         with_reducible rfl
        rotate_left
        ·simp only [Act.put, List.setIfInBounds_toArray, List.set_cons_zero, List.set_cons_succ, i64_w, i32_w]
         rfl
        refine take_ (i := 1) (N := some 59) (v := ?_) (a' := ?_) #[true, true, true, false, false, false, false] rfl rfl (by kernel_rfl) (fun _ _ _ h => h) (Or.inl ⟨by rfl, ?_⟩) hHeld ?_ ?_
        rotate_left
        ·rintro w' ⟨s0, s1⟩
         go_simp
         with_reducible rfl
        rotate_left
        ·simp only [Act.put, List.setIfInBounds_toArray, List.set_cons_zero, List.set_cons_succ, i64_w, i32_w]
         rfl
        refine one_ (i := 3) (N := some 61) #[true, true, true, true, false, false, false] rfl rfl (by kernel_rfl) (by decide) (fun K hK => ?_)
        refine goes_ Try.func102 (by kernel_rfl) rfl #[.int .i64 t109] (by rfl) rfl rfl zM ?_
        with_reducible refine (spec_l3Byte.calls t109 t111 _ A39.out).mono ?_
        rintro e w' ⟨rfl, ⟨nd, rfl⟩⟩
        refine ⟨_, rfl, ?_⟩
        refine hK.out _ _ (zh2 BK108.out) (fun hHeld => ?_)
        clear hK K
        refine zN ?_
        refine pure_ (i := 4) (N := some 62) (v := ?_) (a' := ?_) #[true, true, true, true, true, false, false] rfl rfl (by kernel_rfl) (fun _ _ _ h => h) (Or.inl ⟨by rfl, ?_⟩) ?_ ?_
        rotate_left
        ·intro w'
         go_simp
         with_reducible rfl
        rotate_left
        ·simp only [Act.put, List.setIfInBounds_toArray, List.set_cons_zero, List.set_cons_succ, i64_w, i32_w]
         rfl
        refine pure_ (i := 5) (N := some 63) (v := ?_) (a' := ?_) #[true, true, true, true, true, true, false] rfl rfl (by kernel_rfl) (fun _ _ _ h => h) (Or.inl ⟨by rfl, ?_⟩) ?_ ?_
        rotate_left
        ·intro w'
         go_simp
         with_reducible rfl
        rotate_left
        ·simp only [Act.put, List.setIfInBounds_toArray, List.set_cons_zero, List.set_cons_succ, i64_w, i32_w]
         rfl
        refine last_ (i := 6) (N := none) #[true, true, true, true, true, true, true] rfl rfl (by kernel_rfl) (by decide) (fun K hK => ?_)
        have hs46 : w45.cell? ⟨gb108, 1, none⟩ = some (.string x109001_3) := (blk_cell BK108.out 1).trans rfl
        have hfs46 := blk_frozen BK108.out 1
        have hns46_0 := NB106_108.out
        have hns46_1 := NB107_108.out
        have hms46_0 := NB108_106.out
        have hms46_1 := NB108_107.out
        refine skip_ (w1 := ?_) (by rfl) rfl ?_ ?_
        rotate_left
        ·go_simp
         rfl
        refine hK.out _ _ ?_
        clear hK K
        refine done_ (by kernel_rfl) ?_
        try go_wp2
        go_roundg k3
        case measure => have := HK1.out; have := HK2.out; have := HK3.out; omega
        case rel => exact ⟨(wrap64 (x8_3 + 1)), (x109001_3 ++ t111), zF, H', ⟨by have := HK1.out; have := HK2.out; have := HK3.out; omega⟩, ⟨zk1 BK106.out NB106_108.out⟩, ⟨zk1 BK107.out NB107_108.out⟩, ⟨zk0 BK108.out⟩, ⟨zG3 GE106.out GE107.out GE108.out⟩⟩
       rw [if_neg c40] at H
       exact absurd H (by simp)
      rw [if_neg c28] at H
      exact absurd H (by simp)
     rw [if_neg c25] at H
     exact absurd H (by simp)
    rw [if_neg c22] at H
    exact absurd H (by simp)
   rw [if_neg c19] at H
   have c19b0 : decide (x8_3 < a0_0) = false := decide_eq_false c19
   clear c19
   have H' := Aside0.mk H; clear H
   have hnb47 := NB106_107.out
   have hnc47 := NB107_106.out
   have hnb48 := NB106_108.out
   have hnc48 := NB108_106.out
   obtain ⟨hcz49_0, hcz49_1, hfz49_0, hfz49_1⟩ := zq2 BK106.out
   go_wp2
   go_roundg k3
   case measure => have := HK1.out; have := HK2.out; have := HK3.out; omega
   case rel => exact ⟨(wrap64 (x7_2 + 1)), (x109001_3), zF, H', ⟨by have := HK1.out; have := HK2.out; have := HK3.out; omega⟩, ⟨zK BK106.out⟩, ⟨zK BK107.out⟩, ⟨zK BK108.out⟩, ⟨zG3 GE106.out GE107.out GE108.out⟩⟩
  rw [if_neg c15] at H
  have c15b0 : decide (x7_2 < a0_0) = false := decide_eq_false c15
  clear c15
  have H' := Aside0.mk H; clear H
  have hnb50 := NB106_107.out
  have hnc50 := NB107_106.out
  have hnb51 := NB106_108.out
  have hnc51 := NB108_106.out
  obtain ⟨hcz52_0, hcz52_1, hfz52_0, hfz52_1⟩ := zq2 BK106.out
  go_wp2
  go_roundg k2
  case measure => have := HK1.out; have := HK2.out; omega
  case rel => exact ⟨(wrap64 (x6_1 + 1)), (x109001_2), zF, H', ⟨by have := HK1.out; have := HK2.out; omega⟩, ⟨zK BK106.out⟩, ⟨zK BK107.out⟩, ⟨zK BK108.out⟩, ⟨zG3 GE106.out GE107.out GE108.out⟩⟩
 rw [if_neg c11] at H
 have c11b0 : decide (x6_1 < a0_0) = false := decide_eq_false c11
 clear c11
 simp only [Option.some.injEq, Prod.mk.injEq] at H
 obtain ⟨rfl, rfl⟩ := H
 have hnb53 := NB106_107.out
 have hnc53 := NB107_106.out
 have hnb54 := NB106_108.out
 have hnc54 := NB108_106.out
 obtain ⟨hcz55_0, hcz55_1, hfz55_0, hfz55_1⟩ := zq2 BK106.out
 have hnb56 := NB108_107.out
 have hnc56 := NB107_108.out
 obtain ⟨hcz57_0, hcz57_1, hfz57_0, hfz57_1⟩ := zq2 BK108.out
 obtain ⟨hcz58_0, hcz58_1, hfz58_0, hfz58_1⟩ := zq2 BK107.out
 go_wp2
 refine bodyPost_ret (results_cell_row rfl _ _ gb107 25 #[.int .i64 a0_0, .string x109001_1] (0, 0) _ rfl (zk0 BK107.out) Try.underlying25 rfl (by kernel_rfl)) rfl ?_
 exact ⟨zE, zG3 GE106.out GE107.out GE108.out⟩
/-! ### spec_l4Draw: function 80 -/
def spec_l4Draw.j0 : Nat → Bool → List Int → Int → Int → Int → ByteArray → Option (Int × ByteArray × Int × Int)
 | 0, _, _, _, _, _, _ => none
 | k + 1, x11, x1000, x1001, x1002, x233000, x233001 => if x11 = true then ((spec_l1Below.f x1000 x1001 x1002 x233000).bind fun bt237 => (if 0 ≤ (IntKind.u64.wrap (bt237.1)) then ((spec_l4Reverse.f k x233000 x233001 (shl .i64 1 (IntKind.u64.wrap (bt237.1)))).bind fun bt240 => (some (bt240.1, bt240.2, bt237.2.1, bt237.2.2))) else (none))) else (some (x233000, x233001, x1001, x1002))
def spec_l4Draw.f (k : Nat) (s0_0 : List Int) (s0_1 : Int) (s0_2 : Int) : Option (Int × ByteArray × Int × Int) := (spec_l3Bent.f k s0_0 s0_1 s0_2).bind fun bt228 => ((spec_AreSigns.f k bt228.1 bt228.2.1).bind fun t233 => (if t233 = true then ((spec_l1Once.f s0_0 bt228.2.2.1 bt228.2.2.2 4).bind fun bt234 => (spec_l4Draw.j0 k bt234.1 s0_0 bt234.2.1 bt234.2.2 bt228.1 bt228.2.1)) else (spec_l4Draw.j0 k false s0_0 bt228.2.2.1 bt228.2.2.2 bt228.1 bt228.2.1)))
def spec_l4Draw.T3 : Bool × List (List Nat × List Nat) := (true, [([], []), ([], []), ([], []), ([2], [2]), ([1, 3], [1, 3]), ([4], [4]), ([5], [5]), ([0, 6, 4], [0, 6]), ([7, 7, 0, 1, 2, 3, 4, 5, 6, 7], [7])])
def spec_l4Draw.B3 : List Nat := [0, 0, 0, 4, 14, 30, 62, 127, 255]
theorem spec_l4Draw.tab3 : rtab .any (opsOf Try.f80 3) = spec_l4Draw.T3 := by kernel_rfl
theorem spec_l4Draw.bits3 : waitsOk spec_l4Draw.T3.2 spec_l4Draw.B3 = true := by kernel_rfl
theorem zl22_0 {p q : Prop} (g : p) (h : p → q := by intro zg_; repeat (first | (with_reducible first | exact zg_ | apply IsS110.alloc | apply IsS110.drewN | apply IsS110.drew | apply IsS110.set_1 | apply IsS110.set_2) | exact zg_)) : q := h g
theorem zl22_1 {p q : Prop} (g : p) (h : p → q := by intro zg_; repeat (first | (with_reducible first | exact zg_ | apply KeepBut.set_ | apply keep_drewN | apply keep_drew | apply keep_alloc) | exact zg_)) : q := h g
theorem zl22_2 {p q p0 : Prop} (g : p) (g0 : p0) (h : p → p0 → q := by intro zg_ z0_; repeat (first | (with_reducible first | exact zg_ | apply IsS110.alloc | apply IsS110.drewN | apply IsS110.drew | apply IsS110.set_1 | apply IsS110.set_2 | refine IsS110.far ?_ z0_ _) | exact zg_)) : q := h g g0
theorem zl22_3 {p q p0 p1 : Prop} (g : p) (g0 : p0) (g1 : p1) (h : p → p0 → p1 → q := by intro zg_ z0_ z1_; repeat (first | (with_reducible first | exact zg_ | apply below_alloc | apply pw_below_drewN | apply below_drew1 | refine below_set ?_ z0_ | refine below_set ?_ z1_) | exact zg_)) : q := h g g0 g1
theorem zl22_4 {p q p0 : Prop} (g : p) (g0 : p0) (h : p → p0 → q := by intro zg_ z0_; repeat (first | (with_reducible first | exact zg_ | apply KeepBut.set_ | apply keep_drewN | apply keep_drew | apply keep_alloc | refine keep_far ?_ z0_ _) | exact zg_)) : q := h g g0
theorem zl22_5 {p q p0 p1 : Prop} (g : p) (g0 : p0) (g1 : p1) (h : p → p0 → p1 → q := by intro zg_ z0_ z1_; repeat (first | (with_reducible first | exact zg_ | apply IsS110.alloc | apply IsS110.drewN | apply IsS110.drew | apply IsS110.set_1 | apply IsS110.set_2 | refine IsS110.far ?_ z0_ _ | refine IsS110.far ?_ z1_ _) | exact zg_)) : q := h g g0 g1
theorem zl22_6 {p q p0 p1 : Prop} (g : p) (g0 : p0) (g1 : p1) (h : p → p0 → p1 → q := by intro zg_ z0_ z1_; repeat (first | (with_reducible first | exact zg_ | apply KeepBut.set_ | apply keep_drewN | apply keep_drew | apply keep_alloc | refine keep_far ?_ z0_ _ | refine keep_far ?_ z1_ _) | exact zg_)) : q := h g g0 g1
theorem zl22_7 {p q p0 p1 p2 : Prop} (g : p) (g0 : p0) (g1 : p1) (g2 : p2) (h : p → p0 → p1 → p2 → q := by intro zg_ z0_ z1_ z2_; repeat (first | (with_reducible first | exact zg_ | apply below_alloc | apply pw_below_drewN | apply below_drew1 | refine below_set ?_ z0_ | refine below_set ?_ z1_ | refine below_set ?_ z2_) | exact zg_)) : q := h g g0 g1 g2
set_option maxHeartbeats 8000000 in
set_option maxRecDepth 100000 in
theorem spec_l4Draw.calls (k : Nat) (g : Nat) (s0_0 : List Int) (s0_1 : Int) (s0_2 : Int) (r1 : Int) (r2 : ByteArray) (r3 : Int) (r4 : Int) (w0 w : World) (hI : IsS110 w0 w g s0_0 s0_1 s0_2) (hB : Below w0.heap.size w0 w) (h : spec_l4Draw.f k s0_0 s0_1 s0_2 = some (r1, r2, r3, r4)) :
  Calls Try.prog 80 #[.pointer (some ⟨g, 0, none⟩)] w fun e w' => e = .returned (.agg #[.int .i64 r1, .string r2]) ∧ IsS110 w0 w' g s0_0 r3 r4 ∧ Below w0.heap.size w0 w' ∧ KeepBut w w' g none := by
 have hu25 := Try.underlying25
 have HI0 := Aside0.mk hI
 have HK := Aside0.mk (KeepBut.refl w g none)
 have HL := Aside0.mk hB.size
 clear hI
 have HW0 := Aside0.mk hB.size
 have HB := Aside0.mk hB
 clear hB
 have H : ((spec_l3Bent.f k s0_0 s0_1 s0_2).bind fun bt228 => ((spec_AreSigns.f k bt228.1 bt228.2.1).bind fun t233 => (if t233 = true then ((spec_l1Once.f s0_0 bt228.2.2.1 bt228.2.2.2 4).bind fun bt234 => (spec_l4Draw.j0 k bt234.1 s0_0 bt234.2.1 bt234.2.2 bt228.1 bt228.2.1)) else (spec_l4Draw.j0 k false s0_0 bt228.2.2.1 bt228.2.2.2 bt228.1 bt228.2.1)))) = some (r1, r2, r3, r4) := h
 clear h
 obtain ⟨⟨t228, t229, t230, t231⟩, A2, H⟩ := zO H
 dsimp only at H
 have HC3 := Aside0.mk H
 clear H
 go_enter Try.func80, Try.ntmps80
 go_upto_region 2 with (first | ((with_reducible refine gate_dst (N := 2) rfl ?_); refine zBx (N := 2) #[.int .i64 0, .string (⟨#[]⟩ : ByteArray)] 25 ?_; intro gb227 hg w4 hbox hb; have n0_ := Aside0.mk (IsS110.below (zl22_0 HI0.out) hb); have n1_ := Aside0.mk (KeepBut.trans (zl22_1 HK.out) (KeepBut.of_below hb g none) (.inl rfl)); have n2_ := Aside0.mk (below_step (zG (IsS110.ge HI0.out)) hb); have n3_ := Aside0.mk (hbox); have n4_ := Aside0.mk ((by rw [hg]; exact (keep_size (w := w) (g := g) (row := none) (zl22_1 HK.out)) : w.heap.size ≤ gb227)); have n5_ := Aside0.mk ((Nat.le_trans HW0.out (by rw [hg]; exact (keep_size (w := w) (g := g) (row := none) (zl22_1 HK.out)) : w.heap.size ≤ gb227) : w0.heap.size ≤ gb227)); have n6_ := Aside0.mk ((by rw [hg]; exact Nat.ne_of_lt (IsS110.lt (show IsS110 w0 _ g s0_0 s0_1 s0_2 from (zl22_0 HI0.out))) : g ≠ gb227)); have n7_ := Aside0.mk ((by rw [hg]; exact Nat.ne_of_gt (IsS110.lt (show IsS110 w0 _ g s0_0 s0_1 s0_2 from (zl22_0 HI0.out))) : gb227 ≠ g)); clear HI0; clear HK; clear HB; have HI0 := n0_; have HK := n1_; have HB := n2_; have BK227 := n3_; have GW227 := n4_; have GE227 := n5_; have NB0_227 := n6_; have NB227_0 := n7_; clear n0_ n1_ n2_ n3_ n4_ n5_ n6_ n7_; clear hb hbox hg) | ((with_reducible refine gate_callee (f := 141) rfl ?_); refine zD (some 5) Try.func141 #[.pointer (some ⟨g, 0, none⟩)] ?_; (with_reducible refine (spec_l3Bent.calls k g s0_0 s0_1 s0_2 t228 t229 t230 t231 w0 _ ?side1 ?side2 A2.out).mono ?_); (case side1 => exact (zl22_2 HI0.out NB0_227.out)); (case side2 => exact (zl22_3 HB.out (IsS110.ge HI0.out) GE227.out)); rintro e w5 ⟨rfl, hi, hb, hk⟩; refine ⟨_, rfl, ?_⟩; replace BK227 := zKB hk BK227.out NB227_0.out; replace HK := Aside0.mk (KeepBut.trans (zl22_4 HK.out GW227.out) hk (.inl rfl)); replace HI0 := Aside0.mk (hi); replace HB := Aside0.mk (hb); (try clear hb); (try clear hk); (try clear hi)) | ((with_reducible refine gate_dst (N := 3) rfl ?_); refine zBx (N := 3) #[.int .i64 0, .string (⟨#[]⟩ : ByteArray)] 25 ?_; intro gb232 hg w6 hbox hb; have n0_ := Aside0.mk (IsS110.below (zl22_2 HI0.out NB0_227.out) hb); have n1_ := zV BK227.out hb; have n2_ := Aside0.mk (KeepBut.trans (zl22_4 HK.out GW227.out) (KeepBut.of_below hb g none) (.inl rfl)); have n3_ := Aside0.mk (below_step (zG2 (IsS110.ge HI0.out) GE227.out) hb); have n4_ := Aside0.mk (hbox); have n5_ := Aside0.mk ((by rw [hg]; exact (keep_size (w := w) (g := g) (row := none) (zl22_4 HK.out GW227.out)) : w.heap.size ≤ gb232)); have n6_ := Aside0.mk ((Nat.le_trans HW0.out (by rw [hg]; exact (keep_size (w := w) (g := g) (row := none) (zl22_4 HK.out GW227.out)) : w.heap.size ≤ gb232) : w0.heap.size ≤ gb232)); have n7_ := zL hg BK227.out; have n8_ := zLg hg BK227.out; have n9_ := Aside0.mk ((by rw [hg]; exact Nat.ne_of_lt (IsS110.lt (show IsS110 w0 _ g s0_0 t230 t231 from (zl22_2 HI0.out NB0_227.out))) : g ≠ gb232)); have n10_ := Aside0.mk ((by rw [hg]; exact Nat.ne_of_gt (IsS110.lt (show IsS110 w0 _ g s0_0 t230 t231 from (zl22_2 HI0.out NB0_227.out))) : gb232 ≠ g)); clear HI0; clear BK227; clear HK; clear HB; have HI0 := n0_; have BK227 := n1_; have HK := n2_; have HB := n3_; have BK232 := n4_; have GW232 := n5_; have GE232 := n6_; have NB227_232 := n7_; have NB232_227 := n8_; have NB0_232 := n9_; have NB232_0 := n10_; clear n0_ n1_ n2_ n3_ n4_ n5_ n6_ n7_ n8_ n9_ n10_; clear hb hbox hg; have hnb7 := NB232_227.out; have hnc7 := NB227_232.out; have hnb8 := NB232_0.out; have hnc8 := NB0_232.out; obtain ⟨hcz9_0, hcz9_1, hfz9_0, hfz9_1⟩ := zq2 BK232.out))
 (try simp only [Act.put, List.setIfInBounds_toArray, List.set_cons_zero, List.set_cons_succ])
 go_cut [11] (fun v11 wc => ∃ (kq : Nat) (x11_2 : Bool) (x1001_2 : Int) (x1002_2 : Int), v11 = .bool x11_2 ∧ Aside0 (spec_l4Draw.j0 kq x11_2 s0_0 x1001_2 x1002_2 t228 t229 = some (r1, r2, r3, r4)) ∧ Aside0 (kq ≤ k) ∧ Aside0 (wc.heap[gb227]? = some (.cells #[.int .i64 0, .string (⟨#[]⟩ : ByteArray)] 25 (0, 0))) ∧ Aside0 (wc.heap[gb232]? = some (.cells #[.int .i64 t228, .string t229] 25 (0, 0))) ∧ Aside0 (IsS110 w0 wc g s0_0 x1001_2 x1002_2) ∧ Aside0 (KeepBut w wc g none) ∧ Aside0 (Below w0.heap.size w0 wc))
 case first =>
  have H := HC3.out
  clear HC3
  obtain ⟨t233, A10, H⟩ := zO H
  by_cases c11 : t233 = true
  ·subst c11
   replace H := (if_pos rfl).symm.trans H
   obtain ⟨⟨t234, t235, t236⟩, A12, H⟩ := zO H
   replace H : (spec_l4Draw.j0 k t234 s0_0 t235 t236 t228 t229) = some (r1, r2, r3, r4) := H
   have H' := Aside0.mk H; clear H
   have hnb13 := NB232_227.out
   have hnc13 := NB227_232.out
   have hnb14 := NB232_0.out
   have hnc14 := NB0_232.out
   obtain ⟨hcz15_0, hcz15_1, hfz15_0, hfz15_1⟩ := zq2 BK232.out
   go_wp2_with (first | ((with_reducible refine gate_callee (f := 25) rfl ?_); refine zD (some 7) Try.func25 #[.agg #[.int .i64 t228, .string t229]] ?_; (with_reducible refine (spec_AreSigns.calls k t228 t229 true _ A10.out).mono ?_); rintro e w16 ⟨rfl, hb⟩; refine ⟨_, rfl, ?_⟩; have n0_ := Aside0.mk (IsS110.below (show IsS110 w0 ((w6.setCell ⟨gb232, 0, none⟩ (.int .i64 t228)).setCell ⟨gb232, 1, none⟩ (.string t229)) g s0_0 t230 t231 from (zl22_5 HI0.out NB0_227.out NB0_232.out)) hb); have n1_ := Aside0.mk (blk_below (g := gb227) (o := .cells #[.int .i64 0, .string (⟨#[]⟩ : ByteArray)] 25 (0, 0)) (zk2 BK227.out NB227_232.out NB227_232.out) hb); have n2_ := Aside0.mk (blk_below (g := gb232) (o := .cells #[.int .i64 t228, .string t229] 25 (0, 0)) (zk0 BK232.out) hb); have n3_ := Aside0.mk (KeepBut.trans (zl22_6 HK.out GW227.out GW232.out) (KeepBut.of_below hb g none) (.inl rfl)); have n4_ := Aside0.mk (below_step (zG3 (IsS110.ge HI0.out) GE227.out GE232.out) hb); clear HI0; clear BK227; clear BK232; clear HK; clear HB; have HI0 := n0_; have BK227 := n1_; have BK232 := n2_; have HK := n3_; have HB := n4_; clear n0_ n1_ n2_ n3_ n4_; (try clear hb)) | (go_at_call 127; (with_reducible refine (spec_l1Once.calls g s0_0 t230 t231 4 t234 t235 t236 w0 _ ?side1 ?side2 A12.out).mono ?_); (case side1 => exact (zl22_5 HI0.out NB0_227.out NB0_232.out)); (case side2 => exact (zl22_7 HB.out (IsS110.ge HI0.out) GE227.out GE232.out)); rintro e w17 ⟨rfl, hi, hb, hk⟩; replace BK227 := zKB hk BK227.out NB227_0.out; replace BK232 := zKB hk BK232.out NB232_0.out; replace HK := Aside0.mk (KeepBut.trans (zl22_6 HK.out GW227.out GW232.out) hk (.inl rfl)); replace HI0 := Aside0.mk (hi); replace HB := Aside0.mk (hb); (try clear hb); (try clear hb2); (try clear hk); (try clear hi)))
   go_meet
   case rel => exact ⟨_, (t234), (t235), (t236), zF, H', ⟨by first | omega | exact Nat.le_refl _⟩, ⟨zK BK227.out⟩, ⟨zK BK232.out⟩, ⟨(zl22_5 HI0.out NB0_227.out NB0_232.out)⟩, ⟨(zl22_6 HK.out GW227.out GW232.out)⟩, ⟨zG3 (IsS110.ge HI0.out) GE227.out GE232.out⟩⟩
  replace c11 := Bool.eq_false_iff.mpr c11
  subst c11
  replace H := (if_neg zFf).symm.trans H
  have H' := Aside0.mk H; clear H
  have hnb18 := NB232_227.out
  have hnc18 := NB227_232.out
  have hnb19 := NB232_0.out
  have hnc19 := NB0_232.out
  obtain ⟨hcz20_0, hcz20_1, hfz20_0, hfz20_1⟩ := zq2 BK232.out
  go_wp2_with (first | ((with_reducible refine gate_callee (f := 25) rfl ?_); refine zD (some 7) Try.func25 #[.agg #[.int .i64 t228, .string t229]] ?_; (with_reducible refine (spec_AreSigns.calls k t228 t229 false _ A10.out).mono ?_); rintro e w21 ⟨rfl, hb⟩; refine ⟨_, rfl, ?_⟩; have n0_ := Aside0.mk (IsS110.below (show IsS110 w0 ((w6.setCell ⟨gb232, 0, none⟩ (.int .i64 t228)).setCell ⟨gb232, 1, none⟩ (.string t229)) g s0_0 t230 t231 from (zl22_5 HI0.out NB0_227.out NB0_232.out)) hb); have n1_ := Aside0.mk (blk_below (g := gb227) (o := .cells #[.int .i64 0, .string (⟨#[]⟩ : ByteArray)] 25 (0, 0)) (zk2 BK227.out NB227_232.out NB227_232.out) hb); have n2_ := Aside0.mk (blk_below (g := gb232) (o := .cells #[.int .i64 t228, .string t229] 25 (0, 0)) (zk0 BK232.out) hb); have n3_ := Aside0.mk (KeepBut.trans (zl22_6 HK.out GW227.out GW232.out) (KeepBut.of_below hb g none) (.inl rfl)); have n4_ := Aside0.mk (below_step (zG3 (IsS110.ge HI0.out) GE227.out GE232.out) hb); clear HI0; clear BK227; clear BK232; clear HK; clear HB; have HI0 := n0_; have BK227 := n1_; have BK232 := n2_; have HK := n3_; have HB := n4_; clear n0_ n1_ n2_ n3_ n4_; (try clear hb)))
  go_meet
  case rel => exact ⟨_, (false), (t230), (t231), zF, H', ⟨by first | omega | exact Nat.le_refl _⟩, ⟨zK BK227.out⟩, ⟨zK BK232.out⟩, ⟨(zl22_5 HI0.out NB0_227.out NB0_232.out)⟩, ⟨(zl22_6 HK.out GW227.out GW232.out)⟩, ⟨zG3 (IsS110.ge HI0.out) GE227.out GE232.out⟩⟩
 case rest =>
 clear HC3
 try clear hcz9_0
 try clear hcz9_1
 try clear hfz9_0
 try clear hfz9_1
 obtain ⟨kq, x11_2, x1001_2, x1002_2, rfl, HA, HJ2, BK227, BK232, HI0, HK, HB⟩ := hcut
 cases kq with
 | zero => exact absurd HA.out (by simp [spec_l4Draw.j0])
 | succ kj2 =>
 have H := HA.out
 clear HA
 simp only [spec_l4Draw.j0] at H
 by_cases c22 : x11_2 = true
 ·subst c22
  replace H := (if_pos rfl).symm.trans H
  obtain ⟨⟨t237, t238, t239⟩, A23, H⟩ := zO H
  dsimp only at H
  obtain ⟨ji24, hji24⟩ : ∃ j_ : Int, (IntKind.u64.wrap (t237)) = j_ := ⟨_, rfl⟩
  replace H : (if 0 ≤ (ji24) then ((spec_l4Reverse.f kj2 t228 t229 (shl .i64 1 (ji24))).bind fun bt240 => (some (bt240.1, bt240.2, t238, t239))) else (none)) = some (r1, r2, r3, r4) := by first | (rw [hji24] at H; exact H) | (simp only [hji24] at H ⊢; exact H)
  (try rw [hji24] at A23)
  by_cases c25 : 0 ≤ (ji24)
  ·rw [if_pos c25] at H
   have c25b0 := eq_true c25
   have c25b1 : decide (0 ≤ (ji24)) = true := decide_eq_true c25
   clear c25
   obtain ⟨ji26, hji26⟩ : ∃ j_ : Int, (shl .i64 1 (ji24)) = j_ := ⟨_, rfl⟩
   replace H : ((spec_l4Reverse.f kj2 t228 t229 (ji26)).bind fun bt240 => (some (bt240.1, bt240.2, t238, t239))) = some (r1, r2, r3, r4) := by first | (rw [hji26] at H; exact H) | (simp only [hji26] at H ⊢; exact H)
   (try rw [hji26] at A23)
   have hji26_ : (IntKind.i64.wrap (1 * 2 ^ min (ji24).toNat 64)) = ji26 := hji26
   have hji26z : (ji24) ≤ 64 → (IntKind.i64.wrap (1 * 2 ^ (ji24).toNat)) = ji26 := shl_small hji26
   have hji26u : (IntKind.i64.wrap (2 ^ min (ji24).toNat 64)) = ji26 := by have h_ := hji26_; rw [Int.one_mul] at h_; exact h_
   have hji26v : (ji24) ≤ 64 → (IntKind.i64.wrap (2 ^ (ji24).toNat)) = ji26 := fun hle_ => by have h_ := hji26z hle_; rw [Int.one_mul] at h_; exact h_
   have hji26y : (wrap64 (1 * 2 ^ min (ji24).toNat 64)) = ji26 := (i64_w _).symm.trans hji26_
   have hji26x : (ji24) ≤ 64 → (wrap64 (1 * 2 ^ (ji24).toNat)) = ji26 := fun h_ => (i64_w _).symm.trans (hji26z h_)
   obtain ⟨⟨t240, t241⟩, A27, H⟩ := zO H
   replace H : (some (t240, t241, t238, t239)) = some (r1, r2, r3, r4) := H
   simp only [Option.some.injEq, Prod.mk.injEq] at H
   obtain ⟨rfl, rfl, rfl, rfl⟩ := H
   try go_wp2
   replace BK227 := Aside0.mk (blk_drew BK227.out)
   replace BK232 := Aside0.mk (blk_drew BK232.out)
   replace HI0 := Aside0.mk (IsS110.drew HI0.out)
   replace HK := Aside0.mk (keep_drew HK.out)
   replace HB := Aside0.mk (below_drew1 HB.out)
   refine start_ (n := 9) (S := fun w' => w'.cell? ⟨gb232, 0, none⟩ = some (.int .i64 t228) ∧ w'.cell? ⟨gb232, 1, none⟩ = some (.string t229)) (ds := []) #[false, false, false, false, false, false, false, false, false] (by kernel_rfl) rfl rfl ⟨(blk_cell BK232.out 0).trans rfl, (blk_cell BK232.out 1).trans rfl⟩ (fun hHeld => ?_); refine with_tabW spec_l4Draw.tab3 spec_l4Draw.bits3 (fun HT_ HW_ => ?_)
   generalize wc.drew = w28 at BK227 BK232 HI0 HK HB hHeld ⊢
   refine zP 1 (some 13) rfl rfl ?_
   refine zP 2 (some 14) rfl rfl ?_
   refine zY2 0 (some 12) rfl rfl hHeld ?_
   refine zY2 3 (some 15) rfl rfl hHeld ?_
   refine zU 4 (some 16) rfl rfl (fun K hK => ?_)
   refine goes_ Try.func125 (by kernel_rfl) rfl #[.pointer (some ⟨g, 0, none⟩), .int .i64 t228] (by rfl) rfl rfl zM ?_
   with_reducible refine (spec_l1Below.calls g s0_0 x1001_2 x1002_2 t228 t237 t238 t239 w0 _ ?side1 ?side2 A23.out).mono ?_
   (case side1 => exact (zl22_5 HI0.out NB0_227.out NB0_232.out))
   (case side2 => exact (zl22_7 HB.out (IsS110.ge HI0.out) GE227.out GE232.out))
   rintro e w29 ⟨rfl, hi, hb, hk⟩
   refine ⟨_, rfl, ?_⟩
   replace BK227 := zKB hk BK227.out NB227_0.out
   replace BK232 := zKB hk BK232.out NB232_0.out
   replace HK := Aside0.mk (KeepBut.trans (zl22_6 HK.out GW227.out GW232.out) hk (.inl rfl))
   replace HI0 := Aside0.mk (hi)
   replace HB := Aside0.mk (hb)
   (try clear hb)
   (try clear hk)
   (try clear hi)
   refine hK.out _ _ (zh2 BK232.out) (fun hHeld => ?_)
   clear hK K
   refine zN ?_
   refine zP 5 (some 17) rfl rfl ?_
   refine zP 6 (some 18) rfl rfl ?_
   refine zU 7 (some 19) rfl rfl (fun K hK => ?_)
   refine goes_ Try.func90 (by kernel_rfl) rfl #[.agg #[.int .i64 t228, .string t229], .int .i64 ji26] (by rfl) rfl rfl (by (try simp only [List.map_toArray, List.map_cons, List.map_nil]); first | done | (simp only [hji26]; rfl) | rfl | (simp only [List.length_drop, List.length_take]; rfl)) ?_
   with_reducible refine (spec_l4Reverse.calls kj2 t228 t229 ji26 t240 t241 _ A27.out).mono ?_
   rintro e w30 ⟨rfl, hb⟩
   refine ⟨_, rfl, ?_⟩
   have n0_ := zV BK227.out hb
   have n1_ := zV BK232.out hb
   have n2_ := Aside0.mk (IsS110.below (zl22_5 HI0.out NB0_227.out NB0_232.out) hb)
   have n3_ := Aside0.mk (KeepBut.trans (zl22_6 HK.out GW227.out GW232.out) (KeepBut.of_below hb g none) (.inl rfl))
   have n4_ := Aside0.mk (below_step (zG3 (IsS110.ge HI0.out) GE227.out GE232.out) hb)
   clear BK227
   clear BK232
   clear HI0
   clear HK
   clear HB
   have BK227 := n0_
   have BK232 := n1_
   have HI0 := n2_
   have HK := n3_
   have HB := n4_
   clear n0_ n1_ n2_ n3_ n4_
   (try clear hb)
   refine hK.out _ _ (zh2 BK232.out) (fun hHeld => ?_)
   clear hK K
   refine zN ?_
   refine zU 8 none rfl rfl (fun K hK => ?_)
   have hs31 : w30.cell? ⟨gb227, 0, none⟩ = some (.int .i64 0) := (blk_cell BK227.out 0).trans rfl
   have hfs31 := blk_frozen BK227.out 0
   have hns31_1 := NB232_227.out
   have hms31_1 := NB227_232.out
   have hs32 : w30.cell? ⟨gb227, 1, none⟩ = some (.string (⟨#[]⟩ : ByteArray)) := (blk_cell BK227.out 1).trans rfl
   have hfs32 := blk_frozen BK227.out 1
   have hns32_1 := NB232_227.out
   have hms32_1 := NB227_232.out
   refine skip_ (w1 := ?_) (by rfl) rfl ?_ ?_
   rotate_left
   ·go_simp
    rfl
   refine hK.out _ _ ⟨((cell_far (p := ⟨gb227, _, none⟩) NB232_227.out _).trans (((cell_far (p := ⟨gb227, _, none⟩) NB232_227.out _).trans (hHeld.1)))), ((cell_far (p := ⟨gb227, _, none⟩) NB232_227.out _).trans (((cell_far (p := ⟨gb227, _, none⟩) NB232_227.out _).trans (hHeld.2))))⟩ (fun hHeld => ?_)
   clear hK K
   refine done_ (done_of HT_.out (by kernel_rfl)) ?_
   try go_wp2
   refine bodyPost_ret (results_cell_row rfl _ _ gb227 25 #[.int .i64 t240, .string t241] (0, 0) _ rfl (zk0 BK227.out) Try.underlying25 rfl (by kernel_rfl)) rfl ?_
   exact ⟨by first | rfl | (simp [errW_none, errW_some] <;> rfl) | (simp only [← hji24, ← hji26]; first | rfl | (simp [errW_none, errW_some] <;> rfl)) | (simp [*, errW_none, errW_some] <;> rfl), (zl22_5 HI0.out NB0_227.out NB0_232.out), zG3 (IsS110.ge HI0.out) GE227.out GE232.out, (zl22_6 HK.out GW227.out GW232.out)⟩
  rw [if_neg c25] at H
  exact absurd H (by simp)
 replace c22 := Bool.eq_false_iff.mpr c22
 subst c22
 replace H := (if_neg zFf).symm.trans H
 simp only [Option.some.injEq, Prod.mk.injEq] at H
 obtain ⟨rfl, rfl, rfl, rfl⟩ := H
 have hnb33 := NB232_227.out
 have hnc33 := NB227_232.out
 have hnb34 := NB232_0.out
 have hnc34 := NB0_232.out
 obtain ⟨hcz35_0, hcz35_1, hfz35_0, hfz35_1⟩ := zq2 BK232.out
 have hnb36 := NB227_0.out
 have hnc36 := NB0_227.out
 obtain ⟨hcz37_0, hcz37_1, hfz37_0, hfz37_1⟩ := zq2 BK227.out
 go_wp2
 refine bodyPost_ret (results_cell_row rfl _ _ gb227 25 #[.int .i64 t228, .string t229] (0, 0) _ rfl (zk0 BK227.out) Try.underlying25 rfl (by kernel_rfl)) rfl ?_
 exact ⟨zE, (zl22_5 HI0.out NB0_227.out NB0_232.out), zG3 (IsS110.ge HI0.out) GE227.out GE232.out, (zl22_6 HK.out GW227.out GW232.out)⟩
/-! ### spec_l5Draw: function 109 -/
def spec_l5Draw.f (k : Nat) (s0_0 : List Int) (s0_1 : Int) (s0_2 : Int) : Option (Int × ByteArray × Int × Int) := (spec_l1Once.f s0_0 s0_1 s0_2 8).bind fun bt672 => (if bt672.1 = true then ((spec_l4Draw.f k s0_0 bt672.2.1 bt672.2.2).bind fun bt675 => (some (bt675.1, bt675.2.1, bt675.2.2.1, bt675.2.2.2))) else ((spec_l2Draw.f k s0_0 bt672.2.1 bt672.2.2).bind fun bt679 => ((spec_SignsOf.f k bt679.1).bind fun bt684 => (some (bt684.1, bt684.2.1, bt679.2.1, bt679.2.2)))))
theorem zl68_0 {p q : Prop} (g : p) (h : p → q := by intro zg_; repeat (first | (with_reducible first | exact zg_ | apply IsS110.alloc | apply IsS110.drewN | apply IsS110.drew | apply IsS110.set_1 | apply IsS110.set_2) | exact zg_)) : q := h g
theorem zl68_1 {p q : Prop} (g : p) (h : p → q := by intro zg_; repeat (first | (with_reducible first | exact zg_ | apply KeepBut.set_ | apply keep_drewN | apply keep_drew | apply keep_alloc) | exact zg_)) : q := h g
theorem zl68_2 {p q p0 : Prop} (g : p) (g0 : p0) (h : p → p0 → q := by intro zg_ z0_; repeat (first | (with_reducible first | exact zg_ | apply IsS110.alloc | apply IsS110.drewN | apply IsS110.drew | apply IsS110.set_1 | apply IsS110.set_2 | refine IsS110.far ?_ z0_ _) | exact zg_)) : q := h g g0
theorem zl68_3 {p q p0 p1 : Prop} (g : p) (g0 : p0) (g1 : p1) (h : p → p0 → p1 → q := by intro zg_ z0_ z1_; repeat (first | (with_reducible first | exact zg_ | apply below_alloc | apply pw_below_drewN | apply below_drew1 | refine below_set ?_ z0_ | refine below_set ?_ z1_) | exact zg_)) : q := h g g0 g1
theorem zl68_4 {p q p0 : Prop} (g : p) (g0 : p0) (h : p → p0 → q := by intro zg_ z0_; repeat (first | (with_reducible first | exact zg_ | apply KeepBut.set_ | apply keep_drewN | apply keep_drew | apply keep_alloc | refine keep_far ?_ z0_ _) | exact zg_)) : q := h g g0
theorem zl68_5 {p q p0 p1 : Prop} (g : p) (g0 : p0) (g1 : p1) (h : p → p0 → p1 → q := by intro zg_ z0_ z1_; repeat (first | (with_reducible first | exact zg_ | apply IsS110.alloc | apply IsS110.drewN | apply IsS110.drew | apply IsS110.set_1 | apply IsS110.set_2 | refine IsS110.far ?_ z0_ _ | refine IsS110.far ?_ z1_ _) | exact zg_)) : q := h g g0 g1
theorem zl68_6 {p q p0 p1 : Prop} (g : p) (g0 : p0) (g1 : p1) (h : p → p0 → p1 → q := by intro zg_ z0_ z1_; repeat (first | (with_reducible first | exact zg_ | apply KeepBut.set_ | apply keep_drewN | apply keep_drew | apply keep_alloc | refine keep_far ?_ z0_ _ | refine keep_far ?_ z1_ _) | exact zg_)) : q := h g g0 g1
set_option maxHeartbeats 8000000 in
set_option maxRecDepth 100000 in
theorem spec_l5Draw.calls (k : Nat) (g : Nat) (s0_0 : List Int) (s0_1 : Int) (s0_2 : Int) (r1 : Int) (r2 : ByteArray) (r3 : Int) (r4 : Int) (w0 w : World) (hI : IsS110 w0 w g s0_0 s0_1 s0_2) (hB : Below w0.heap.size w0 w) (h : spec_l5Draw.f k s0_0 s0_1 s0_2 = some (r1, r2, r3, r4)) :
  Calls Try.prog 109 #[.pointer (some ⟨g, 0, none⟩)] w fun e w' => e = .returned (.agg #[.int .i64 r1, .string r2]) ∧ IsS110 w0 w' g s0_0 r3 r4 ∧ Below w0.heap.size w0 w' ∧ KeepBut w w' g none := by
 have hu25 := Try.underlying25
 have HI0 := Aside0.mk hI
 have HK := Aside0.mk (KeepBut.refl w g none)
 have HL := Aside0.mk hB.size
 clear hI
 have HW0 := Aside0.mk hB.size
 have HB := Aside0.mk hB
 clear hB
 have H : ((spec_l1Once.f s0_0 s0_1 s0_2 8).bind fun bt672 => (if bt672.1 = true then ((spec_l4Draw.f k s0_0 bt672.2.1 bt672.2.2).bind fun bt675 => (some (bt675.1, bt675.2.1, bt675.2.2.1, bt675.2.2.2))) else ((spec_l2Draw.f k s0_0 bt672.2.1 bt672.2.2).bind fun bt679 => ((spec_SignsOf.f k bt679.1).bind fun bt684 => (some (bt684.1, bt684.2.1, bt679.2.1, bt679.2.2)))))) = some (r1, r2, r3, r4) := h
 clear h
 obtain ⟨⟨t672, t673, t674⟩, A2, H⟩ := zO H
 dsimp only at H
 by_cases c3 : t672 = true
 ·subst c3
  replace H := (if_pos rfl).symm.trans H
  obtain ⟨⟨t675, t676, t677, t678⟩, A4, H⟩ := zO H
  replace H : (some (t675, t676, t677, t678)) = some (r1, r2, r3, r4) := H
  simp only [Option.some.injEq, Prod.mk.injEq] at H
  obtain ⟨rfl, rfl, rfl, rfl⟩ := H
  go_enter Try.func109, Try.ntmps109
  go_wp2_with (first | ((with_reducible refine gate_dst (N := 2) rfl ?_); refine zBx (N := 2) #[.int .i64 0, .string (⟨#[]⟩ : ByteArray)] 25 ?_; intro gb671 hg w5 hbox hb; have n0_ := Aside0.mk (IsS110.below (zl68_0 HI0.out) hb); have n1_ := Aside0.mk (KeepBut.trans (zl68_1 HK.out) (KeepBut.of_below hb g none) (.inl rfl)); have n2_ := Aside0.mk (below_step (zG (IsS110.ge HI0.out)) hb); have n3_ := Aside0.mk (hbox); have n4_ := Aside0.mk ((by rw [hg]; exact (keep_size (w := w) (g := g) (row := none) (zl68_1 HK.out)) : w.heap.size ≤ gb671)); have n5_ := Aside0.mk ((Nat.le_trans HW0.out (by rw [hg]; exact (keep_size (w := w) (g := g) (row := none) (zl68_1 HK.out)) : w.heap.size ≤ gb671) : w0.heap.size ≤ gb671)); have n6_ := Aside0.mk ((by rw [hg]; exact Nat.ne_of_lt (IsS110.lt (show IsS110 w0 _ g s0_0 s0_1 s0_2 from (zl68_0 HI0.out))) : g ≠ gb671)); have n7_ := Aside0.mk ((by rw [hg]; exact Nat.ne_of_gt (IsS110.lt (show IsS110 w0 _ g s0_0 s0_1 s0_2 from (zl68_0 HI0.out))) : gb671 ≠ g)); clear HI0; clear HK; clear HB; have HI0 := n0_; have HK := n1_; have HB := n2_; have BK671 := n3_; have GW671 := n4_; have GE671 := n5_; have NB0_671 := n6_; have NB671_0 := n7_; clear n0_ n1_ n2_ n3_ n4_ n5_ n6_ n7_; clear hb hbox hg) | ((with_reducible refine gate_callee (f := 127) rfl ?_); refine zD (some 6) Try.func127 #[.pointer (some ⟨g, 0, none⟩), .int .i64 8] ?_; (with_reducible refine (spec_l1Once.calls g s0_0 s0_1 s0_2 8 true t673 t674 w0 _ ?side1 ?side2 A2.out).mono ?_); (case side1 => exact (zl68_2 HI0.out NB0_671.out)); (case side2 => exact (zl68_3 HB.out (IsS110.ge HI0.out) GE671.out)); rintro e w6 ⟨rfl, hi, hb, hk⟩; refine ⟨_, rfl, ?_⟩; replace BK671 := zKB hk BK671.out NB671_0.out; replace HK := Aside0.mk (KeepBut.trans (zl68_4 HK.out GW671.out) hk (.inl rfl)); replace HI0 := Aside0.mk (hi); replace HB := Aside0.mk (hb); (try clear hb); (try clear hk); (try clear hi)) | ((with_reducible refine gate_callee (f := 80) rfl ?_); refine zD (some 8) Try.func80 #[.pointer (some ⟨g, 0, none⟩)] ?_; (with_reducible refine (spec_l4Draw.calls k g s0_0 t673 t674 t675 t676 t677 t678 w0 _ ?side1 ?side2 A4.out).mono ?_); (case side1 => exact (zl68_2 HI0.out NB0_671.out)); (case side2 => exact (zl68_3 HB.out (IsS110.ge HI0.out) GE671.out)); rintro e w7 ⟨rfl, hi, hb, hk⟩; refine ⟨_, rfl, ?_⟩; replace BK671 := zKB hk BK671.out NB671_0.out; replace HK := Aside0.mk (KeepBut.trans (zl68_4 HK.out GW671.out) hk (.inl rfl)); replace HI0 := Aside0.mk (hi); replace HB := Aside0.mk (hb); (try clear hb); (try clear hk); (try clear hi); have hnb8 := NB671_0.out; have hnc8 := NB0_671.out; obtain ⟨hcz9_0, hcz9_1, hfz9_0, hfz9_1⟩ := zq2 BK671.out))
  refine bodyPost_ret (results_cell_row rfl _ _ gb671 25 #[.int .i64 t675, .string t676] (0, 0) _ rfl (zk0 BK671.out) Try.underlying25 rfl (by kernel_rfl)) rfl ?_
  exact ⟨zE, (zl68_2 HI0.out NB0_671.out), zG2 (IsS110.ge HI0.out) GE671.out, (zl68_4 HK.out GW671.out)⟩
 replace c3 := Bool.eq_false_iff.mpr c3
 subst c3
 replace H := (if_neg zFf).symm.trans H
 obtain ⟨⟨t679, t682, t683⟩, A10, H⟩ := zO H
 dsimp only at H
 obtain ⟨⟨t684, t685, t686⟩, A11, H⟩ := zO H
 replace H : (some (t684, t685, t682, t683)) = some (r1, r2, r3, r4) := H
 simp only [Option.some.injEq, Prod.mk.injEq] at H
 obtain ⟨rfl, rfl, rfl, rfl⟩ := H
 go_enter Try.func109, Try.ntmps109
 go_wp2_with (first | ((with_reducible refine gate_dst (N := 2) rfl ?_); refine zBx (N := 2) #[.int .i64 0, .string (⟨#[]⟩ : ByteArray)] 25 ?_; intro gb671 hg w12 hbox hb; have n0_ := Aside0.mk (IsS110.below (zl68_0 HI0.out) hb); have n1_ := Aside0.mk (KeepBut.trans (zl68_1 HK.out) (KeepBut.of_below hb g none) (.inl rfl)); have n2_ := Aside0.mk (below_step (zG (IsS110.ge HI0.out)) hb); have n3_ := Aside0.mk (hbox); have n4_ := Aside0.mk ((by rw [hg]; exact (keep_size (w := w) (g := g) (row := none) (zl68_1 HK.out)) : w.heap.size ≤ gb671)); have n5_ := Aside0.mk ((Nat.le_trans HW0.out (by rw [hg]; exact (keep_size (w := w) (g := g) (row := none) (zl68_1 HK.out)) : w.heap.size ≤ gb671) : w0.heap.size ≤ gb671)); have n6_ := Aside0.mk ((by rw [hg]; exact Nat.ne_of_lt (IsS110.lt (show IsS110 w0 _ g s0_0 s0_1 s0_2 from (zl68_0 HI0.out))) : g ≠ gb671)); have n7_ := Aside0.mk ((by rw [hg]; exact Nat.ne_of_gt (IsS110.lt (show IsS110 w0 _ g s0_0 s0_1 s0_2 from (zl68_0 HI0.out))) : gb671 ≠ g)); clear HI0; clear HK; clear HB; have HI0 := n0_; have HK := n1_; have HB := n2_; have BK671 := n3_; have GW671 := n4_; have GE671 := n5_; have NB0_671 := n6_; have NB671_0 := n7_; clear n0_ n1_ n2_ n3_ n4_ n5_ n6_ n7_; clear hb hbox hg) | ((with_reducible refine gate_callee (f := 127) rfl ?_); refine zD (some 6) Try.func127 #[.pointer (some ⟨g, 0, none⟩), .int .i64 8] ?_; (with_reducible refine (spec_l1Once.calls g s0_0 s0_1 s0_2 8 false t673 t674 w0 _ ?side1 ?side2 A2.out).mono ?_); (case side1 => exact (zl68_2 HI0.out NB0_671.out)); (case side2 => exact (zl68_3 HB.out (IsS110.ge HI0.out) GE671.out)); rintro e w13 ⟨rfl, hi, hb, hk⟩; refine ⟨_, rfl, ?_⟩; replace BK671 := zKB hk BK671.out NB671_0.out; replace HK := Aside0.mk (KeepBut.trans (zl68_4 HK.out GW671.out) hk (.inl rfl)); replace HI0 := Aside0.mk (hi); replace HB := Aside0.mk (hb); (try clear hb); (try clear hk); (try clear hi)) | ((with_reducible refine gate_callee (f := 148) rfl ?_); refine zD (some 11) Try.func148 #[.pointer (some ⟨g, 0, none⟩)] ?_; (with_reducible refine (spec_l2Draw.calls k g s0_0 t673 t674 t679 t682 t683 w0 _ ?side1 ?side2 A10.out).mono ?_); (case side1 => exact (zl68_2 HI0.out NB0_671.out)); (case side2 => exact (zl68_3 HB.out (IsS110.ge HI0.out) GE671.out)); rintro e w14 ⟨v680, rfl, ho0, hi, hb, hk⟩; refine ⟨_, rfl, ?_⟩; replace BK671 := zKB hk BK671.out NB671_0.out; have HO681 := Aside0.mk (Kd.R_lower ho0 (keep_size (w := w) (g := g) (row := none) (zl68_4 HK.out GW671.out))); replace HK := Aside0.mk (KeepBut.trans (zl68_4 HK.out GW671.out) hk (.inl rfl)); replace HI0 := Aside0.mk (hi); replace HB := Aside0.mk (hb); (try clear hb); (try clear hk); (try clear hi); (try clear ho0); obtain ⟨Ao15, co15, eo15⟩ := Kd.R_slice HO681.out; subst eo15) | ((with_reducible refine gate_callee (f := 27) rfl ?_); refine zD (some 12) Try.func27 #[.slice Ao15 t679.length co15] ?_; (with_reducible refine (spec_SignsOf.calls k _ _ t679 t684 t685 t686 _ ?side1 ?side2 A11.out).mono ?_); (case side1 => repeat (first | exact (Kd.R_reads' HO681.out).2.2 | (with_reducible refine Kd.C_alloc ?_ _) | (with_reducible refine Kd.C_drewN ?_ _) | (with_reducible refine Kd.C_drew ?_))); (case side2 => exact (Kd.R_reads' HO681.out).2.1); rintro e w16 ⟨rfl, hb⟩; refine ⟨_, rfl, ?_⟩; have n0_ := zW HO681.out hb; have n1_ := Aside0.mk (IsS110.below (zl68_2 HI0.out NB0_671.out) hb); have n2_ := zV BK671.out hb; have n3_ := Aside0.mk (KeepBut.trans (zl68_4 HK.out GW671.out) (KeepBut.of_below hb g none) (.inl rfl)); have n4_ := Aside0.mk (below_step (zG2 (IsS110.ge HI0.out) GE671.out) hb); clear HO681; clear HI0; clear BK671; clear HK; clear HB; have HO681 := n0_; have HI0 := n1_; have BK671 := n2_; have HK := n3_; have HB := n4_; clear n0_ n1_ n2_ n3_ n4_; (try clear hb)) | ((with_reducible refine gate_dst (N := 3) rfl ?_); refine zBx (N := 3) #[.int .i64 0, .string (⟨#[]⟩ : ByteArray)] 25 ?_; intro gb687 hg w17 hbox hb; have n0_ := zW HO681.out hb; have n1_ := Aside0.mk (IsS110.below (zl68_2 HI0.out NB0_671.out) hb); have n2_ := zV BK671.out hb; have n3_ := Aside0.mk (KeepBut.trans (zl68_4 HK.out GW671.out) (KeepBut.of_below hb g none) (.inl rfl)); have n4_ := Aside0.mk (below_step (zG2 (IsS110.ge HI0.out) GE671.out) hb); have n5_ := Aside0.mk (hbox); have n6_ := Aside0.mk ((by rw [hg]; exact (keep_size (w := w) (g := g) (row := none) (zl68_4 HK.out GW671.out)) : w.heap.size ≤ gb687)); have n7_ := Aside0.mk ((Nat.le_trans HW0.out (by rw [hg]; exact (keep_size (w := w) (g := g) (row := none) (zl68_4 HK.out GW671.out)) : w.heap.size ≤ gb687) : w0.heap.size ≤ gb687)); have n8_ := zL hg BK671.out; have n9_ := zLg hg BK671.out; have n10_ := Aside0.mk ((by rw [hg]; exact Nat.ne_of_lt (IsS110.lt (show IsS110 w0 _ g s0_0 t682 t683 from (zl68_2 HI0.out NB0_671.out))) : g ≠ gb687)); have n11_ := Aside0.mk ((by rw [hg]; exact Nat.ne_of_gt (IsS110.lt (show IsS110 w0 _ g s0_0 t682 t683 from (zl68_2 HI0.out NB0_671.out))) : gb687 ≠ g)); clear HO681; clear HI0; clear BK671; clear HK; clear HB; have HO681 := n0_; have HI0 := n1_; have BK671 := n2_; have HK := n3_; have HB := n4_; have BK687 := n5_; have GW687 := n6_; have GE687 := n7_; have NB671_687 := n8_; have NB687_671 := n9_; have NB0_687 := n10_; have NB687_0 := n11_; clear n0_ n1_ n2_ n3_ n4_ n5_ n6_ n7_ n8_ n9_ n10_ n11_; clear hb hbox hg; have hnb18 := NB687_671.out; have hnc18 := NB671_687.out; have hnb19 := NB687_0.out; have hnc19 := NB0_687.out; obtain ⟨hcz20_0, hcz20_1, hfz20_0, hfz20_1⟩ := zq2 BK687.out; have hnb21 := NB671_0.out; have hnc21 := NB0_671.out; obtain ⟨hcz22_0, hcz22_1, hfz22_0, hfz22_1⟩ := zq2 BK671.out))
 refine bodyPost_ret (results_cell_row rfl _ _ gb671 25 #[.int .i64 t684, .string t685] (0, 0) _ rfl (zk2 BK671.out NB671_687.out NB671_687.out) Try.underlying25 rfl (by kernel_rfl)) rfl ?_
 exact ⟨zE, (zl68_5 HI0.out NB0_671.out NB0_687.out), zG3 (IsS110.ge HI0.out) GE671.out GE687.out, (zl68_6 HK.out GW671.out GW687.out)⟩
/-! ### spec_l5Four: function 104 -/
def spec_l5Four.f (k : Nat) (l0 : List Int) : Option (Int × ByteArray × List Int) := (spec_l1New.f k l0).bind fun bt689 => ((spec_l5Draw.f k bt689.1 bt689.2.1 bt689.2.2).bind fun bt693 => ((spec_l1Max.f 4 bt693.1).bind fun t698 => ((spec_l3Order.f k bt689.1 bt693.2.2.1 bt693.2.2.2 t698).bind fun bt699 => ((spec_l1Once.f bt689.1 bt699.2.1 bt699.2.2 14).bind fun bt704 => (if bt704.1 = true then ((spec_l1Below.f bt689.1 bt704.2.1 bt704.2.2 8).bind fun bt707 => (if 0 < (bt699.1.length : Int) then (if 4 ≤ (bt699.1.length : Int) then (some (bt693.1, bt693.2.1, ((bt699.1.set (0 : Int).toNat (wrap64 (bt707.1 - 1))).take (4 : Int).toNat))) else (none)) else (none))) else (if 4 ≤ (bt699.1.length : Int) then (some (bt693.1, bt693.2.1, (bt699.1.take (4 : Int).toNat))) else (none)))))))
theorem zl69_0 {p q p0 : Prop} (g : p) (g0 : p0) (h : p → p0 → q := by intro zg_ z0_; repeat (first | (with_reducible first | exact zg_ | apply below_alloc | apply pw_below_drewN | apply below_drew1 | refine below_set ?_ z0_) | exact zg_)) : q := h g g0
theorem zl69_1 {p q p0 : Prop} (g : p) (g0 : p0) (h : p → p0 → q := by intro zg_ z0_; repeat (first | (with_reducible first | exact zg_ | apply IsS110.alloc | apply IsS110.drewN | apply IsS110.drew | apply IsS110.set_1 | apply IsS110.set_2 | refine IsS110.far ?_ z0_ _) | exact zg_)) : q := h g g0
theorem zl69_2 {p q p0 p1 : Prop} (g : p) (g0 : p0) (g1 : p1) (h : p → p0 → p1 → q := by intro zg_ z0_ z1_; repeat (first | (with_reducible first | exact zg_ | apply below_alloc | apply pw_below_drewN | apply below_drew1 | refine below_set ?_ z0_ | refine below_set ?_ z1_) | exact zg_)) : q := h g g0 g1
theorem zl69_3 {p q p0 p1 : Prop} (g : p) (g0 : p0) (g1 : p1) (h : p → p0 → p1 → q := by intro zg_ z0_ z1_; repeat (first | (with_reducible first | exact zg_ | apply IsS110.alloc | apply IsS110.drewN | apply IsS110.drew | apply IsS110.set_1 | apply IsS110.set_2 | refine IsS110.far ?_ z0_ _ | refine IsS110.far ?_ z1_ _) | exact zg_)) : q := h g g0 g1
theorem zl69_4 {p q p0 p1 p2 : Prop} (g : p) (g0 : p0) (g1 : p1) (g2 : p2) (h : p → p0 → p1 → p2 → q := by intro zg_ z0_ z1_ z2_; repeat (first | (with_reducible first | exact zg_ | apply below_alloc | apply pw_below_drewN | apply below_drew1 | refine below_set ?_ z0_ | refine below_set ?_ z1_ | refine below_set ?_ z2_) | exact zg_)) : q := h g g0 g1 g2
set_option maxHeartbeats 8000000 in
set_option maxRecDepth 100000 in
theorem spec_l5Four.calls (k : Nat) (A0 : Option Addr) (c0 : Nat) (l0 : List Int) (r1 : Int) (r2 : ByteArray) (r3 : List Int) (w : World) (hr0 : Kd.C (Kd.int .u8) w A0 l0.length l0) (hc0 : l0.length ≤ c0) (h : spec_l5Four.f k l0 = some (r1, r2, r3)) :
  Calls Try.prog 104 #[.slice A0 l0.length c0] w fun e w' => ∃ v2_ : Value, e = .returned (.tuple #[.agg #[.int .i64 r1, .string r2], v2_]) ∧ Kd.R (Kd.int .i64) 3 w' w.heap.size (fun _ => True) v2_ r3 ∧ Below w.heap.size w w' := by
 have hu25 := Try.underlying25
 have HR0 := Aside0.mk hr0
 have HC0 := Aside0.mk hc0
 clear hr0 hc0
 have HB := Aside0.mk (Below.refl w.heap.size w)
 have H : ((spec_l1New.f k l0).bind fun bt689 => ((spec_l5Draw.f k bt689.1 bt689.2.1 bt689.2.2).bind fun bt693 => ((spec_l1Max.f 4 bt693.1).bind fun t698 => ((spec_l3Order.f k bt689.1 bt693.2.2.1 bt693.2.2.2 t698).bind fun bt699 => ((spec_l1Once.f bt689.1 bt699.2.1 bt699.2.2 14).bind fun bt704 => (if bt704.1 = true then ((spec_l1Below.f bt689.1 bt704.2.1 bt704.2.2 8).bind fun bt707 => (if 0 < (bt699.1.length : Int) then (if 4 ≤ (bt699.1.length : Int) then (some (bt693.1, bt693.2.1, ((bt699.1.set (0 : Int).toNat (wrap64 (bt707.1 - 1))).take (4 : Int).toNat))) else (none)) else (none))) else (if 4 ≤ (bt699.1.length : Int) then (some (bt693.1, bt693.2.1, (bt699.1.take (4 : Int).toNat))) else (none)))))))) = some (r1, r2, r3) := h
 clear h
 obtain ⟨⟨t689, t690, t691⟩, A2, H⟩ := zO H
 dsimp only at H
 obtain ⟨⟨t693, t694, t695, t696⟩, A3, H⟩ := zO H
 dsimp only at H
 obtain ⟨t698, A4, H⟩ := zO H
 obtain ⟨⟨t699, t702, t703⟩, A5, H⟩ := zO H
 dsimp only at H
 obtain ⟨⟨t704, t705, t706⟩, A6, H⟩ := zO H
 dsimp only at H
 by_cases c7 : t704 = true
 ·subst c7
  replace H := (if_pos rfl).symm.trans H
  obtain ⟨⟨t707, t708, t709⟩, A8, H⟩ := zO H
  dsimp only at H
  by_cases c9 : 0 < (t699.length : Int)
  ·rw [if_pos c9] at H
   have c9b0 : decide (0 < (t699.length : Int)) = true := decide_eq_true c9
   have c9b1 : decide (0 < t699.length) = true := decide_eq_true (by omega)
   clear c9
   obtain ⟨y710, hy710⟩ : ∃ y_ : List Int, y_ = (t699.set (0 : Int).toNat (wrap64 (t707 - 1))) := ⟨_, rfl⟩
   replace H : (if 4 ≤ (t699.length : Int) then (some (t693, t694, (y710.take (4 : Int).toNat))) else (none)) = some (r1, r2, r3) := by first | (rw [hy710]; with_reducible exact H) | (have H2_ := (Option.bind_some _ _).symm.trans H; rw [hy710]; with_reducible exact H2_) | (have H2_ := (Option.bind_some _ _).symm.trans H; with_reducible exact H2_) | with_reducible exact H | (rw [hy710]; exact H) | exact H
   have Ny710 := Aside0.mk hy710
   clear hy710
   by_cases c11 : 4 ≤ (t699.length : Int)
   ·rw [if_pos c11] at H
    have c11b0 := eq_true c11
    have c11b1 : decide (4 ≤ (t699.length : Int)) = true := decide_eq_true c11
    clear c11
    obtain ⟨y711, hy711⟩ : ∃ y_ : List Int, y_ = (y710.take (4 : Int).toNat) := ⟨_, rfl⟩
    replace H : (some (t693, t694, y711)) = some (r1, r2, r3) := by first | (rw [hy711]; with_reducible exact H) | (have H2_ := (Option.bind_some _ _).symm.trans H; rw [hy711]; with_reducible exact H2_) | (have H2_ := (Option.bind_some _ _).symm.trans H; with_reducible exact H2_) | with_reducible exact H | (rw [hy711]; exact H) | exact H
    have Ny711 := Aside0.mk hy711
    clear hy711
    simp only [Option.some.injEq, Prod.mk.injEq] at H
    obtain ⟨rfl, rfl, rfl⟩ := H
    go_enter Try.func104, Try.ntmps104
    try go_wp2_with (first | ((with_reducible refine gate_dst (N := 2) rfl ?_); refine zBx (N := 2) #[.int .i64 0, .string (⟨#[]⟩ : ByteArray)] 25 ?_; intro gb688 hg w12 hbox hb; have BK688 := Aside0.mk (hbox); have GW688 := zS hg; have GE688 := zS hg; replace HB := zX hb; clear hb hbox hg) | ((with_reducible refine gate_callee (f := 81) rfl ?_); refine zD (some 8) Try.func81 #[.slice A0 l0.length c0] ?_; (with_reducible refine (spec_l1New.calls k _ _ l0 t689 t690 t691 w _ ?side1 ?side2 ?side3 A2.out).mono ?_); (case side1 => exact (zl69_0 HB.out GE688.out)); (case side2 => exact HR0.out); (case side3 => exact HC0.out); rintro e w13 ⟨g692, rfl, hi, hb, hb2⟩; refine ⟨_, rfl, ?_⟩; have HI692 := Aside0.mk (hi); have NB692_688 := Aside0.mk (IsS110.ne_blk hi (blk_below (g := gb688) (o := .cells #[.int .i64 0, .string (⟨#[]⟩ : ByteArray)] 25 (0, 0)) (zK BK688.out) hb2) (by decide)); have NB688_692 := Aside0.mk (Ne.symm (IsS110.ne_blk hi (blk_below (g := gb688) (o := .cells #[.int .i64 0, .string (⟨#[]⟩ : ByteArray)] 25 (0, 0)) (zK BK688.out) hb2) (by decide))); replace BK688 := Aside0.mk (blk_below (g := gb688) (o := .cells #[.int .i64 0, .string (⟨#[]⟩ : ByteArray)] 25 (0, 0)) (zK BK688.out) hb2); replace HB := Aside0.mk (hb); (try clear hb); (try clear hb2); (try clear hi)) | ((with_reducible refine gate_callee (f := 109) rfl ?_); refine zD (some 10) Try.func109 #[.pointer (some ⟨g692, 0, none⟩)] ?_; (with_reducible refine (spec_l5Draw.calls k g692 t689 t690 t691 t693 t694 t695 t696 w _ ?side1 ?side2 A3.out).mono ?_); (case side1 => exact (zl69_1 HI692.out NB692_688.out)); (case side2 => exact (zl69_2 HB.out (IsS110.ge HI692.out) GE688.out)); rintro e w14 ⟨rfl, hi, hb, hk⟩; refine ⟨_, rfl, ?_⟩; replace BK688 := zKB hk BK688.out NB688_692.out; replace HI692 := Aside0.mk (hi); replace HB := Aside0.mk (hb); (try clear hb); (try clear hk); (try clear hi)) | ((with_reducible refine gate_dst (N := 5) rfl ?_); refine zBx (N := 5) #[.int .i64 0, .string (⟨#[]⟩ : ByteArray)] 25 ?_; intro gb697 hg w15 hbox hb; have n0_ := zV BK688.out hb; have n1_ := Aside0.mk (IsS110.below (zl69_1 HI692.out NB692_688.out) hb); have n2_ := Aside0.mk (below_step (zG2 (IsS110.ge HI692.out) GE688.out) hb); have n3_ := Aside0.mk (hbox); have n4_ := zSg hg (zG2 (IsS110.ge HI692.out) GE688.out); have n5_ := zSg hg (zG2 (IsS110.ge HI692.out) GE688.out); have n6_ := zL hg BK688.out; have n7_ := zLg hg BK688.out; have n8_ := Aside0.mk ((by rw [hg]; exact Nat.ne_of_lt (IsS110.lt (show IsS110 w _ g692 t689 t695 t696 from (zl69_1 HI692.out NB692_688.out))) : g692 ≠ gb697)); have n9_ := Aside0.mk ((by rw [hg]; exact Nat.ne_of_gt (IsS110.lt (show IsS110 w _ g692 t689 t695 t696 from (zl69_1 HI692.out NB692_688.out))) : gb697 ≠ g692)); clear BK688; clear HI692; clear HB; have BK688 := n0_; have HI692 := n1_; have HB := n2_; have BK697 := n3_; have GW697 := n4_; have GE697 := n5_; have NB688_697 := n6_; have NB697_688 := n7_; have NB692_697 := n8_; have NB697_692 := n9_; clear n0_ n1_ n2_ n3_ n4_ n5_ n6_ n7_ n8_ n9_; clear hb hbox hg; have hnb16 := NB697_688.out; have hnc16 := NB688_697.out; have hnb17 := NB697_692.out; have hnc17 := NB692_697.out; obtain ⟨hcz18_0, hcz18_1, hfz18_0, hfz18_1⟩ := zq2 BK697.out) | ((with_reducible refine gate_callee (f := 112) rfl ?_); refine zD (some 14) Try.func112 #[.int .i64 4, .int .i64 t693] ?_; (with_reducible refine (spec_l1Max.calls 4 t693 t698 _ A4.out).mono ?_); rintro e w' ⟨rfl, ⟨nd, rfl⟩⟩; refine ⟨_, rfl, ?_⟩) | ((with_reducible refine gate_callee (f := 145) rfl ?_); refine zD (some 15) Try.func145 #[.pointer (some ⟨g692, 0, none⟩), .int .i64 t698] ?_; (with_reducible refine (spec_l3Order.calls k g692 t689 t695 t696 t698 t699 t702 t703 w _ ?side1 ?side2 A5.out).mono ?_); (case side1 => exact (zl69_3 HI692.out NB692_688.out NB692_697.out)); (case side2 => exact (zl69_4 HB.out (IsS110.ge HI692.out) GE688.out GE697.out)); rintro e w19 ⟨v700, rfl, ho0, hi, hb, hk⟩; refine ⟨_, rfl, ?_⟩; replace BK688 := Aside0.mk (KeepBut.blk hk (g' := gb688) (o := .cells #[.int .i64 0, .string (⟨#[]⟩ : ByteArray)] 25 (0, 0)) (zk2 BK688.out NB688_697.out NB688_697.out) NB688_692.out (by simp)); replace BK697 := Aside0.mk (KeepBut.blk hk (g' := gb697) (o := .cells #[.int .i64 t693, .string t694] 25 (0, 0)) (zk0 BK697.out) NB697_692.out (by simp)); have HO701 := Aside0.mk (Kd.R_lower ho0 (below_size (zG3 (IsS110.ge HI692.out) GE688.out GE697.out))); replace HI692 := Aside0.mk (hi); replace HB := Aside0.mk (hb); (try clear hb); (try clear hk); (try clear hi); (try clear ho0)) | ((with_reducible refine gate_callee (f := 127) rfl ?_); refine zD (some 17) Try.func127 #[.pointer (some ⟨g692, 0, none⟩), .int .i64 14] ?_; (with_reducible refine (spec_l1Once.calls g692 t689 t702 t703 14 true t705 t706 w _ ?side1 ?side2 A6.out).mono ?_); (case side1 => exact (zl69_3 HI692.out NB692_688.out NB692_697.out)); (case side2 => exact (zl69_4 HB.out (IsS110.ge HI692.out) GE688.out GE697.out)); rintro e w20 ⟨rfl, hi, hb, hk⟩; refine ⟨_, rfl, ?_⟩; replace BK688 := zKB hk BK688.out NB688_692.out; replace BK697 := zKB hk BK697.out NB697_692.out; replace HO701 := Aside0.mk (Kd.R_mono (Kd.R_keep (IsS110.apart (show IsS110 w _ g692 t689 t702 t703 from (zl69_3 HI692.out NB692_688.out NB692_697.out)) (zR HO701.out) (by decide)) hk (fun _ h => h.2)) (fun _ h => h.1)); replace HI692 := Aside0.mk (hi); replace HB := Aside0.mk (hb); (try clear hb); (try clear hk); (try clear hi)) | ((with_reducible refine gate_callee (f := 125) rfl ?_); refine zD (some 20) Try.func125 #[.pointer (some ⟨g692, 0, none⟩), .int .i64 8] ?_; (with_reducible refine (spec_l1Below.calls g692 t689 t705 t706 8 t707 t708 t709 w _ ?side1 ?side2 A8.out).mono ?_); (case side1 => exact (zl69_3 HI692.out NB692_688.out NB692_697.out)); (case side2 => exact (zl69_4 HB.out (IsS110.ge HI692.out) GE688.out GE697.out)); rintro e w21 ⟨rfl, hi, hb, hk⟩; refine ⟨_, rfl, ?_⟩; replace BK688 := zKB hk BK688.out NB688_692.out; replace BK697 := zKB hk BK697.out NB697_692.out; replace HO701 := Aside0.mk (Kd.R_mono (Kd.R_keep (IsS110.apart (show IsS110 w _ g692 t689 t705 t706 from (zl69_3 HI692.out NB692_688.out NB692_697.out)) (zR HO701.out) (by decide)) hk (fun _ h => h.2)) (fun _ h => h.1)); replace HI692 := Aside0.mk (hi); replace HB := Aside0.mk (hb); (try clear hb); (try clear hk); (try clear hi); have p10 : 0 ≤ (0 : Int) := (by omega); have q10 : (0 : Int) < ((t699.length : Int) : Int) := zA; have qi10 : (0 < t699.length) = True := eq_true (by omega); obtain ⟨go10, co10, eo10, gb10, gl10, cl10, HG10⟩ := Kd.R_form HO701.out (by omega); (first | cases eo10 | (injection eo10 with ea_ en_ ec_; (first | subst ea_ | (injection ea_ with ea_; subst ea_)); subst ec_; clear en_)); have GB10 := Aside0.mk gb10; have GG10 := Aside0.mk HG10; clear gb10 gl10 HG10; obtain ⟨hx10_0, hf10_0⟩ := Kd.R_celln 0 HO701.out (0 : Int) p10 q10; (try rw [show ((0 : Int)).toNat = 0 from rfl] at hx10_0); (try simp only [Nat.reduceMul, Nat.zero_mul, Nat.zero_add, Nat.reduceAdd] at hx10_0); (try rw [show ((0 : Int)).toNat = 0 from rfl] at hf10_0); (try simp only [Nat.reduceMul, Nat.zero_mul, Nat.zero_add, Nat.reduceAdd] at hf10_0); replace p10 := eq_true p10; replace q10 := eq_true q10; obtain ⟨hy22_, hz22_⟩ := Kd.R_celln 0 HO701.out (0 : Int) (by omega) (zA); (try simp only [Int.reduceToNat, Int.toNat_zero, Int.toNat_ofNat, Nat.reduceMul, Nat.zero_mul, Nat.zero_add] at hy22_ hz22_); (try rw [show ((0 : Int)).toNat = 0 from rfl] at hy22_); (try rw [show ((0 : Int)).toNat = 0 from rfl] at hz22_); have HP22 := Kd.R_putg HO701.out (0 : Int) (wrap64 (t707 - 1))) | ((with_reducible refine gate_store (t := 3) (p := 22) rfl ?_); refine store_event (t := 3) (p := 22) (v := ?vo_w23) (w1 := (w21.setCell ⟨go10, (0 : Int).toNat, none⟩ (.int .i64 (wrap64 (t707 - 1))))) ?hg ?ho ?hn ?hr ?_; (case ho => rfl); (case hg => rfl); (case hn => rfl); (case hr => first | (go_simp; done) | (go_simp; rfl)); intro w23 hw; have hg : w21.grownBy w23 (some go10) := (by rw [hw]; exact HP22.2); have hp_ : Kd.R (Kd.int .i64) 3 w23 w.heap.size (fun _ => True) (.slice (some ⟨go10, 0, none⟩) t699.length co10) y710 := (by rw [hw, Ny710.out]; exact HP22.1); clear HP22; replace BK688 := Aside0.mk (blk_grown (g := gb688) (o := .cells #[.int .i64 0, .string (⟨#[]⟩ : ByteArray)] 25 (0, 0)) (zK BK688.out) hg (Kd.R_ne HO701.out BK688.out (by decide))); replace HI692 := Aside0.mk (IsS110.grown (zl69_3 HI692.out NB692_688.out NB692_697.out) hg (IsS110.own_ne HI692.out HO701.out (by decide))); replace BK697 := Aside0.mk (blk_grown (g := gb697) (o := .cells #[.int .i64 t693, .string t694] 25 (0, 0)) (zK BK697.out) hg (Kd.R_ne HO701.out BK697.out (by decide))); replace HO701 := Aside0.mk (hp_); replace HB := Aside0.mk ((by rw [hw]; exact below_set (HB.out) GB10.out : Below w.heap.size w w23)); clear hg hw hp_))
    replace HO701 := Aside0.mk (Kd.R_drew HO701.out)
    replace BK688 := Aside0.mk (blk_drew BK688.out)
    replace BK697 := Aside0.mk (blk_drew BK697.out)
    replace HI692 := Aside0.mk (IsS110.drew HI692.out)
    replace HB := Aside0.mk (below_drew1 HB.out)
    have q25 : (4 : Int) ≤ ((t699.length : Int) : Int) := zA
    obtain ⟨i025, hi025, _, hsz25, _⟩ := info_parts info3
    have hcut25 := cut_to (P := Try.prog) 27 3 .i64 Try.underlying27 hi025 (some ⟨go10, 0, none⟩) t699.length co10 4 (by omega) q25 (Kd.R_reads' HO701.out).2.1
    have hle_ : y710.length = t699.length := by rw [Ny710.out, List.length_set]
    have hr25 := Kd.R_take (m := (4 : Int).toNat) HO701.out (by omega)
    have hy25 : y711.length = (4 : Int).toNat := (by rw [Ny711.out, List.length_take]; omega)
    clear hle_
    rw [← Ny711.out] at hr25
    rw [← hy25] at hr25 hcut25
    clear hy25 hi025 hsz25 HO701
    have HO713 := Aside0.mk hr25
    clear hr25
    replace q25 := eq_true q25
    refine start_ (n := 5) (S := fun w' => w'.cell? ⟨gb697, 0, none⟩ = some (.int .i64 t693) ∧ w'.cell? ⟨gb697, 1, none⟩ = some (.string t694)) (ds := []) #[false, false, false, false, false] (by kernel_rfl) rfl rfl ⟨(blk_cell BK697.out 0).trans rfl, (blk_cell BK697.out 1).trans rfl⟩ (fun hHeld => ?_)
    generalize w23.drew = w24 at BK688 BK697 HI692 HB HO713 hHeld ⊢
    refine pure_ (i := 1) (N := some 24) (v := ?_) (a' := ?_) #[false, true, false, false, false] rfl rfl (by kernel_rfl) (fun _ _ _ h => h) (Or.inl ⟨by rfl, ?_⟩) ?_ ?_
    rotate_left
    ·intro w'
     go_simp
     with_reducible rfl
    rotate_left
    ·simp only [Act.put, List.setIfInBounds_toArray, List.set_cons_zero, List.set_cons_succ, i64_w, i32_w]
     rfl
    refine pure_ (i := 2) (N := some 25) (v := ?_) (a' := ?_) #[false, true, true, false, false] rfl rfl (by kernel_rfl) (fun _ _ _ h => h) (Or.inl ⟨by rfl, ?_⟩) ?_ ?_
    rotate_left
    ·intro w'
     go_simp
     with_reducible rfl
    rotate_left
    ·simp only [Act.put, List.setIfInBounds_toArray, List.set_cons_zero, List.set_cons_succ, i64_w, i32_w]
     rfl
    refine take_ (i := 0) (N := some 23) (v := ?_) (a' := ?_) #[true, true, true, false, false] rfl rfl (by kernel_rfl) (fun _ _ _ h => h) (Or.inl ⟨by rfl, ?_⟩) hHeld ?_ ?_
    rotate_left
    ·rintro w' ⟨s0, s1⟩
     go_simp
     with_reducible rfl
    rotate_left
    ·simp only [Act.put, List.setIfInBounds_toArray, List.set_cons_zero, List.set_cons_succ, i64_w, i32_w]
     rfl
    refine one_ (i := 3) (N := none) #[true, true, true, true, false] rfl rfl (by kernel_rfl) (by decide) (fun K hK => ?_)
    have hs26 : w24.cell? ⟨gb688, 0, none⟩ = some (.int .i64 0) := (blk_cell BK688.out 0).trans rfl
    have hfs26 := blk_frozen BK688.out 0
    have hns26_1 := NB697_688.out
    have hms26_1 := NB688_697.out
    have hs27 : w24.cell? ⟨gb688, 1, none⟩ = some (.string (⟨#[]⟩ : ByteArray)) := (blk_cell BK688.out 1).trans rfl
    have hfs27 := blk_frozen BK688.out 1
    have hns27_1 := NB697_688.out
    have hms27_1 := NB688_697.out
    refine skip_ (w1 := ?_) (by rfl) rfl ?_ ?_
    rotate_left
    ·go_simp
     rfl
    refine hK.out _ _ ⟨((cell_far (p := ⟨gb688, _, none⟩) NB697_688.out _).trans (((cell_far (p := ⟨gb688, _, none⟩) NB697_688.out _).trans (hHeld.1)))), ((cell_far (p := ⟨gb688, _, none⟩) NB697_688.out _).trans (((cell_far (p := ⟨gb688, _, none⟩) NB697_688.out _).trans (hHeld.2))))⟩ (fun hHeld => ?_)
    clear hK K
    refine pure_ (i := 4) (N := some 3) (v := ?_) (a' := ?_) #[true, true, true, true, true] rfl rfl (by kernel_rfl) (fun _ _ _ h => h) (Or.inl ⟨by rfl, ?_⟩) ?_ ?_
    rotate_left
    ·intro w'
     go_simp
     with_reducible rfl
    rotate_left
    ·simp only [Act.put, List.setIfInBounds_toArray, List.set_cons_zero, List.set_cons_succ, i64_w, i32_w]
     rfl
    refine done_ (by kernel_rfl) ?_
    try go_wp2
    refine bodyPost_ret (results_ct rfl _ _ gb688 25 #[.int .i64 t693, .string t694] (0, 0) _ rfl (zk0 BK688.out) Try.underlying25 rfl (by kernel_rfl)) rfl ?_
    exact ⟨_, zE, by (with_reducible repeat (first | apply Kd.R_alloc | apply Kd.R_drewN | apply Kd.R_drew)); exact Kd.R_mono (Kd.R_far (p := ⟨gb688, 1, none⟩) (Kd.R_far (p := ⟨gb688, 0, none⟩) (Kd.R_types HO713.out BK688.out (by decide)) (fun _ hk => hk.2) (.int .i64 t693)) (fun _ hk => hk.2) (.string t694)) (fun _ hk => trivial), zG3 (IsS110.ge HI692.out) GE688.out GE697.out⟩
   rw [if_neg c11] at H
   exact absurd H (by simp)
  rw [if_neg c9] at H
  exact absurd H (by simp)
 replace c7 := Bool.eq_false_iff.mpr c7
 subst c7
 replace H := (if_neg zFf).symm.trans H
 by_cases c28 : 4 ≤ (t699.length : Int)
 ·rw [if_pos c28] at H
  have c28b0 := eq_true c28
  have c28b1 : decide (4 ≤ (t699.length : Int)) = true := decide_eq_true c28
  clear c28
  obtain ⟨y714, hy714⟩ : ∃ y_ : List Int, y_ = (t699.take (4 : Int).toNat) := ⟨_, rfl⟩
  replace H : (some (t693, t694, y714)) = some (r1, r2, r3) := by first | (rw [hy714]; with_reducible exact H) | (have H2_ := (Option.bind_some _ _).symm.trans H; rw [hy714]; with_reducible exact H2_) | (have H2_ := (Option.bind_some _ _).symm.trans H; with_reducible exact H2_) | with_reducible exact H | (rw [hy714]; exact H) | exact H
  have Ny714 := Aside0.mk hy714
  clear hy714
  simp only [Option.some.injEq, Prod.mk.injEq] at H
  obtain ⟨rfl, rfl, rfl⟩ := H
  go_enter Try.func104, Try.ntmps104
  try go_wp2_with (first | ((with_reducible refine gate_dst (N := 2) rfl ?_); refine zBx (N := 2) #[.int .i64 0, .string (⟨#[]⟩ : ByteArray)] 25 ?_; intro gb688 hg w29 hbox hb; have BK688 := Aside0.mk (hbox); have GW688 := zS hg; have GE688 := zS hg; replace HB := zX hb; clear hb hbox hg) | ((with_reducible refine gate_callee (f := 81) rfl ?_); refine zD (some 8) Try.func81 #[.slice A0 l0.length c0] ?_; (with_reducible refine (spec_l1New.calls k _ _ l0 t689 t690 t691 w _ ?side1 ?side2 ?side3 A2.out).mono ?_); (case side1 => exact (zl69_0 HB.out GE688.out)); (case side2 => exact HR0.out); (case side3 => exact HC0.out); rintro e w30 ⟨g692, rfl, hi, hb, hb2⟩; refine ⟨_, rfl, ?_⟩; have HI692 := Aside0.mk (hi); have NB692_688 := Aside0.mk (IsS110.ne_blk hi (blk_below (g := gb688) (o := .cells #[.int .i64 0, .string (⟨#[]⟩ : ByteArray)] 25 (0, 0)) (zK BK688.out) hb2) (by decide)); have NB688_692 := Aside0.mk (Ne.symm (IsS110.ne_blk hi (blk_below (g := gb688) (o := .cells #[.int .i64 0, .string (⟨#[]⟩ : ByteArray)] 25 (0, 0)) (zK BK688.out) hb2) (by decide))); replace BK688 := Aside0.mk (blk_below (g := gb688) (o := .cells #[.int .i64 0, .string (⟨#[]⟩ : ByteArray)] 25 (0, 0)) (zK BK688.out) hb2); replace HB := Aside0.mk (hb); (try clear hb); (try clear hb2); (try clear hi)) | ((with_reducible refine gate_callee (f := 109) rfl ?_); refine zD (some 10) Try.func109 #[.pointer (some ⟨g692, 0, none⟩)] ?_; (with_reducible refine (spec_l5Draw.calls k g692 t689 t690 t691 t693 t694 t695 t696 w _ ?side1 ?side2 A3.out).mono ?_); (case side1 => exact (zl69_1 HI692.out NB692_688.out)); (case side2 => exact (zl69_2 HB.out (IsS110.ge HI692.out) GE688.out)); rintro e w31 ⟨rfl, hi, hb, hk⟩; refine ⟨_, rfl, ?_⟩; replace BK688 := zKB hk BK688.out NB688_692.out; replace HI692 := Aside0.mk (hi); replace HB := Aside0.mk (hb); (try clear hb); (try clear hk); (try clear hi)) | ((with_reducible refine gate_dst (N := 5) rfl ?_); refine zBx (N := 5) #[.int .i64 0, .string (⟨#[]⟩ : ByteArray)] 25 ?_; intro gb697 hg w32 hbox hb; have n0_ := zV BK688.out hb; have n1_ := Aside0.mk (IsS110.below (zl69_1 HI692.out NB692_688.out) hb); have n2_ := Aside0.mk (below_step (zG2 (IsS110.ge HI692.out) GE688.out) hb); have n3_ := Aside0.mk (hbox); have n4_ := zSg hg (zG2 (IsS110.ge HI692.out) GE688.out); have n5_ := zSg hg (zG2 (IsS110.ge HI692.out) GE688.out); have n6_ := zL hg BK688.out; have n7_ := zLg hg BK688.out; have n8_ := Aside0.mk ((by rw [hg]; exact Nat.ne_of_lt (IsS110.lt (show IsS110 w _ g692 t689 t695 t696 from (zl69_1 HI692.out NB692_688.out))) : g692 ≠ gb697)); have n9_ := Aside0.mk ((by rw [hg]; exact Nat.ne_of_gt (IsS110.lt (show IsS110 w _ g692 t689 t695 t696 from (zl69_1 HI692.out NB692_688.out))) : gb697 ≠ g692)); clear BK688; clear HI692; clear HB; have BK688 := n0_; have HI692 := n1_; have HB := n2_; have BK697 := n3_; have GW697 := n4_; have GE697 := n5_; have NB688_697 := n6_; have NB697_688 := n7_; have NB692_697 := n8_; have NB697_692 := n9_; clear n0_ n1_ n2_ n3_ n4_ n5_ n6_ n7_ n8_ n9_; clear hb hbox hg; have hnb33 := NB697_688.out; have hnc33 := NB688_697.out; have hnb34 := NB697_692.out; have hnc34 := NB692_697.out; obtain ⟨hcz35_0, hcz35_1, hfz35_0, hfz35_1⟩ := zq2 BK697.out) | ((with_reducible refine gate_callee (f := 112) rfl ?_); refine zD (some 14) Try.func112 #[.int .i64 4, .int .i64 t693] ?_; (with_reducible refine (spec_l1Max.calls 4 t693 t698 _ A4.out).mono ?_); rintro e w' ⟨rfl, ⟨nd, rfl⟩⟩; refine ⟨_, rfl, ?_⟩) | ((with_reducible refine gate_callee (f := 145) rfl ?_); refine zD (some 15) Try.func145 #[.pointer (some ⟨g692, 0, none⟩), .int .i64 t698] ?_; (with_reducible refine (spec_l3Order.calls k g692 t689 t695 t696 t698 t699 t702 t703 w _ ?side1 ?side2 A5.out).mono ?_); (case side1 => exact (zl69_3 HI692.out NB692_688.out NB692_697.out)); (case side2 => exact (zl69_4 HB.out (IsS110.ge HI692.out) GE688.out GE697.out)); rintro e w36 ⟨v700, rfl, ho0, hi, hb, hk⟩; refine ⟨_, rfl, ?_⟩; replace BK688 := Aside0.mk (KeepBut.blk hk (g' := gb688) (o := .cells #[.int .i64 0, .string (⟨#[]⟩ : ByteArray)] 25 (0, 0)) (zk2 BK688.out NB688_697.out NB688_697.out) NB688_692.out (by simp)); replace BK697 := Aside0.mk (KeepBut.blk hk (g' := gb697) (o := .cells #[.int .i64 t693, .string t694] 25 (0, 0)) (zk0 BK697.out) NB697_692.out (by simp)); have HO701 := Aside0.mk (Kd.R_lower ho0 (below_size (zG3 (IsS110.ge HI692.out) GE688.out GE697.out))); replace HI692 := Aside0.mk (hi); replace HB := Aside0.mk (hb); (try clear hb); (try clear hk); (try clear hi); (try clear ho0)) | ((with_reducible refine gate_callee (f := 127) rfl ?_); refine zD (some 17) Try.func127 #[.pointer (some ⟨g692, 0, none⟩), .int .i64 14] ?_; (with_reducible refine (spec_l1Once.calls g692 t689 t702 t703 14 false t705 t706 w _ ?side1 ?side2 A6.out).mono ?_); (case side1 => exact (zl69_3 HI692.out NB692_688.out NB692_697.out)); (case side2 => exact (zl69_4 HB.out (IsS110.ge HI692.out) GE688.out GE697.out)); rintro e w37 ⟨rfl, hi, hb, hk⟩; refine ⟨_, rfl, ?_⟩; replace BK688 := zKB hk BK688.out NB688_692.out; replace BK697 := zKB hk BK697.out NB697_692.out; replace HO701 := Aside0.mk (Kd.R_mono (Kd.R_keep (IsS110.apart (show IsS110 w _ g692 t689 t702 t703 from (zl69_3 HI692.out NB692_688.out NB692_697.out)) (zR HO701.out) (by decide)) hk (fun _ h => h.2)) (fun _ h => h.1)); replace HI692 := Aside0.mk (hi); replace HB := Aside0.mk (hb); (try clear hb); (try clear hk); (try clear hi)))
  replace HO701 := Aside0.mk (Kd.R_drew HO701.out)
  replace BK688 := Aside0.mk (blk_drew BK688.out)
  replace BK697 := Aside0.mk (blk_drew BK697.out)
  replace HI692 := Aside0.mk (IsS110.drew HI692.out)
  replace HB := Aside0.mk (below_drew1 HB.out)
  obtain ⟨Ao39, co39, eo39⟩ := Kd.R_slice HO701.out
  (first | subst eo39 | (injection eo39 with f1_ f2_ f3_; have f4_ := f1_.symm; have f5_ := f3_.symm; clear f1_ f2_ f3_; subst f4_; subst f5_))
  have q40 : (4 : Int) ≤ ((t699.length : Int) : Int) := zA
  obtain ⟨i040, hi040, _, hsz40, _⟩ := info_parts info3
  have hcut40 := cut_to (P := Try.prog) 27 3 .i64 Try.underlying27 hi040 Ao39 t699.length co39 4 (by omega) q40 (Kd.R_reads' HO701.out).2.1
  have hr40 := Kd.R_take (m := (4 : Int).toNat) HO701.out (by omega)
  have hy40 : y714.length = (4 : Int).toNat := (by rw [Ny714.out, List.length_take]; omega)
  rw [← Ny714.out] at hr40
  rw [← hy40] at hr40 hcut40
  clear hy40 hi040 hsz40 HO701
  have HO716 := Aside0.mk hr40
  clear hr40
  replace q40 := eq_true q40
  refine start_ (n := 5) (S := fun w' => w'.cell? ⟨gb697, 0, none⟩ = some (.int .i64 t693) ∧ w'.cell? ⟨gb697, 1, none⟩ = some (.string t694)) (ds := []) #[false, false, false, false, false] (by kernel_rfl) rfl rfl ⟨(blk_cell BK697.out 0).trans rfl, (blk_cell BK697.out 1).trans rfl⟩ (fun hHeld => ?_)
  generalize w37.drew = w38 at BK688 BK697 HI692 HB HO716 hHeld ⊢
  refine pure_ (i := 1) (N := some 24) (v := ?_) (a' := ?_) #[false, true, false, false, false] rfl rfl (by kernel_rfl) (fun _ _ _ h => h) (Or.inl ⟨by rfl, ?_⟩) ?_ ?_
  rotate_left
  ·intro w'
   go_simp
   with_reducible rfl
  rotate_left
  ·simp only [Act.put, List.setIfInBounds_toArray, List.set_cons_zero, List.set_cons_succ, i64_w, i32_w]
   rfl
  refine pure_ (i := 2) (N := some 25) (v := ?_) (a' := ?_) #[false, true, true, false, false] rfl rfl (by kernel_rfl) (fun _ _ _ h => h) (Or.inl ⟨by rfl, ?_⟩) ?_ ?_
  rotate_left
  ·intro w'
   go_simp
   with_reducible rfl
  rotate_left
  ·simp only [Act.put, List.setIfInBounds_toArray, List.set_cons_zero, List.set_cons_succ, i64_w, i32_w]
   rfl
  refine take_ (i := 0) (N := some 23) (v := ?_) (a' := ?_) #[true, true, true, false, false] rfl rfl (by kernel_rfl) (fun _ _ _ h => h) (Or.inl ⟨by rfl, ?_⟩) hHeld ?_ ?_
  rotate_left
  ·rintro w' ⟨s0, s1⟩
   go_simp
   with_reducible rfl
  rotate_left
  ·simp only [Act.put, List.setIfInBounds_toArray, List.set_cons_zero, List.set_cons_succ, i64_w, i32_w]
   rfl
  refine one_ (i := 3) (N := none) #[true, true, true, true, false] rfl rfl (by kernel_rfl) (by decide) (fun K hK => ?_)
  have hs41 : w38.cell? ⟨gb688, 0, none⟩ = some (.int .i64 0) := (blk_cell BK688.out 0).trans rfl
  have hfs41 := blk_frozen BK688.out 0
  have hns41_1 := NB697_688.out
  have hms41_1 := NB688_697.out
  have hs42 : w38.cell? ⟨gb688, 1, none⟩ = some (.string (⟨#[]⟩ : ByteArray)) := (blk_cell BK688.out 1).trans rfl
  have hfs42 := blk_frozen BK688.out 1
  have hns42_1 := NB697_688.out
  have hms42_1 := NB688_697.out
  refine skip_ (w1 := ?_) (by rfl) rfl ?_ ?_
  rotate_left
  ·go_simp
   rfl
  refine hK.out _ _ ⟨((cell_far (p := ⟨gb688, _, none⟩) NB697_688.out _).trans (((cell_far (p := ⟨gb688, _, none⟩) NB697_688.out _).trans (hHeld.1)))), ((cell_far (p := ⟨gb688, _, none⟩) NB697_688.out _).trans (((cell_far (p := ⟨gb688, _, none⟩) NB697_688.out _).trans (hHeld.2))))⟩ (fun hHeld => ?_)
  clear hK K
  refine pure_ (i := 4) (N := some 3) (v := ?_) (a' := ?_) #[true, true, true, true, true] rfl rfl (by kernel_rfl) (fun _ _ _ h => h) (Or.inl ⟨by rfl, ?_⟩) ?_ ?_
  rotate_left
  ·intro w'
   go_simp
   with_reducible rfl
  rotate_left
  ·simp only [Act.put, List.setIfInBounds_toArray, List.set_cons_zero, List.set_cons_succ, i64_w, i32_w]
   rfl
  refine done_ (by kernel_rfl) ?_
  try go_wp2
  refine bodyPost_ret (results_ct rfl _ _ gb688 25 #[.int .i64 t693, .string t694] (0, 0) _ rfl (zk0 BK688.out) Try.underlying25 rfl (by kernel_rfl)) rfl ?_
  exact ⟨_, zE, by (with_reducible repeat (first | apply Kd.R_alloc | apply Kd.R_drewN | apply Kd.R_drew)); exact Kd.R_mono (Kd.R_far (p := ⟨gb688, 1, none⟩) (Kd.R_far (p := ⟨gb688, 0, none⟩) (Kd.R_types HO716.out BK688.out (by decide)) (fun _ hk => hk.2) (.int .i64 t693)) (fun _ hk => hk.2) (.string t694)) (fun _ hk => trivial), zG3 (IsS110.ge HI692.out) GE688.out GE697.out⟩
 rw [if_neg c28] at H
 exact absurd H (by simp)
/-! ### spec_DrawSplitOf: function 29 -/
def spec_DrawSplitOf.f (k : Nat) (l0 : List Int) : Option (Int × ByteArray × Int × Int × Int × Int) := (spec_l5Four.f k l0).bind fun bt718 => (if 0 < (bt718.2.2.length : Int) then (if 1 < (bt718.2.2.length : Int) then (if 2 < (bt718.2.2.length : Int) then (if 3 < (bt718.2.2.length : Int) then (some (bt718.1, bt718.2.1, rd bt718.2.2 0, rd bt718.2.2 1, rd bt718.2.2 2, rd bt718.2.2 3)) else (none)) else (none)) else (none)) else (none))
def spec_DrawSplitOf.T2 : Bool × List (List Nat × List Nat) := (true, [([], []), ([], []), ([1], [1]), ([2], [2]), ([], []), ([4], [4]), ([5], [5]), ([], []), ([7], [7]), ([8], [8]), ([], []), ([10], [10]), ([11], [11]), ([0, 0], [0]), ([3, 13, 0, 1, 2, 3, 13], [3]), ([6, 14, 0, 1, 2, 3, 4, 5, 6, 13, 14], [6]), ([9, 15, 0, 1, 2, 3, 4, 5, 6, 7, 8, 9, 13, 14, 15], [9]), ([12, 16, 0, 1, 2, 3, 4, 5, 6, 7, 8, 9, 10, 11, 12, 13, 14, 15, 16], [12])])
def spec_DrawSplitOf.B2 : List Nat := [0, 0, 2, 6, 0, 16, 48, 0, 128, 384, 0, 1024, 3072, 1, 8207, 24703, 58367, 131071]
theorem spec_DrawSplitOf.tab2 : rtab .any (opsOf Try.f29 2) = spec_DrawSplitOf.T2 := by kernel_rfl
theorem spec_DrawSplitOf.bits2 : waitsOk spec_DrawSplitOf.T2.2 spec_DrawSplitOf.B2 = true := by kernel_rfl
set_option maxHeartbeats 8000000 in
set_option maxRecDepth 100000 in
theorem spec_DrawSplitOf.calls (k : Nat) (A0 : Option Addr) (c0 : Nat) (l0 : List Int) (r1 : Int) (r2 : ByteArray) (r3 : Int) (r4 : Int) (r5 : Int) (r6 : Int) (w : World) (hr0 : Kd.C (Kd.int .u8) w A0 l0.length l0) (hc0 : l0.length ≤ c0) (h : spec_DrawSplitOf.f k l0 = some (r1, r2, r3, r4, r5, r6)) :
  Calls Try.prog 29 #[.slice A0 l0.length c0] w fun e w' => e = .returned (.tuple #[.agg #[.int .i64 r1, .string r2], .int .i64 r3, .int .i64 r4, .int .i64 r5, .int .i64 r6]) ∧ Below w.heap.size w w' := by
 have hu25 := Try.underlying25
 have HR0 := Aside0.mk hr0
 have HC0 := Aside0.mk hc0
 clear hr0 hc0
 have HB := Aside0.mk (Below.refl w.heap.size w)
 have H : ((spec_l5Four.f k l0).bind fun bt718 => (if 0 < (bt718.2.2.length : Int) then (if 1 < (bt718.2.2.length : Int) then (if 2 < (bt718.2.2.length : Int) then (if 3 < (bt718.2.2.length : Int) then (some (bt718.1, bt718.2.1, rd bt718.2.2 0, rd bt718.2.2 1, rd bt718.2.2 2, rd bt718.2.2 3)) else (none)) else (none)) else (none)) else (none))) = some (r1, r2, r3, r4, r5, r6) := h
 clear h
 obtain ⟨⟨t718, t719, t720⟩, A2, H⟩ := zO H
 dsimp only at H
 by_cases c3 : 0 < (t720.length : Int)
 ·rw [if_pos c3] at H
  have c3b0 : decide (0 < (t720.length : Int)) = true := decide_eq_true c3
  have c3b1 : decide (0 < t720.length) = true := decide_eq_true (by omega)
  clear c3
  by_cases c4 : 1 < (t720.length : Int)
  ·rw [if_pos c4] at H
   have c4b0 : decide (1 < (t720.length : Int)) = true := decide_eq_true c4
   have c4b1 : decide (1 < t720.length) = true := decide_eq_true (by omega)
   clear c4
   by_cases c5 : 2 < (t720.length : Int)
   ·rw [if_pos c5] at H
    have c5b0 : decide (2 < (t720.length : Int)) = true := decide_eq_true c5
    have c5b1 : decide (2 < t720.length) = true := decide_eq_true (by omega)
    clear c5
    by_cases c6 : 3 < (t720.length : Int)
    ·rw [if_pos c6] at H
     have c6b0 : decide (3 < (t720.length : Int)) = true := decide_eq_true c6
     have c6b1 : decide (3 < t720.length) = true := decide_eq_true (by omega)
     clear c6
     simp only [Option.some.injEq, Prod.mk.injEq] at H
     obtain ⟨rfl, rfl, rfl, rfl, rfl, rfl⟩ := H
     go_enter Try.func29, Try.ntmps29
     try go_wp2_with (first | ((with_reducible refine gate_dst (N := 2) rfl ?_); refine zBx (N := 2) #[.int .i64 0, .string (⟨#[]⟩ : ByteArray)] 25 ?_; intro gb717 hg w7 hbox hb; have BK717 := Aside0.mk (hbox); have GW717 := zS hg; have GE717 := zS hg; replace HB := zX hb; clear hb hbox hg) | ((with_reducible refine gate_callee (f := 104) rfl ?_); refine zD (some 11) Try.func104 #[.slice A0 l0.length c0] ?_; (with_reducible refine (spec_l5Four.calls k _ _ l0 t718 t719 t720 _ ?side1 ?side2 A2.out).mono ?_); (case side1 => repeat (first | exact (Kd.C_below HR0.out HB.out) | (with_reducible refine Kd.C_alloc ?_ _) | (with_reducible refine Kd.C_drewN ?_ _) | (with_reducible refine Kd.C_drew ?_))); (case side2 => exact HC0.out); rintro e w8 ⟨v721, rfl, ho0, hb⟩; refine ⟨_, rfl, ?_⟩; have HO722 := Aside0.mk (Kd.R_lower ho0 (below_size (zG GE717.out))); replace BK717 := zV BK717.out hb; replace HB := zX1 GE717.out hb; (try clear hb); (try clear ho0)) | ((with_reducible refine gate_dst (N := 7) rfl ?_); refine zBx (N := 7) #[.int .i64 0, .string (⟨#[]⟩ : ByteArray)] 25 ?_; intro gb723 hg w9 hbox hb; replace HO722 := zW HO722.out hb; have BK723 := Aside0.mk (hbox); have GW723 := zSg hg (zG GE717.out); have GE723 := zSg hg (zG GE717.out); have NB717_723 := zL hg BK717.out; have NB723_717 := zLg hg BK717.out; replace BK717 := zV BK717.out hb; replace HB := zX1 GE717.out hb; clear hb hbox hg; have hnb10 := NB723_717.out; have hnc10 := NB717_723.out; obtain ⟨hcz11_0, hcz11_1, hfz11_0, hfz11_1⟩ := zq2 BK723.out))
     have n0_ : Aside0 (Kd.R (Kd.int .i64) 3 ((w9.setCell ⟨gb723, 0, none⟩ (.int .i64 t718)).setCell ⟨gb723, 1, none⟩ (.string t719)) w.heap.size (fun _ => True) v721 t720) := ⟨by (with_reducible repeat (first | apply Kd.R_alloc | apply Kd.R_drewN | apply Kd.R_drew)); exact Kd.R_mono (Kd.R_far (p := ⟨gb723, 1, none⟩) (Kd.R_far (p := ⟨gb723, 0, none⟩) (Kd.R_types HO722.out BK723.out (by decide)) (fun _ hk => hk.2) (.int .i64 t718)) (fun _ hk => hk.2) (.string t719)) (fun _ hk => trivial)⟩
     have n1_ : Aside0 (((w9.setCell ⟨gb723, 0, none⟩ (.int .i64 t718)).setCell ⟨gb723, 1, none⟩ (.string t719)).heap[gb717]? = some (.cells #[.int .i64 0, .string (⟨#[]⟩ : ByteArray)] 25 (0, 0))) := ⟨zk2 BK717.out NB717_723.out NB717_723.out⟩
     have n2_ : Aside0 (((w9.setCell ⟨gb723, 0, none⟩ (.int .i64 t718)).setCell ⟨gb723, 1, none⟩ (.string t719)).heap[gb723]? = some (.cells #[.int .i64 t718, .string t719] 25 (0, 0))) := ⟨zk0 BK723.out⟩
     have n3_ : Aside0 (Below w.heap.size w ((w9.setCell ⟨gb723, 0, none⟩ (.int .i64 t718)).setCell ⟨gb723, 1, none⟩ (.string t719))) := ⟨zG2 GE717.out GE723.out⟩
     (try clear HO722)
     (try clear BK717)
     (try clear BK723)
     (try clear HB)
     generalize ((w9.setCell ⟨gb723, 0, none⟩ (.int .i64 t718)).setCell ⟨gb723, 1, none⟩ (.string t719)) = w12 at n0_ n1_ n2_ n3_ ⊢
     have HO722 := n0_
     have BK717 := n1_
     have BK723 := n2_
     have HB := n3_
     clear n0_ n1_ n2_ n3_
     replace HO722 := Aside0.mk (Kd.R_drew HO722.out)
     replace BK717 := Aside0.mk (blk_drew BK717.out)
     replace BK723 := Aside0.mk (blk_drew BK723.out)
     replace HB := Aside0.mk (below_drew1 HB.out)
     obtain ⟨Ao14, co14, eo14⟩ := Kd.R_slice HO722.out
     (first | subst eo14 | (injection eo14 with f1_ f2_ f3_; have f4_ := f1_.symm; have f5_ := f3_.symm; clear f1_ f2_ f3_; subst f4_; subst f5_))
     have p724 : 0 ≤ (0 : Int) := (by omega)
     have q724 : 0 < (t720.length : Int) := zA
     obtain ⟨ad724, e724, hx724_0⟩ := Kd.at_int (Kd.R_reads' HO722.out).2.2 0 p724 q724
     cases e724
     have qi724 : (0 < t720.length) = True := eq_true (by omega)
     (try rw [show ((0 : Int)).toNat = 0 from rfl] at hx724_0)
     (try rw [Addr.add_zero'] at hx724_0)
     replace p724 := eq_true p724
     replace q724 := eq_true q724
     have p725 : 0 ≤ (1 : Int) := (by omega)
     have q725 : 1 < (t720.length : Int) := zA
     obtain ⟨ad725, e725, hx725_0⟩ := Kd.at_int (Kd.R_reads' HO722.out).2.2 1 p725 q725
     obtain rfl : ad724 = ad725 := (by injection e725)
     (try simp only [show (1 : Int).toNat = 1 from rfl, Nat.reduceMul, Nat.reduceEqDiff, Go.Addr.add, ↓reduceIte] at hx725_0)
     have qi725 : (1 < t720.length) = True := eq_true (by omega)
     (try rw [show ((1 : Int)).toNat = 1 from rfl] at hx725_0)
     replace p725 := eq_true p725
     replace q725 := eq_true q725
     have p726 : 0 ≤ (2 : Int) := (by omega)
     have q726 : 2 < (t720.length : Int) := zA
     obtain ⟨ad726, e726, hx726_0⟩ := Kd.at_int (Kd.R_reads' HO722.out).2.2 2 p726 q726
     obtain rfl : ad724 = ad726 := (by injection e726)
     (try simp only [show (2 : Int).toNat = 2 from rfl, Nat.reduceMul, Nat.reduceEqDiff, Go.Addr.add, ↓reduceIte] at hx726_0)
     have qi726 : (2 < t720.length) = True := eq_true (by omega)
     (try rw [show ((2 : Int)).toNat = 2 from rfl] at hx726_0)
     replace p726 := eq_true p726
     replace q726 := eq_true q726
     have p727 : 0 ≤ (3 : Int) := (by omega)
     have q727 : 3 < (t720.length : Int) := zA
     obtain ⟨ad727, e727, hx727_0⟩ := Kd.at_int (Kd.R_reads' HO722.out).2.2 3 p727 q727
     obtain rfl : ad724 = ad727 := (by injection e727)
     (try simp only [show (3 : Int).toNat = 3 from rfl, Nat.reduceMul, Nat.reduceEqDiff, Go.Addr.add, ↓reduceIte] at hx727_0)
     have qi727 : (3 < t720.length) = True := eq_true (by omega)
     (try rw [show ((3 : Int)).toNat = 3 from rfl] at hx727_0)
     replace p727 := eq_true p727
     replace q727 := eq_true q727
     refine start_ (n := 18) (S := fun w' => w'.cell? ⟨gb723, 0, none⟩ = some (.int .i64 t718) ∧ w'.cell? ⟨gb723, 1, none⟩ = some (.string t719) ∧ w'.cell? ad724 = some (.int .i64 (rd t720 0)) ∧ w'.cell? ⟨ad724.block, ad724.off + 1, none⟩ = some (.int .i64 (rd t720 1)) ∧ w'.cell? ⟨ad724.block, ad724.off + 2, none⟩ = some (.int .i64 (rd t720 2)) ∧ w'.cell? ⟨ad724.block, ad724.off + 3, none⟩ = some (.int .i64 (rd t720 3))) (ds := []) #[false, false, false, false, false, false, false, false, false, false, false, false, false, false, false, false, false, false] (by kernel_rfl) rfl rfl ⟨(blk_cell BK723.out 0).trans rfl, (blk_cell BK723.out 1).trans rfl, hx724_0, hx725_0, hx726_0, hx727_0⟩ (fun hHeld => ?_); refine with_tabW spec_DrawSplitOf.tab2 spec_DrawSplitOf.bits2 (fun HT_ HW_ => ?_)
     generalize w12.drew = w13 at HO722 BK717 BK723 HB hx724_0 hx725_0 hx726_0 hx727_0 hHeld ⊢
     refine zP 1 (some 15) rfl rfl ?_
     refine zP 2 (some 16) rfl rfl ?_
     refine zP 4 (some 18) rfl rfl ?_
     refine zP 5 (some 19) rfl rfl ?_
     refine zP 7 (some 21) rfl rfl ?_
     refine zP 8 (some 22) rfl rfl ?_
     refine zP 10 (some 24) rfl rfl ?_
     refine zP 11 (some 25) rfl rfl ?_
     refine zY6 0 (some 14) rfl rfl hHeld ?_
     refine zY6 3 (some 17) rfl rfl hHeld ?_
     refine zY6 6 (some 20) rfl rfl hHeld ?_
     refine zY6 9 (some 23) rfl rfl hHeld ?_
     refine zY6 12 (some 26) rfl rfl hHeld ?_
     refine zU 13 none rfl rfl (fun K hK => ?_)
     have hs15 : w13.cell? ⟨gb717, 0, none⟩ = some (.int .i64 0) := (blk_cell BK717.out 0).trans rfl
     have hfs15 := blk_frozen BK717.out 0
     have hns15_1 := NB723_717.out
     have hms15_1 := NB717_723.out
     have hs16 : w13.cell? ⟨gb717, 1, none⟩ = some (.string (⟨#[]⟩ : ByteArray)) := (blk_cell BK717.out 1).trans rfl
     have hfs16 := blk_frozen BK717.out 1
     have hns16_1 := NB723_717.out
     have hms16_1 := NB717_723.out
     refine skip_ (w1 := ?_) (by rfl) rfl ?_ ?_
     rotate_left
     ·go_simp
      rfl
     refine hK.out _ _ ⟨((cell_far (p := ⟨gb717, _, none⟩) NB723_717.out _).trans (((cell_far (p := ⟨gb717, _, none⟩) NB723_717.out _).trans (hHeld.1)))), ((cell_far (p := ⟨gb717, _, none⟩) NB723_717.out _).trans (((cell_far (p := ⟨gb717, _, none⟩) NB723_717.out _).trans (hHeld.2.1)))), ((cell_far (p := ⟨gb717, _, none⟩) (by first | exact Kd.own_blk (Kd.R_ne HO722.out BK717.out (by decide)) | (rw [add_block]; exact Kd.own_blk (Kd.R_ne HO722.out BK717.out (by decide))) | (show (Addr.add _ _).block ≠ _; rw [add_block]; exact Kd.own_blk (Kd.R_ne HO722.out BK717.out (by decide))) | (dsimp only; exact Kd.own_blk (Kd.R_ne HO722.out BK717.out (by decide)))) _).trans (((cell_far (p := ⟨gb717, _, none⟩) (by first | exact Kd.own_blk (Kd.R_ne HO722.out BK717.out (by decide)) | (rw [add_block]; exact Kd.own_blk (Kd.R_ne HO722.out BK717.out (by decide))) | (show (Addr.add _ _).block ≠ _; rw [add_block]; exact Kd.own_blk (Kd.R_ne HO722.out BK717.out (by decide))) | (dsimp only; exact Kd.own_blk (Kd.R_ne HO722.out BK717.out (by decide)))) _).trans (hHeld.2.2.1)))), ((cell_far (p := ⟨gb717, _, none⟩) (by first | exact Kd.own_blk (Kd.R_ne HO722.out BK717.out (by decide)) | (rw [add_block]; exact Kd.own_blk (Kd.R_ne HO722.out BK717.out (by decide))) | (show (Addr.add _ _).block ≠ _; rw [add_block]; exact Kd.own_blk (Kd.R_ne HO722.out BK717.out (by decide))) | (dsimp only; exact Kd.own_blk (Kd.R_ne HO722.out BK717.out (by decide)))) _).trans (((cell_far (p := ⟨gb717, _, none⟩) (by first | exact Kd.own_blk (Kd.R_ne HO722.out BK717.out (by decide)) | (rw [add_block]; exact Kd.own_blk (Kd.R_ne HO722.out BK717.out (by decide))) | (show (Addr.add _ _).block ≠ _; rw [add_block]; exact Kd.own_blk (Kd.R_ne HO722.out BK717.out (by decide))) | (dsimp only; exact Kd.own_blk (Kd.R_ne HO722.out BK717.out (by decide)))) _).trans (hHeld.2.2.2.1)))), ((cell_far (p := ⟨gb717, _, none⟩) (by first | exact Kd.own_blk (Kd.R_ne HO722.out BK717.out (by decide)) | (rw [add_block]; exact Kd.own_blk (Kd.R_ne HO722.out BK717.out (by decide))) | (show (Addr.add _ _).block ≠ _; rw [add_block]; exact Kd.own_blk (Kd.R_ne HO722.out BK717.out (by decide))) | (dsimp only; exact Kd.own_blk (Kd.R_ne HO722.out BK717.out (by decide)))) _).trans (((cell_far (p := ⟨gb717, _, none⟩) (by first | exact Kd.own_blk (Kd.R_ne HO722.out BK717.out (by decide)) | (rw [add_block]; exact Kd.own_blk (Kd.R_ne HO722.out BK717.out (by decide))) | (show (Addr.add _ _).block ≠ _; rw [add_block]; exact Kd.own_blk (Kd.R_ne HO722.out BK717.out (by decide))) | (dsimp only; exact Kd.own_blk (Kd.R_ne HO722.out BK717.out (by decide)))) _).trans (hHeld.2.2.2.2.1)))), ((cell_far (p := ⟨gb717, _, none⟩) (by first | exact Kd.own_blk (Kd.R_ne HO722.out BK717.out (by decide)) | (rw [add_block]; exact Kd.own_blk (Kd.R_ne HO722.out BK717.out (by decide))) | (show (Addr.add _ _).block ≠ _; rw [add_block]; exact Kd.own_blk (Kd.R_ne HO722.out BK717.out (by decide))) | (dsimp only; exact Kd.own_blk (Kd.R_ne HO722.out BK717.out (by decide)))) _).trans (((cell_far (p := ⟨gb717, _, none⟩) (by first | exact Kd.own_blk (Kd.R_ne HO722.out BK717.out (by decide)) | (rw [add_block]; exact Kd.own_blk (Kd.R_ne HO722.out BK717.out (by decide))) | (show (Addr.add _ _).block ≠ _; rw [add_block]; exact Kd.own_blk (Kd.R_ne HO722.out BK717.out (by decide))) | (dsimp only; exact Kd.own_blk (Kd.R_ne HO722.out BK717.out (by decide)))) _).trans (hHeld.2.2.2.2.2))))⟩ (fun hHeld => ?_)
     clear hK K
     refine zP 14 (some 3) rfl rfl ?_
     refine zP 15 (some 4) rfl rfl ?_
     refine zP 16 (some 5) rfl rfl ?_
     refine zP 17 (some 6) rfl rfl ?_
     refine done_ (done_of HT_.out (by kernel_rfl)) ?_
     try go_wp2
     refine bodyPost_ret (results_list (rs := [.cell 2 25, .tmp 3, .tmp 4, .tmp 5, .tmp 6]) rfl (by simp) (.cell gb717 25 #[.int .i64 t718, .string t719] (0, 0) _ rfl (zk0 BK717.out) Try.underlying25 rfl (by kernel_rfl) (.tmp (.tmp (.tmp (.tmp .nil)))))) rfl ?_
     exact ⟨zE, zG2 GE717.out GE723.out⟩
    rw [if_neg c6] at H
    exact absurd H (by simp)
   rw [if_neg c5] at H
   exact absurd H (by simp)
  rw [if_neg c4] at H
  exact absurd H (by simp)
 rw [if_neg c3] at H
 exact absurd H (by simp)
/-! ### impl_isElement: function 86 -/
def impl_isElement.f (a0 : Int) (a1 : Int) : Option (Bool) := if a1 ≥ 0 then (some (decide (a1 < a0))) else (some false)
set_option maxHeartbeats 8000000 in
set_option maxRecDepth 100000 in
theorem impl_isElement.calls (a0 : Int) (a1 : Int) (r : Bool) (w : World) (h : impl_isElement.f a0 a1 = some r) :
  Calls Try.prog 86 #[.int .i64 a0, .int .i64 a1] w fun e w' => e = .returned (.bool r) ∧ Drawn0 w w' := by
 have H : (if a1 ≥ 0 then (some (decide (a1 < a0))) else (some false)) = some r := h
 clear h
 by_cases c3 : a1 ≥ 0
 ·rw [if_pos c3] at H
  have c3b0 : decide (0 ≤ a1) = true := decide_eq_true c3
  clear c3
  obtain rfl := Option.some.inj H
  go_enter Try.func86, Try.ntmps86
  go_wp2
  go_ret
  exact ⟨by first | rfl | (simp; done) | (simp [*]; done), by repeat (first | exact Drawn0.refl _ | apply Drawn0.step)⟩
 rw [if_neg c3] at H
 have c3b0 : decide (0 ≤ a1) = false := decide_eq_false c3
 clear c3
 obtain rfl := Option.some.inj H
 go_enter Try.func86, Try.ntmps86
 go_wp2
 go_ret
 exact ⟨by first | rfl | (simp; done) | (simp [*]; done), by repeat (first | exact Drawn0.refl _ | apply Drawn0.step)⟩
/-! ### slices_Index_int_int: function 157 -/
def slices_Index_int_int.l0 : Nat → List Int → Int → Int → Int → Option (Int)
 | 0, _, _, _, _ => none
 | k + 1, x0, x1, x7, x8 => if x8 < x7 then (if 0 ≤ x8 then (if x8 < (x0.length : Int) then (if x1 = (rd x0 x8) then (some x8) else (slices_Index_int_int.l0 k x0 x1 x7 (wrap64 (x8 + 1)))) else (none)) else (none)) else (some (-1))
def slices_Index_int_int.f (k : Nat) (l0 : List Int) (a1 : Int) : Option (Int) := slices_Index_int_int.l0 k l0 a1 (l0.length : Int) 0
theorem slices_Index_int_int.mono_l : ∀ k, (∀ y0 y1 y2 y3, LeO (slices_Index_int_int.l0 k y0 y1 y2 y3) (slices_Index_int_int.l0 (k + 1) y0 y1 y2 y3))
 | 0 => fun _ _ _ _ r h => by simp [slices_Index_int_int.l0] at h
 | k + 1 => by
  have ih0 := slices_Index_int_int.mono_l k
  ·intro y0 y1 y2 y3
   unfold slices_Index_int_int.l0
   repeat' first
   | (with_reducible first | exact ih0 .. | exact LeO.refl _ | exact LeO.none _ | refine LeO.ite ?_ ?_ | refine LeO.bind ?_ (fun _ => ?_))
   | exact ih0 .. | exact LeO.none _ | refine LeO.ite ?_ ?_ | refine LeO.bind ?_ (fun _ => ?_)
theorem slices_Index_int_int.mono : ∀ a0 a1 k, LeO (slices_Index_int_int.f k a0 a1) (slices_Index_int_int.f (k + 1) a0 a1) := by
 intro a0 a1 k
 have ih0 := slices_Index_int_int.mono_l k
 unfold slices_Index_int_int.f
 repeat' first
   | (with_reducible first | exact ih0 .. | exact LeO.refl _ | exact LeO.none _ | refine LeO.ite ?_ ?_ | refine LeO.bind ?_ (fun _ => ?_))
   | exact ih0 .. | exact LeO.none _ | refine LeO.ite ?_ ?_ | refine LeO.bind ?_ (fun _ => ?_)
set_option maxHeartbeats 8000000 in
set_option maxRecDepth 100000 in
theorem slices_Index_int_int.calls (k : Nat) (A0 : Option Addr) (c0 : Nat) (l0 : List Int) (a1 : Int) (r : Int) (w : World) (hr0 : Kd.C (Kd.int .i64) w A0 l0.length l0) (hc0 : l0.length ≤ c0) (h : slices_Index_int_int.f k l0 a1 = some r) :
  Calls Try.prog 157 #[.slice A0 l0.length c0, .int .i64 a1] w fun e w' => e = .returned (.int .i64 r) ∧ Drawn0 w w' := by
 have HR0 := Aside0.mk hr0
 have HC0 := Aside0.mk hc0
 clear hr0 hc0
 have H : (slices_Index_int_int.l0 k l0 a1 (l0.length : Int) 0) = some r := h
 clear h
 have H' := Aside0.mk H; clear H
 go_enter Try.func157, Try.ntmps157
 go_wp2
 go_loopg [8] k (fun kq v8 w' => ∃ (x8_1 : Int), v8 = .int .i64 x8_1 ∧ Aside0 (slices_Index_int_int.l0 kq l0 a1 (l0.length : Int) x8_1 = some r) ∧ Aside0 (kq ≤ k) ∧ Drawn0 w w')
 case atStart => exact ⟨(0), zF, H', ⟨Nat.le_refl _⟩, by repeat (first | exact Drawn0.refl _ | apply Drawn0.step)⟩
 case round =>
 clear H'
 obtain ⟨x8_1, rfl, HA, HK1, ⟨m1, rfl⟩⟩ := hrel
 cases gk with
 | zero => exact absurd HA.out (by simp [slices_Index_int_int.l0])
 | succ k1 =>
 have H := HA.out
 clear HA
 simp only [slices_Index_int_int.l0] at H
 by_cases c3 : x8_1 < (l0.length : Int)
 ·rw [if_pos c3] at H
  have c3b0 : decide (x8_1 < (l0.length : Int)) = true := decide_eq_true c3
  clear c3
  by_cases c4 : 0 ≤ x8_1
  ·rw [if_pos c4] at H
   have c4b0 : decide (0 ≤ x8_1) = true := decide_eq_true c4
   clear c4
   by_cases c5 : x8_1 < (l0.length : Int)
   ·rw [if_pos c5] at H
    have c5b0 : decide (x8_1 < (l0.length : Int)) = true := decide_eq_true c5
    clear c5
    by_cases c6 : a1 = (rd l0 x8_1)
    ·rw [if_pos c6] at H
     have c6b0 : (a1 == (rd l0 x8_1)) = true := beq_iff_eq.mpr c6
     have c6b1 : (a1 != (rd l0 x8_1)) = false := bne_eq_false_iff_eq.mpr c6
     clear c6
     obtain rfl := Option.some.inj H
     have p510 : 0 ≤ (x8_1 : Int) := zA
     have q510 : x8_1 < (l0.length : Int) := zA
     obtain ⟨ad510, e510, hx510_0⟩ := Kd.at_int HR0.out x8_1 p510 q510
     cases e510
     replace p510 := eq_true p510
     replace q510 := eq_true q510
     go_wp2
     go_ret
     exact ⟨by first | rfl | (simp; done) | (simp [*]; done), by repeat (first | exact Drawn0.refl _ | apply Drawn0.step)⟩
    rw [if_neg c6] at H
    have c6b0 : (a1 == (rd l0 x8_1)) = false := beq_eq_false_iff_ne.mpr c6
    have c6b1 : (a1 != (rd l0 x8_1)) = true := bne_iff_ne.mpr c6
    have H' := Aside0.mk H; clear H
    have p510 : 0 ≤ (x8_1 : Int) := zA
    have q510 : x8_1 < (l0.length : Int) := zA
    obtain ⟨ad510, e510, hx510_0⟩ := Kd.at_int HR0.out x8_1 p510 q510
    cases e510
    replace p510 := eq_true p510
    replace q510 := eq_true q510
    go_wp2
    go_roundg k1
    case measure => have := HK1.out; omega
    case rel => exact ⟨(wrap64 (x8_1 + 1)), zF, H', ⟨by have := HK1.out; omega⟩, by repeat (first | exact Drawn0.refl _ | apply Drawn0.step)⟩
   rw [if_neg c5] at H
   exact absurd H (by simp)
  rw [if_neg c4] at H
  exact absurd H (by simp)
 rw [if_neg c3] at H
 have c3b0 : decide (x8_1 < (l0.length : Int)) = false := decide_eq_false c3
 clear c3
 obtain rfl := Option.some.inj H
 go_wp2
 go_ret
 exact ⟨by first | rfl | (simp; done) | (simp [*]; done), by repeat (first | exact Drawn0.refl _ | apply Drawn0.step)⟩
/-! ### slices_Contains_int_int: function 146 -/
def slices_Contains_int_int.f (k : Nat) (l0 : List Int) (a1 : Int) : Option (Bool) := (slices_Index_int_int.f k l0 a1).bind fun t511 => (some (decide (t511 ≥ 0)))
theorem slices_Contains_int_int.mono : ∀ a0 a1 k, LeO (slices_Contains_int_int.f k a0 a1) (slices_Contains_int_int.f (k + 1) a0 a1) := by
 intro a0 a1 k
 unfold slices_Contains_int_int.f
 repeat' first
   | (with_reducible exact slices_Index_int_int.mono _ _ _)
   | (with_reducible exact LeO.refl _)
   | (with_reducible exact LeO.none _)
   | (with_reducible refine LeO.ite ?_ ?_)
   | (with_reducible refine LeO.bind ?_ (fun _ => ?_))
   | exact slices_Index_int_int.mono _ _ _
   | exact LeO.none _
   | refine LeO.ite ?_ ?_
   | refine LeO.bind ?_ (fun _ => ?_)
set_option maxHeartbeats 8000000 in
set_option maxRecDepth 100000 in
theorem slices_Contains_int_int.calls (k : Nat) (A0 : Option Addr) (c0 : Nat) (l0 : List Int) (a1 : Int) (r : Bool) (w : World) (hr0 : Kd.C (Kd.int .i64) w A0 l0.length l0) (hc0 : l0.length ≤ c0) (h : slices_Contains_int_int.f k l0 a1 = some r) :
  Calls Try.prog 146 #[.slice A0 l0.length c0, .int .i64 a1] w fun e w' => e = .returned (.bool r) ∧ Drawn0 w w' := by
 have HR0 := Aside0.mk hr0
 have HC0 := Aside0.mk hc0
 clear hr0 hc0
 have H : ((slices_Index_int_int.f k l0 a1).bind fun t511 => (some (decide (t511 ≥ 0)))) = some r := h
 clear h
 obtain ⟨t511, A3, H⟩ := zO H
 obtain rfl := Option.some.inj H
 go_enter Try.func146, Try.ntmps146
 go_wp2_with (first | ((with_reducible refine gate_callee (f := 157) rfl ?_); refine zD (some 7) Try.func157 #[.slice A0 l0.length c0, .int .i64 a1] ?_; (with_reducible refine (slices_Index_int_int.calls k _ _ l0 a1 t511 _ ?side1 ?side2 A3.out).mono ?_); (case side1 => repeat (first | exact HR0.out | (with_reducible refine Kd.C_alloc ?_ _) | (with_reducible refine Kd.C_drewN ?_ _) | (with_reducible refine Kd.C_drew ?_))); (case side2 => exact HC0.out); rintro e w' ⟨rfl, ⟨nd, rfl⟩⟩; refine ⟨_, rfl, ?_⟩))
 go_ret
 exact ⟨by first | rfl | (simp; done) | (simp [*]; done), by repeat (first | exact Drawn0.refl _ | apply Drawn0.step)⟩
/-! ### impl_areDifferent: function 95 -/
def impl_areDifferent.l0 : Nat → Int → List Int → List Int → Int → Int → Option (Bool)
 | 0, _, _, _, _, _ => none
 | k + 1, x0, x1, x7, x8, x9 => if x9 < x8 then (if 0 ≤ x9 then (if x9 < (x7.length : Int) then ((impl_isElement.f x0 (rd x7 x9)).bind fun t513 => (if t513 = true then (if x9 ≤ (x1.length : Int) then ((slices_Contains_int_int.f k (x1.take (x9 : Int).toNat) (rd x7 x9)).bind fun t515 => (if t515 = true then (some false) else (impl_areDifferent.l0 k x0 x1 x7 x8 (wrap64 (x9 + 1))))) else (none)) else (some false))) else (none)) else (none)) else (some true)
def impl_areDifferent.f (k : Nat) (a0 : Int) (l1 : List Int) : Option (Bool) := impl_areDifferent.l0 k a0 l1 l1 (l1.length : Int) 0
set_option maxHeartbeats 8000000 in
set_option maxRecDepth 100000 in
theorem impl_areDifferent.calls (k : Nat) (a0 : Int) (A1 : Option Addr) (c1 : Nat) (l1 : List Int) (r : Bool) (w : World) (hr1 : Kd.C (Kd.int .i64) w A1 l1.length l1) (hc1 : l1.length ≤ c1) (h : impl_areDifferent.f k a0 l1 = some r) :
  Calls Try.prog 95 #[.int .i64 a0, .slice A1 l1.length c1] w fun e w' => e = .returned (.bool r) ∧ Drawn0 w w' := by
 have HR1 := Aside0.mk hr1
 have HC1 := Aside0.mk hc1
 clear hr1 hc1
 have H : (impl_areDifferent.l0 k a0 l1 l1 (l1.length : Int) 0) = some r := h
 clear h
 have H' := Aside0.mk H; clear H
 go_enter Try.func95, Try.ntmps95
 go_wp2
 go_loopg [9] k (fun kq v9 w' => ∃ (x9_1 : Int), v9 = .int .i64 x9_1 ∧ Aside0 (impl_areDifferent.l0 kq a0 l1 l1 (l1.length : Int) x9_1 = some r) ∧ Aside0 (kq ≤ k) ∧ Drawn0 w w')
 case atStart => exact ⟨(0), zF, H', ⟨Nat.le_refl _⟩, by repeat (first | exact Drawn0.refl _ | apply Drawn0.step)⟩
 case round =>
 clear H'
 obtain ⟨x9_1, rfl, HA, HK1, ⟨m1, rfl⟩⟩ := hrel
 cases gk with
 | zero => exact absurd HA.out (by simp [impl_areDifferent.l0])
 | succ k1 =>
 have H := HA.out
 clear HA
 simp only [impl_areDifferent.l0] at H
 by_cases c3 : x9_1 < (l1.length : Int)
 ·rw [if_pos c3] at H
  have c3b0 : decide (x9_1 < (l1.length : Int)) = true := decide_eq_true c3
  clear c3
  by_cases c4 : 0 ≤ x9_1
  ·rw [if_pos c4] at H
   have c4b0 : decide (0 ≤ x9_1) = true := decide_eq_true c4
   clear c4
   by_cases c5 : x9_1 < (l1.length : Int)
   ·rw [if_pos c5] at H
    have c5b0 : decide (x9_1 < (l1.length : Int)) = true := decide_eq_true c5
    clear c5
    obtain ⟨t513, A6, H⟩ := zO H
    by_cases c7 : t513 = true
    ·subst c7
     replace H := (if_pos rfl).symm.trans H
     have c8b0 := eq_true (zA : 0 ≤ x9_1)
     by_cases c9 : x9_1 ≤ (l1.length : Int)
     ·rw [if_pos c9] at H
      have c9b0 := eq_true c9
      have c9b1 : decide (x9_1 ≤ (l1.length : Int)) = true := decide_eq_true c9
      clear c9
      obtain ⟨t515, A10, H⟩ := zO H
      by_cases c11 : t515 = true
      ·subst c11
       replace H := (if_pos rfl).symm.trans H
       obtain rfl := Option.some.inj H
       have p512 : 0 ≤ (x9_1 : Int) := zA
       have q512 : x9_1 < (l1.length : Int) := zA
       obtain ⟨ad512, e512, hx512_0⟩ := Kd.at_int HR1.out x9_1 p512 q512
       cases e512
       replace p512 := eq_true p512
       replace q512 := eq_true q512
       go_wp2_with (first | ((with_reducible refine gate_callee (f := 86) rfl ?_); refine zD (some 16) Try.func86 #[.int .i64 a0, .int .i64 (rd l1 x9_1)] ?_; (with_reducible refine (impl_isElement.calls a0 (rd l1 x9_1) true _ A6.out).mono ?_); rintro e w' ⟨rfl, ⟨nd, rfl⟩⟩; refine ⟨_, rfl, ?_⟩; obtain ⟨i012, hi012, _, hsz12, _⟩ := info_parts info3; obtain ⟨hcut12, hA12, hC12⟩ := print_take_of (P := Try.prog) (Value.int .i64) 0 27 3 .i64 Try.underlying27 hi012 hsz12 (some ad512) c1 l1 x9_1 (zA) (zA) HC1.out; have HR514 := Aside0.mk (Kd.C_of_reads (h1 := fun _ => rfl) (hA12 _ (Kd.reads_of_C HR1.out))); have HC514 := Aside0.mk hC12; clear hA12 hC12 hi012 hsz12) | (go_at_call 146; have hq_ : (x9_1 : Int) < (l1.length : Int) := zA; refine calls_of_args (args' := #[.slice _ (l1.take (x9_1 : Int).toNat).length _, .int .i64 (rd l1 x9_1)]) (by rw [List.length_take, Nat.min_eq_left (by omega)]) ?_; clear hq_; (with_reducible refine (slices_Contains_int_int.calls k1 _ _ (l1.take (x9_1 : Int).toNat) (rd l1 x9_1) true _ ?side1 ?side2 A10.out).mono ?_); (case side1 => repeat (first | exact HR514.out | (with_reducible refine Kd.C_alloc ?_ _) | (with_reducible refine Kd.C_drewN ?_ _) | (with_reducible refine Kd.C_drew ?_))); (case side2 => exact HC514.out); rintro e w' ⟨rfl, ⟨nd, rfl⟩⟩))
       go_ret
       exact ⟨by first | rfl | (simp; done) | (simp [*]; done), by repeat (first | exact Drawn0.refl _ | apply Drawn0.step)⟩
      replace c11 := Bool.eq_false_iff.mpr c11
      subst c11
      replace H := (if_neg zFf).symm.trans H
      have H' := Aside0.mk H; clear H
      have p512 : 0 ≤ (x9_1 : Int) := zA
      have q512 : x9_1 < (l1.length : Int) := zA
      obtain ⟨ad512, e512, hx512_0⟩ := Kd.at_int HR1.out x9_1 p512 q512
      cases e512
      replace p512 := eq_true p512
      replace q512 := eq_true q512
      go_wp2_with (first | ((with_reducible refine gate_callee (f := 86) rfl ?_); refine zD (some 16) Try.func86 #[.int .i64 a0, .int .i64 (rd l1 x9_1)] ?_; (with_reducible refine (impl_isElement.calls a0 (rd l1 x9_1) true _ A6.out).mono ?_); rintro e w' ⟨rfl, ⟨nd, rfl⟩⟩; refine ⟨_, rfl, ?_⟩; obtain ⟨i013, hi013, _, hsz13, _⟩ := info_parts info3; obtain ⟨hcut13, hA13, hC13⟩ := print_take_of (P := Try.prog) (Value.int .i64) 0 27 3 .i64 Try.underlying27 hi013 hsz13 (some ad512) c1 l1 x9_1 (zA) (zA) HC1.out; have HR514 := Aside0.mk (Kd.C_of_reads (h1 := fun _ => rfl) (hA13 _ (Kd.reads_of_C HR1.out))); have HC514 := Aside0.mk hC13; clear hA13 hC13 hi013 hsz13) | (go_at_call 146; have hq_ : (x9_1 : Int) < (l1.length : Int) := zA; refine calls_of_args (args' := #[.slice _ (l1.take (x9_1 : Int).toNat).length _, .int .i64 (rd l1 x9_1)]) (by rw [List.length_take, Nat.min_eq_left (by omega)]) ?_; clear hq_; (with_reducible refine (slices_Contains_int_int.calls k1 _ _ (l1.take (x9_1 : Int).toNat) (rd l1 x9_1) false _ ?side1 ?side2 A10.out).mono ?_); (case side1 => repeat (first | exact HR514.out | (with_reducible refine Kd.C_alloc ?_ _) | (with_reducible refine Kd.C_drewN ?_ _) | (with_reducible refine Kd.C_drew ?_))); (case side2 => exact HC514.out); rintro e w' ⟨rfl, ⟨nd, rfl⟩⟩))
      go_roundg k1
      case measure => have := HK1.out; omega
      case rel => exact ⟨(wrap64 (x9_1 + 1)), zF, H', ⟨by have := HK1.out; omega⟩, by repeat (first | exact Drawn0.refl _ | apply Drawn0.step)⟩
     rw [if_neg c9] at H
     exact absurd H (by simp)
    replace c7 := Bool.eq_false_iff.mpr c7
    subst c7
    replace H := (if_neg zFf).symm.trans H
    obtain rfl := Option.some.inj H
    have p512 : 0 ≤ (x9_1 : Int) := zA
    have q512 : x9_1 < (l1.length : Int) := zA
    obtain ⟨ad512, e512, hx512_0⟩ := Kd.at_int HR1.out x9_1 p512 q512
    cases e512
    replace p512 := eq_true p512
    replace q512 := eq_true q512
    go_wp2_with (first | ((with_reducible refine gate_callee (f := 86) rfl ?_); refine zD (some 16) Try.func86 #[.int .i64 a0, .int .i64 (rd l1 x9_1)] ?_; (with_reducible refine (impl_isElement.calls a0 (rd l1 x9_1) false _ A6.out).mono ?_); rintro e w' ⟨rfl, ⟨nd, rfl⟩⟩; refine ⟨_, rfl, ?_⟩))
    go_ret
    exact ⟨by first | rfl | (simp; done) | (simp [*]; done), by repeat (first | exact Drawn0.refl _ | apply Drawn0.step)⟩
   rw [if_neg c5] at H
   exact absurd H (by simp)
  rw [if_neg c4] at H
  exact absurd H (by simp)
 rw [if_neg c3] at H
 have c3b0 : decide (x9_1 < (l1.length : Int)) = false := decide_eq_false c3
 clear c3
 obtain rfl := Option.some.inj H
 go_wp2
 go_ret
 exact ⟨by first | rfl | (simp; done) | (simp [*]; done), by repeat (first | exact Drawn0.refl _ | apply Drawn0.step)⟩
/-! ### impl_chi_circuit: function 96 -/
def impl_chi_circuit.l0 : Nat → List Int → List Int → Int → Int → Option (ByteArray)
 | 0, _, _, _, _ => none
 | k + 1, x11, x56, x57, x58 => if x58 < x57 then (if 0 ≤ x58 then (if x58 < (x56.length : Int) then (if (rd x56 x58) > 0 then (if x11.length < 140737488355328 then (impl_chi_circuit.l0 k (x11 ++ [43]) x56 x57 (wrap64 (x58 + 1))) else (none)) else (if x11.length < 140737488355328 then (impl_chi_circuit.l0 k (x11 ++ [45]) x56 x57 (wrap64 (x58 + 1))) else (none))) else (none)) else (none)) else (if 0 < (x11.length : Int) then (if (rd x11 0) = 45 then ((impl_opposite.f (strOfNums x11)).bind fun t457 => (some t457)) else (some (strOfNums x11))) else (none))
def impl_chi_circuit.f (k : Nat) (l0 : List Int) (a1 : Int) (a2 : Int) (a3 : Int) (a4 : Int) : Option (ByteArray) := if 0 ≤ a2 then (if a2 < 7 then (if 0 ≤ a3 then (if a3 < 7 then (if 0 ≤ a4 then (if a4 < 7 then (if 0 ≤ a1 then (if a1 < 7 then ((some (([rd3 l0 a2 a3 a4, wrap64 (-(rd3 l0 a1 a3 a4)), rd3 l0 a1 a2 a4, wrap64 (-(rd3 l0 a1 a2 a3))] : List Int) : List Int)).bind fun y446 => (impl_chi_circuit.l0 k ([] : List Int) y446 (y446.length : Int) 0)) else (none)) else (none)) else (none)) else (none)) else (none)) else (none)) else (none)) else (none)
theorem impl_chi_circuit.mono_l : ∀ k, (∀ y0 y1 y2 y3, LeO (impl_chi_circuit.l0 k y0 y1 y2 y3) (impl_chi_circuit.l0 (k + 1) y0 y1 y2 y3))
 | 0 => fun _ _ _ _ r h => by simp [impl_chi_circuit.l0] at h
 | k + 1 => by
  have ih0 := impl_chi_circuit.mono_l k
  ·intro y0 y1 y2 y3
   unfold impl_chi_circuit.l0
   repeat' first
   | (with_reducible first | exact ih0 .. | exact LeO.refl _ | exact LeO.none _ | refine LeO.ite ?_ ?_ | refine LeO.bind ?_ (fun _ => ?_))
   | exact ih0 .. | exact LeO.none _ | refine LeO.ite ?_ ?_ | refine LeO.bind ?_ (fun _ => ?_)
def impl_chi_circuit.T2 : Bool × List (List Nat × List Nat) := (true, [([], []), ([], []), ([], []), ([], []), ([0], [0]), ([4], [4]), ([5, 1], [1, 5]), ([6, 2], [2, 6]), ([7, 3], [3, 7]), ([8], [8]), ([], []), ([], []), ([], []), ([], []), ([10], [10]), ([14], [14]), ([15, 11], [11, 15]), ([16, 12], [12, 16]), ([17, 13], [13, 17]), ([18], [18]), ([19], [19]), ([], []), ([], []), ([], []), ([], []), ([21], [21]), ([25], [25]), ([26, 22], [22, 26]), ([27, 23], [23, 27]), ([28, 24], [24, 28]), ([29], [29]), ([], []), ([], []), ([], []), ([], []), ([31], [31]), ([35], [35]), ([36, 32], [32, 36]), ([37, 33], [33, 37]), ([38, 34], [34, 38]), ([39], [39]), ([40], [40]), ([9, 20, 30, 41], [9, 20, 30, 41]), ([42], [42]), ([], [])])
def impl_chi_circuit.B2 : List Nat := [0, 0, 0, 0, 1, 17, 51, 119, 255, 511, 0, 0, 0, 0, 1024, 17408, 52224, 121856, 261120, 523264, 1047552, 0, 0, 0, 0, 2097152, 35651584, 106954752, 249561088, 534773760, 1071644672, 0, 0, 0, 0, 2147483648, 36507222016, 109521666048, 255550554112, 547608330240, 1097364144128, 2196875771904, 4398046511103, 8796093022207, 0]
theorem impl_chi_circuit.tab2 : rtab .any (opsOf Try.f96 2) = impl_chi_circuit.T2 := by kernel_rfl
theorem impl_chi_circuit.bits2 : waitsOk impl_chi_circuit.T2.2 impl_chi_circuit.B2 = true := by kernel_rfl
set_option maxHeartbeats 8000000 in
set_option maxRecDepth 100000 in
theorem impl_chi_circuit.calls (k : Nat) (g0 : Nat) (l0 : List Int) (a1 : Int) (a2 : Int) (a3 : Int) (a4 : Int) (r : ByteArray) (w : World) (hr0 : Kd.C (Kd.int .i64) w (some ⟨g0, 0, none⟩) l0.length l0) (hc0 : l0.length = 344) (h : impl_chi_circuit.f k l0 a1 a2 a3 a4 = some r) :
  Calls Try.prog 96 #[.pointer (some ⟨g0, 0, none⟩), .int .i64 a1, .int .i64 a2, .int .i64 a3, .int .i64 a4] w fun e w' => e = .returned (.string r) ∧ Below w.heap.size w w' := by
 have hu115 := Try.underlying115
 have hu113 := Try.underlying113
 have hu112 := Try.underlying112
 have hu111 := Try.underlying111
 have HR0 := Aside0.mk hr0
 have HC0 := Aside0.mk hc0
 clear hr0 hc0
 have HB := Aside0.mk (Below.refl w.heap.size w)
 have H : (if 0 ≤ a2 then (if a2 < 7 then (if 0 ≤ a3 then (if a3 < 7 then (if 0 ≤ a4 then (if a4 < 7 then (if 0 ≤ a1 then (if a1 < 7 then ((some (([rd3 l0 a2 a3 a4, wrap64 (-(rd3 l0 a1 a3 a4)), rd3 l0 a1 a2 a4, wrap64 (-(rd3 l0 a1 a2 a3))] : List Int) : List Int)).bind fun y446 => (impl_chi_circuit.l0 k ([] : List Int) y446 (y446.length : Int) 0)) else (none)) else (none)) else (none)) else (none)) else (none)) else (none)) else (none)) else (none)) = some r := h
 clear h
 by_cases c6 : 0 ≤ a2
 ·rw [if_pos c6] at H
  have c6b0 : decide (0 ≤ a2) = true := decide_eq_true c6
  clear c6
  by_cases c7 : a2 < 7
  ·rw [if_pos c7] at H
   have c7b0 : decide (a2 < 7) = true := decide_eq_true c7
   clear c7
   by_cases c8 : 0 ≤ a3
   ·rw [if_pos c8] at H
    have c8b0 : decide (0 ≤ a3) = true := decide_eq_true c8
    clear c8
    by_cases c9 : a3 < 7
    ·rw [if_pos c9] at H
     have c9b0 : decide (a3 < 7) = true := decide_eq_true c9
     clear c9
     by_cases c10 : 0 ≤ a4
     ·rw [if_pos c10] at H
      have c10b0 : decide (0 ≤ a4) = true := decide_eq_true c10
      clear c10
      by_cases c11 : a4 < 7
      ·rw [if_pos c11] at H
       have c11b0 : decide (a4 < 7) = true := decide_eq_true c11
       clear c11
       by_cases c12 : 0 ≤ a1
       ·rw [if_pos c12] at H
        have c12b0 : decide (0 ≤ a1) = true := decide_eq_true c12
        clear c12
        by_cases c13 : a1 < 7
        ·rw [if_pos c13] at H
         have c13b0 : decide (a1 < 7) = true := decide_eq_true c13
         clear c13
         obtain ⟨y446, hy446⟩ : ∃ y_ : List Int, y_ = (([rd3 l0 a2 a3 a4, wrap64 (-(rd3 l0 a1 a3 a4)), rd3 l0 a1 a2 a4, wrap64 (-(rd3 l0 a1 a2 a3))] : List Int)) := ⟨_, rfl⟩
         replace H : (impl_chi_circuit.l0 k ([] : List Int) y446 (y446.length : Int) 0) = some r := by first | (rw [hy446]; with_reducible exact H) | (have H2_ := (Option.bind_some _ _).symm.trans H; rw [hy446]; with_reducible exact H2_) | (have H2_ := (Option.bind_some _ _).symm.trans H; with_reducible exact H2_) | with_reducible exact H | (rw [hy446]; exact H) | exact H
         have Ny446 := Aside0.mk hy446
         clear hy446
         have H' := Aside0.mk H; clear H
         go_enter Try.func96, Try.ntmps96
         try go_wp2
         replace HB := Aside0.mk (below_drew1 HB.out)
         have pz442_0 : 0 ≤ (a2 : Int) := zA
         have pz442_1 : 0 ≤ (a3 : Int) := zA
         have pz442_2 : 0 ≤ (a4 : Int) := zA
         have qz442_0 : (a2 : Int) < 7 := zA
         have qz442_1 : (a3 : Int) < 7 := zA
         have qz442_2 : (a4 : Int) < 7 := zA
         have hL442 := HC0.out
         have dp442 : decide (0 ≤ ((1 + a2 * 49 + a3 * 7 + a4) : Int)) = true := decide_eq_true (by omega)
         have dq442 : decide ((1 + a2 * 49 + a3 * 7 + a4) < (l0.length : Int)) = true := decide_eq_true (by omega)
         clear hL442
         have p442 : 0 ≤ ((1 + a2 * 49 + a3 * 7 + a4) : Int) := zA
         have q442 : (1 + a2 * 49 + a3 * 7 + a4) < (l0.length : Int) := zA
         obtain ⟨ad442, e442, hx442_0⟩ := Kd.at_int HR0.out (1 + a2 * 49 + a3 * 7 + a4) p442 q442
         obtain rfl : (⟨g0, 0, none⟩ : Addr) = ad442 := (by injection e442)
         (first | simp only [add_plain] at hx442_0 | simp only [add_at] at hx442_0 | simp only [Addr.add, Nat.zero_add] at hx442_0 | skip)
         have hw442_0 := hx442_0
         replace hx442_0 := (HB.out.cell (World.block_lt_of_cell? w _ hx442_0)).trans hx442_0
         replace p442 := eq_true p442
         replace q442 := eq_true q442
         clear dp442 dq442
         clear p442 q442
         rw [show ((1 + a2 * 49 + a3 * 7 + a4) : Int).toNat = 1 + (a2).toNat * 49 + (a3).toNat * 7 + (a4).toNat from by omega] at hx442_0
         change _ = some (Value.int .i64 (rd3 l0 a2 a3 a4)) at hx442_0
         rw [show ((1 + a2 * 49 + a3 * 7 + a4) : Int).toNat = 1 + (a2).toNat * 49 + (a3).toNat * 7 + (a4).toNat from by omega] at hw442_0
         change _ = some (Value.int .i64 (rd3 l0 a2 a3 a4)) at hw442_0
         replace pz442_0 := eq_true pz442_0
         replace pz442_1 := eq_true pz442_1
         replace pz442_2 := eq_true pz442_2
         replace qz442_0 := eq_true qz442_0
         replace qz442_1 := eq_true qz442_1
         replace qz442_2 := eq_true qz442_2
         have pz443_0 : 0 ≤ (a1 : Int) := zA
         have pz443_1 : 0 ≤ (a3 : Int) := zA
         have pz443_2 : 0 ≤ (a4 : Int) := zA
         have qz443_0 : (a1 : Int) < 7 := zA
         have qz443_1 : (a3 : Int) < 7 := zA
         have qz443_2 : (a4 : Int) < 7 := zA
         have hL443 := HC0.out
         have dp443 : decide (0 ≤ ((1 + a1 * 49 + a3 * 7 + a4) : Int)) = true := decide_eq_true (by omega)
         have dq443 : decide ((1 + a1 * 49 + a3 * 7 + a4) < (l0.length : Int)) = true := decide_eq_true (by omega)
         clear hL443
         have p443 : 0 ≤ ((1 + a1 * 49 + a3 * 7 + a4) : Int) := zA
         have q443 : (1 + a1 * 49 + a3 * 7 + a4) < (l0.length : Int) := zA
         obtain ⟨ad443, e443, hx443_0⟩ := Kd.at_int HR0.out (1 + a1 * 49 + a3 * 7 + a4) p443 q443
         obtain rfl : (⟨g0, 0, none⟩ : Addr) = ad443 := (by injection e443)
         (first | simp only [add_plain] at hx443_0 | simp only [add_at] at hx443_0 | simp only [Addr.add, Nat.zero_add] at hx443_0 | skip)
         have hw443_0 := hx443_0
         replace hx443_0 := (HB.out.cell (World.block_lt_of_cell? w _ hx443_0)).trans hx443_0
         replace p443 := eq_true p443
         replace q443 := eq_true q443
         clear dp443 dq443
         clear p443 q443
         rw [show ((1 + a1 * 49 + a3 * 7 + a4) : Int).toNat = 1 + (a1).toNat * 49 + (a3).toNat * 7 + (a4).toNat from by omega] at hx443_0
         change _ = some (Value.int .i64 (rd3 l0 a1 a3 a4)) at hx443_0
         rw [show ((1 + a1 * 49 + a3 * 7 + a4) : Int).toNat = 1 + (a1).toNat * 49 + (a3).toNat * 7 + (a4).toNat from by omega] at hw443_0
         change _ = some (Value.int .i64 (rd3 l0 a1 a3 a4)) at hw443_0
         replace pz443_0 := eq_true pz443_0
         replace pz443_1 := eq_true pz443_1
         replace pz443_2 := eq_true pz443_2
         replace qz443_0 := eq_true qz443_0
         replace qz443_1 := eq_true qz443_1
         replace qz443_2 := eq_true qz443_2
         have pz444_0 : 0 ≤ (a1 : Int) := zA
         have pz444_1 : 0 ≤ (a2 : Int) := zA
         have pz444_2 : 0 ≤ (a4 : Int) := zA
         have qz444_0 : (a1 : Int) < 7 := zA
         have qz444_1 : (a2 : Int) < 7 := zA
         have qz444_2 : (a4 : Int) < 7 := zA
         have hL444 := HC0.out
         have dp444 : decide (0 ≤ ((1 + a1 * 49 + a2 * 7 + a4) : Int)) = true := decide_eq_true (by omega)
         have dq444 : decide ((1 + a1 * 49 + a2 * 7 + a4) < (l0.length : Int)) = true := decide_eq_true (by omega)
         clear hL444
         have p444 : 0 ≤ ((1 + a1 * 49 + a2 * 7 + a4) : Int) := zA
         have q444 : (1 + a1 * 49 + a2 * 7 + a4) < (l0.length : Int) := zA
         obtain ⟨ad444, e444, hx444_0⟩ := Kd.at_int HR0.out (1 + a1 * 49 + a2 * 7 + a4) p444 q444
         obtain rfl : (⟨g0, 0, none⟩ : Addr) = ad444 := (by injection e444)
         (first | simp only [add_plain] at hx444_0 | simp only [add_at] at hx444_0 | simp only [Addr.add, Nat.zero_add] at hx444_0 | skip)
         have hw444_0 := hx444_0
         replace hx444_0 := (HB.out.cell (World.block_lt_of_cell? w _ hx444_0)).trans hx444_0
         replace p444 := eq_true p444
         replace q444 := eq_true q444
         clear dp444 dq444
         clear p444 q444
         rw [show ((1 + a1 * 49 + a2 * 7 + a4) : Int).toNat = 1 + (a1).toNat * 49 + (a2).toNat * 7 + (a4).toNat from by omega] at hx444_0
         change _ = some (Value.int .i64 (rd3 l0 a1 a2 a4)) at hx444_0
         rw [show ((1 + a1 * 49 + a2 * 7 + a4) : Int).toNat = 1 + (a1).toNat * 49 + (a2).toNat * 7 + (a4).toNat from by omega] at hw444_0
         change _ = some (Value.int .i64 (rd3 l0 a1 a2 a4)) at hw444_0
         replace pz444_0 := eq_true pz444_0
         replace pz444_1 := eq_true pz444_1
         replace pz444_2 := eq_true pz444_2
         replace qz444_0 := eq_true qz444_0
         replace qz444_1 := eq_true qz444_1
         replace qz444_2 := eq_true qz444_2
         have pz445_0 : 0 ≤ (a1 : Int) := zA
         have pz445_1 : 0 ≤ (a2 : Int) := zA
         have pz445_2 : 0 ≤ (a3 : Int) := zA
         have qz445_0 : (a1 : Int) < 7 := zA
         have qz445_1 : (a2 : Int) < 7 := zA
         have qz445_2 : (a3 : Int) < 7 := zA
         have hL445 := HC0.out
         have dp445 : decide (0 ≤ ((1 + a1 * 49 + a2 * 7 + a3) : Int)) = true := decide_eq_true (by omega)
         have dq445 : decide ((1 + a1 * 49 + a2 * 7 + a3) < (l0.length : Int)) = true := decide_eq_true (by omega)
         clear hL445
         have p445 : 0 ≤ ((1 + a1 * 49 + a2 * 7 + a3) : Int) := zA
         have q445 : (1 + a1 * 49 + a2 * 7 + a3) < (l0.length : Int) := zA
         obtain ⟨ad445, e445, hx445_0⟩ := Kd.at_int HR0.out (1 + a1 * 49 + a2 * 7 + a3) p445 q445
         obtain rfl : (⟨g0, 0, none⟩ : Addr) = ad445 := (by injection e445)
         (first | simp only [add_plain] at hx445_0 | simp only [add_at] at hx445_0 | simp only [Addr.add, Nat.zero_add] at hx445_0 | skip)
         have hw445_0 := hx445_0
         replace hx445_0 := (HB.out.cell (World.block_lt_of_cell? w _ hx445_0)).trans hx445_0
         replace p445 := eq_true p445
         replace q445 := eq_true q445
         clear dp445 dq445
         clear p445 q445
         rw [show ((1 + a1 * 49 + a2 * 7 + a3) : Int).toNat = 1 + (a1).toNat * 49 + (a2).toNat * 7 + (a3).toNat from by omega] at hx445_0
         change _ = some (Value.int .i64 (rd3 l0 a1 a2 a3)) at hx445_0
         rw [show ((1 + a1 * 49 + a2 * 7 + a3) : Int).toNat = 1 + (a1).toNat * 49 + (a2).toNat * 7 + (a3).toNat from by omega] at hw445_0
         change _ = some (Value.int .i64 (rd3 l0 a1 a2 a3)) at hw445_0
         replace pz445_0 := eq_true pz445_0
         replace pz445_1 := eq_true pz445_1
         replace pz445_2 := eq_true pz445_2
         replace qz445_0 := eq_true qz445_0
         replace qz445_1 := eq_true qz445_1
         replace qz445_2 := eq_true qz445_2
         refine start_ (n := 45) (S := fun w' => w'.cell? ⟨g0, 1 + (a2).toNat * 49 + (a3).toNat * 7 + (a4).toNat, none⟩ = some (.int .i64 (rd3 l0 a2 a3 a4)) ∧ w'.cell? ⟨g0, 1 + (a1).toNat * 49 + (a3).toNat * 7 + (a4).toNat, none⟩ = some (.int .i64 (rd3 l0 a1 a3 a4)) ∧ w'.cell? ⟨g0, 1 + (a1).toNat * 49 + (a2).toNat * 7 + (a4).toNat, none⟩ = some (.int .i64 (rd3 l0 a1 a2 a4)) ∧ w'.cell? ⟨g0, 1 + (a1).toNat * 49 + (a2).toNat * 7 + (a3).toNat, none⟩ = some (.int .i64 (rd3 l0 a1 a2 a3))) (ds := []) #[false, false, false, false, false, false, false, false, false, false, false, false, false, false, false, false, false, false, false, false, false, false, false, false, false, false, false, false, false, false, false, false, false, false, false, false, false, false, false, false, false, false, false, false, false] (by kernel_rfl) rfl rfl ⟨((HB.out.cell (World.block_lt_of_cell? w _ hw442_0)).trans hw442_0), ((HB.out.cell (World.block_lt_of_cell? w _ hw443_0)).trans hw443_0), ((HB.out.cell (World.block_lt_of_cell? w _ hw444_0)).trans hw444_0), ((HB.out.cell (World.block_lt_of_cell? w _ hw445_0)).trans hw445_0)⟩ (fun hHeld => ?_); refine with_tabW impl_chi_circuit.tab2 impl_chi_circuit.bits2 (fun HT_ HW_ => ?_)
         generalize w.drew = w14 at HB hx442_0 hx443_0 hx444_0 hx445_0 hHeld ⊢
         refine zP 0 (some 14) rfl rfl ?_
         refine zP 1 (some 15) rfl rfl ?_
         refine zP 2 (some 16) rfl rfl ?_
         refine zP 3 (some 17) rfl rfl ?_
         refine zP 4 (some 18) rfl rfl ?_
         refine zP 5 (some 19) rfl rfl ?_
         refine zP 6 (some 20) rfl rfl ?_
         refine zP 7 (some 21) rfl rfl ?_
         refine zP 8 (some 22) rfl rfl ?_
         refine zP 10 (some 24) rfl rfl ?_
         refine zP 11 (some 25) rfl rfl ?_
         refine zP 12 (some 26) rfl rfl ?_
         refine zP 13 (some 27) rfl rfl ?_
         refine zP 14 (some 28) rfl rfl ?_
         refine zP 15 (some 29) rfl rfl ?_
         refine zP 16 (some 30) rfl rfl ?_
         refine zP 17 (some 31) rfl rfl ?_
         refine zP 18 (some 32) rfl rfl ?_
         refine zP 21 (some 35) rfl rfl ?_
         refine zP 22 (some 36) rfl rfl ?_
         refine zP 23 (some 37) rfl rfl ?_
         refine zP 24 (some 38) rfl rfl ?_
         refine zP 25 (some 39) rfl rfl ?_
         refine zP 26 (some 40) rfl rfl ?_
         refine zP 27 (some 41) rfl rfl ?_
         refine zP 28 (some 42) rfl rfl ?_
         refine zP 29 (some 43) rfl rfl ?_
         refine zP 31 (some 45) rfl rfl ?_
         refine zP 32 (some 46) rfl rfl ?_
         refine zP 33 (some 47) rfl rfl ?_
         refine zP 34 (some 48) rfl rfl ?_
         refine zP 35 (some 49) rfl rfl ?_
         refine zP 36 (some 50) rfl rfl ?_
         refine zP 37 (some 51) rfl rfl ?_
         refine zP 38 (some 52) rfl rfl ?_
         refine zP 39 (some 53) rfl rfl ?_
         refine zP 44 (some 58) rfl rfl ?_
         refine zY4 9 (some 23) rfl rfl hHeld ?_
         refine zY4 19 (some 33) rfl rfl hHeld ?_
         refine zP 20 (some 34) rfl rfl ?_
         refine zY4 30 (some 44) rfl rfl hHeld ?_
         refine zY4 40 (some 54) rfl rfl hHeld ?_
         refine zP 41 (some 55) rfl rfl ?_
         refine zU 42 (some 56) rfl rfl (fun K hK => ?_)
         refine Kd.R_lit_step (Kd.int .i64) _ 3 ?hg (N := 56) ?hd (xs := ([rd3 l0 a2 a3 a4, wrap64 (-(rd3 l0 a1 a3 a4)), rd3 l0 a1 a2 a4, wrap64 (-(rd3 l0 a1 a2 a3))] : List Int)) (inner := [.int .i64 (rd3 l0 a2 a3 a4), .int .i64 (wrap64 (-(rd3 l0 a1 a3 a4))), .int .i64 (rd3 l0 a1 a2 a4), .int .i64 (wrap64 (-(rd3 l0 a1 a2 a3)))]) (ok := fun _ => True) (okp := fun _ => True) ?hr ?hp (fun _ hk => hk) trivial (Below.refl _ _) (Nat.le_refl _) (by simp) ?_; (case hd => rfl); (case hg => rfl); (case hr => first | (go_simp; done) | (go_simp; rfl)); (case hp => exact (Reps.one (show Kd.M (Kd.int .i64) _ _ _ (rd3 l0 a2 a3 a4) [.int .i64 (rd3 l0 a2 a3 a4)] from rfl) (Reps.one (show Kd.M (Kd.int .i64) _ _ _ (wrap64 (-(rd3 l0 a1 a3 a4))) [.int .i64 (wrap64 (-(rd3 l0 a1 a3 a4)))] from rfl) (Reps.one (show Kd.M (Kd.int .i64) _ _ _ (rd3 l0 a1 a2 a4) [.int .i64 (rd3 l0 a1 a2 a4)] from rfl) (Reps.one (show Kd.M (Kd.int .i64) _ _ _ (wrap64 (-(rd3 l0 a1 a2 a3))) [.int .i64 (wrap64 (-(rd3 l0 a1 a2 a3)))] from rfl) (Reps.none _ _))))))
         intro v447 w15 ho16 hb hg_ hnew_
         clear hg_ hnew_
         (first | rw [← Ny446.out] at ho16 | (simp only [Int.reduceToNat] at ho16; rw [← Ny446.out] at ho16))
         have HO448 := Aside0.mk (Kd.R_lower ho16 (below_size zB))
         replace HB := zX hb
         clear hb ho16
         obtain ⟨Ao17, co17, eo17⟩ := Kd.R_slice HO448.out
         (first | subst eo17 | (injection eo17 with f1_ f2_ f3_; have f4_ := f1_.symm; have f5_ := f3_.symm; clear f1_ f2_ f3_; subst f4_; subst f5_))
         refine hK.out _ _ ⟨((HB.out.cell (World.block_lt_of_cell? w _ hw442_0)).trans hw442_0), ((HB.out.cell (World.block_lt_of_cell? w _ hw443_0)).trans hw443_0), ((HB.out.cell (World.block_lt_of_cell? w _ hw444_0)).trans hw444_0), ((HB.out.cell (World.block_lt_of_cell? w _ hw445_0)).trans hw445_0)⟩ (fun hHeld => ?_)
         clear hK K
         refine zN ?_
         refine zP 43 (some 57) rfl rfl ?_
         refine done_ (done_of HT_.out (by kernel_rfl)) ?_
         try go_wp2
         go_loopg [11, 58] k (fun kq v11 v58 w' => ∃ (x11_1 : List Int) (x58_1 : Int), v58 = .int .i64 x58_1 ∧ Aside0 (impl_chi_circuit.l0 kq x11_1 y446 (y446.length : Int) x58_1 = some r) ∧ Aside0 (kq ≤ k) ∧ Aside0 (Kd.R (Kd.int .u8) 5 w' w.heap.size (fun _ => True) v11 x11_1) ∧ Aside0 (Kd.R (Kd.int .i64) 3 w' w.heap.size (fun _ => True) (.slice Ao17 y446.length co17) y446) ∧ Aside0 (Below w.heap.size w w'))
         case atStart => exact ⟨(([] : List Int)), (0), zF, H', ⟨Nat.le_refl _⟩, ⟨by first | exact Kd.R_nil _ _ _ _ _ | exact Kd.N_nil _ _ _ _ _ | exact Kd.V_nil _ _ _ _ _ | exact Kd.Q_nil _ _ _ _ _ | exact Kd.S_nil _ _ _ _ _⟩, ⟨zR HO448.out⟩, ⟨zB⟩⟩
         case round =>
         clear H'
         try clear c6
         try clear c6b0
         try clear c7
         try clear c7b0
         try clear c8
         try clear c8b0
         try clear c9
         try clear c9b0
         try clear c10
         try clear c10b0
         try clear c11
         try clear c11b0
         try clear c12
         try clear c12b0
         try clear c13
         try clear c13b0
         try clear hx442_0
         try clear hx443_0
         try clear hx444_0
         try clear hx445_0
         try clear p442
         try clear p443
         try clear p444
         try clear p445
         try clear q442
         try clear q443
         try clear q444
         try clear q445
         obtain ⟨x11_1, x58_1, rfl, HA, HK1, HO_11, HO_56, HB⟩ := hrel
         cases gk with
         | zero => exact absurd HA.out (by simp [impl_chi_circuit.l0])
         | succ k1 =>
         have H := HA.out
         clear HA
         simp only [impl_chi_circuit.l0] at H
         by_cases c18 : x58_1 < (y446.length : Int)
         ·rw [if_pos c18] at H
          have c18b0 : decide (x58_1 < (y446.length : Int)) = true := decide_eq_true c18
          clear c18
          by_cases c19 : 0 ≤ x58_1
          ·rw [if_pos c19] at H
           have c19b0 : decide (0 ≤ x58_1) = true := decide_eq_true c19
           clear c19
           by_cases c20 : x58_1 < (y446.length : Int)
           ·rw [if_pos c20] at H
            have c20b0 : decide (x58_1 < (y446.length : Int)) = true := decide_eq_true c20
            clear c20
            by_cases c21 : (rd y446 x58_1) > 0
            ·rw [if_pos c21] at H
             have c21b0 : decide (0 < (rd y446 x58_1)) = true := decide_eq_true c21
             clear c21
             by_cases c22 : x11_1.length < 140737488355328
             ·rw [if_pos c22] at H
              have LMc22 := Aside0.mk c22
              clear c22
              obtain ⟨y450, hy450⟩ : ∃ y_ : List Int, y_ = (x11_1 ++ [43]) := ⟨_, rfl⟩
              replace H : (impl_chi_circuit.l0 k1 y450 y446 (y446.length : Int) (wrap64 (x58_1 + 1))) = some r := by first | (rw [hy450]; with_reducible exact H) | (have H2_ := (Option.bind_some _ _).symm.trans H; rw [hy450]; with_reducible exact H2_) | (have H2_ := (Option.bind_some _ _).symm.trans H; with_reducible exact H2_) | with_reducible exact H | (rw [hy450]; exact H) | exact H
              have Ny450 := Aside0.mk hy450
              clear hy450
              have H' := Aside0.mk H; clear H
              have p449 : 0 ≤ (x58_1 : Int) := zA
              have q449 : x58_1 < (y446.length : Int) := zA
              obtain ⟨ad449, e449, hx449_0⟩ := Kd.at_int (Kd.R_reads' HO_56.out).2.2 x58_1 p449 q449
              cases e449
              replace p449 := eq_true p449
              replace q449 := eq_true q449
              go_wp2_with (first | ((with_reducible refine gate_builtin (b := .append) (xs := #[.tmp 64, .tmp 65]) rfl ?_); at_builtin; refine Kd.R_append (Kd.int .u8) (w0 := w) w.heap.size rfl (.tmp 64) (.tmp 65) 22 5 (.int .u8 0) 1 rfl Try.underlying22 info5 rfl (by decide) (by omega) u11 x11_1 43 [.int .u8 43] (fun _ => True) (fun _ => False) rfl rfl ?aP (fun _ hk => hk.elim) ?aF ?aO ?aB ?aS ?aL ?_; (case aP => exact rfl); (case aB => exact zB); (case aF => exact (fun _ _ => trivial)); (case aO => exact (zR HO_11.out)); (case aS => exact (below_size zB)); (case aL => have := LMc22.out; omega); intro v451 w23 ho hb hg hat; rw [← Ny450.out] at ho; have n0_ := Aside0.mk (Kd.R_over' (zR HO_56.out) (Kd.R_typed (zR HO_11.out)) (by decide) hg); have n1_ := Aside0.mk (hb); have n2_ := Aside0.mk (ho); clear HO_56; clear HB; clear HO_11; have HO_56 := n0_; have HB := n1_; have HO452 := n2_; clear n0_ n1_ n2_; clear ho hb hg hat))
              go_roundg k1
              case measure => have := HK1.out; omega
              case rel => exact ⟨(y450), (wrap64 (x58_1 + 1)), zF, H', ⟨by have := HK1.out; omega⟩, ⟨zR HO452.out⟩, ⟨zR HO_56.out⟩, ⟨zB⟩⟩
             rw [if_neg c22] at H
             exact absurd H (by simp)
            rw [if_neg c21] at H
            have c21b0 : decide (0 < (rd y446 x58_1)) = false := decide_eq_false c21
            clear c21
            by_cases c24 : x11_1.length < 140737488355328
            ·rw [if_pos c24] at H
             have LMc24 := Aside0.mk c24
             clear c24
             obtain ⟨y453, hy453⟩ : ∃ y_ : List Int, y_ = (x11_1 ++ [45]) := ⟨_, rfl⟩
             replace H : (impl_chi_circuit.l0 k1 y453 y446 (y446.length : Int) (wrap64 (x58_1 + 1))) = some r := by first | (rw [hy453]; with_reducible exact H) | (have H2_ := (Option.bind_some _ _).symm.trans H; rw [hy453]; with_reducible exact H2_) | (have H2_ := (Option.bind_some _ _).symm.trans H; with_reducible exact H2_) | with_reducible exact H | (rw [hy453]; exact H) | exact H
             have Ny453 := Aside0.mk hy453
             clear hy453
             have H' := Aside0.mk H; clear H
             have p449 : 0 ≤ (x58_1 : Int) := zA
             have q449 : x58_1 < (y446.length : Int) := zA
             obtain ⟨ad449, e449, hx449_0⟩ := Kd.at_int (Kd.R_reads' HO_56.out).2.2 x58_1 p449 q449
             cases e449
             replace p449 := eq_true p449
             replace q449 := eq_true q449
             go_wp2_with (first | ((with_reducible refine gate_builtin (b := .append) (xs := #[.tmp 67, .tmp 68]) rfl ?_); at_builtin; refine Kd.R_append (Kd.int .u8) (w0 := w) w.heap.size rfl (.tmp 67) (.tmp 68) 22 5 (.int .u8 0) 1 rfl Try.underlying22 info5 rfl (by decide) (by omega) u11 x11_1 45 [.int .u8 45] (fun _ => True) (fun _ => False) rfl rfl ?aP (fun _ hk => hk.elim) ?aF ?aO ?aB ?aS ?aL ?_; (case aP => exact rfl); (case aB => exact zB); (case aF => exact (fun _ _ => trivial)); (case aO => exact (zR HO_11.out)); (case aS => exact (below_size zB)); (case aL => have := LMc24.out; omega); intro v454 w25 ho hb hg hat; rw [← Ny453.out] at ho; have n0_ := Aside0.mk (Kd.R_over' (zR HO_56.out) (Kd.R_typed (zR HO_11.out)) (by decide) hg); have n1_ := Aside0.mk (hb); have n2_ := Aside0.mk (ho); clear HO_56; clear HB; clear HO_11; have HO_56 := n0_; have HB := n1_; have HO455 := n2_; clear n0_ n1_ n2_; clear ho hb hg hat))
             go_roundg k1
             case measure => have := HK1.out; omega
             case rel => exact ⟨(y453), (wrap64 (x58_1 + 1)), zF, H', ⟨by have := HK1.out; omega⟩, ⟨zR HO455.out⟩, ⟨zR HO_56.out⟩, ⟨zB⟩⟩
            rw [if_neg c24] at H
            exact absurd H (by simp)
           rw [if_neg c20] at H
           exact absurd H (by simp)
          rw [if_neg c19] at H
          exact absurd H (by simp)
         rw [if_neg c18] at H
         have c18b0 : decide (x58_1 < (y446.length : Int)) = false := decide_eq_false c18
         clear c18
         by_cases c26 : 0 < (x11_1.length : Int)
         ·rw [if_pos c26] at H
          have c26b0 : decide (0 < (x11_1.length : Int)) = true := decide_eq_true c26
          have c26b1 : decide (0 < x11_1.length) = true := decide_eq_true (by omega)
          clear c26
          by_cases c27 : (rd x11_1 0) = 45
          ·rw [if_pos c27] at H
           have c27b0 : ((rd x11_1 0) == 45) = true := beq_iff_eq.mpr c27
           have c27b1 : ((rd x11_1 0) != 45) = false := bne_eq_false_iff_eq.mpr c27
           clear c27
           obtain ⟨t457, A28, H⟩ := zO H
           obtain rfl := Option.some.inj H
           obtain ⟨Ao29, co29, eo29⟩ := Kd.R_slice HO_11.out
           subst eo29
           have p456 : 0 ≤ (0 : Int) := (by omega)
           have q456 : 0 < (x11_1.length : Int) := zA
           obtain ⟨ad456, e456, hx456_0⟩ := Kd.at_int (Kd.R_reads' HO_11.out).2.2 0 p456 q456
           cases e456
           have qi456 : (0 < x11_1.length) = True := eq_true (by omega)
           (try rw [show ((0 : Int)).toNat = 0 from rfl] at hx456_0)
           (try rw [Addr.add_zero'] at hx456_0)
           replace p456 := eq_true p456
           replace q456 := eq_true q456
           have hcv30 := own_string (P := Try.prog) Try.underlying22 Try.underlying5 Try.underlying9 (Kd.own_of_R HO_11.out)
           go_wp2_with (first | ((with_reducible refine gate_callee (f := 147) rfl ?_); refine zD (some 77) Try.func147 #[.string (strOfNums x11_1)] ?_; (with_reducible refine (impl_opposite.calls (strOfNums x11_1) t457 _ A28.out).mono ?_); rintro e w31 ⟨rfl, hb⟩; refine ⟨_, rfl, ?_⟩; replace HO_11 := zW HO_11.out hb; replace HO_56 := zW HO_56.out hb; replace HB := zX hb; (try clear hb)))
           go_ret
           exact ⟨zE, zB⟩
          rw [if_neg c27] at H
          have c27b0 : ((rd x11_1 0) == 45) = false := beq_eq_false_iff_ne.mpr c27
          have c27b1 : ((rd x11_1 0) != 45) = true := bne_iff_ne.mpr c27
          obtain rfl := Option.some.inj H
          obtain ⟨Ao32, co32, eo32⟩ := Kd.R_slice HO_11.out
          subst eo32
          have p456 : 0 ≤ (0 : Int) := (by omega)
          have q456 : 0 < (x11_1.length : Int) := zA
          obtain ⟨ad456, e456, hx456_0⟩ := Kd.at_int (Kd.R_reads' HO_11.out).2.2 0 p456 q456
          cases e456
          have qi456 : (0 < x11_1.length) = True := eq_true (by omega)
          (try rw [show ((0 : Int)).toNat = 0 from rfl] at hx456_0)
          (try rw [Addr.add_zero'] at hx456_0)
          replace p456 := eq_true p456
          replace q456 := eq_true q456
          have hcv33 := own_string (P := Try.prog) Try.underlying22 Try.underlying5 Try.underlying9 (Kd.own_of_R HO_11.out)
          go_wp2
          go_ret
          exact ⟨zE, zB⟩
         rw [if_neg c26] at H
         exact absurd H (by simp)
        rw [if_neg c13] at H
        exact absurd H (by simp)
       rw [if_neg c12] at H
       exact absurd H (by simp)
      rw [if_neg c11] at H
      exact absurd H (by simp)
     rw [if_neg c10] at H
     exact absurd H (by simp)
    rw [if_neg c9] at H
    exact absurd H (by simp)
   rw [if_neg c8] at H
   exact absurd H (by simp)
  rw [if_neg c7] at H
  exact absurd H (by simp)
 rw [if_neg c6] at H
 exact absurd H (by simp)
/-! ### impl_chi_isAcyclic: function 92 -/
def impl_chi_isAcyclic.l0 : Nat → List Int → List (S91) → Int → Int → Option (Bool)
 | 0, _, _, _, _ => none
 | k + 1, x0, x9, x10, x11 => if x11 < x10 then (if 0 ≤ x11 then (if x11 < (x9.length : Int) then ((impl_chi_circuit.f k x0 ((rd_T91 x9 x11).f0) ((rd_T91 x9 x11).f1) ((rd_T91 x9 x11).f2) ((rd_T91 x9 x11).f3)).bind fun t464 => (if t464.toList = ([43, 43, 43, 43] : List UInt8) then (some false) else (impl_chi_isAcyclic.l0 k x0 x9 x10 (wrap64 (x11 + 1))))) else (none)) else (none)) else (some true)
def impl_chi_isAcyclic.f (k : Nat) (l0 : List Int) : Option (Bool) := (impl_quadsOf.f k (rd l0 0)).bind fun t459 => (impl_chi_isAcyclic.l0 k l0 t459 (t459.length : Int) 0)
set_option maxHeartbeats 8000000 in
set_option maxRecDepth 100000 in
theorem impl_chi_isAcyclic.calls (k : Nat) (g0 : Nat) (l0 : List Int) (r : Bool) (w : World) (hr0 : Kd.C (Kd.int .i64) w (some ⟨g0, 0, none⟩) l0.length l0) (hc0 : l0.length = 344) (h : impl_chi_isAcyclic.f k l0 = some r) :
  Calls Try.prog 92 #[.pointer (some ⟨g0, 0, none⟩)] w fun e w' => e = .returned (.bool r) ∧ Below w.heap.size w w' := by
 have hu91 := Try.underlying91
 have hu115 := Try.underlying115
 have HR0 := Aside0.mk hr0
 have HC0 := Aside0.mk hc0
 clear hr0 hc0
 have HB := Aside0.mk (Below.refl w.heap.size w)
 have H : ((impl_quadsOf.f k (rd l0 0)).bind fun t459 => (impl_chi_isAcyclic.l0 k l0 t459 (t459.length : Int) 0)) = some r := h
 clear h
 obtain ⟨t459, A2, H⟩ := zO H
 have H' := Aside0.mk H; clear H
 have hL458 := HC0.out
 have dq458 : decide (0 < (l0.length : Int)) = true := decide_eq_true (by omega)
 clear hL458
 have p458 : 0 ≤ (0 : Int) := (by omega)
 have q458 : 0 < (l0.length : Int) := zA
 obtain ⟨ad458, e458, hx458_0⟩ := Kd.at_int HR0.out 0 p458 q458
 obtain rfl : (⟨g0, 0, none⟩ : Addr) = ad458 := (by injection e458)
 (first | simp only [add_plain] at hx458_0 | simp only [add_at] at hx458_0 | simp only [Addr.add, Nat.zero_add] at hx458_0 | skip)
 have qi458 : (0 < l0.length) = True := eq_true (by omega)
 (try rw [show ((0 : Int)).toNat = 0 from rfl] at hx458_0)
 (try rw [Addr.add_zero'] at hx458_0)
 replace p458 := eq_true p458
 replace q458 := eq_true q458
 clear dq458
 go_enter Try.func92, Try.ntmps92
 go_wp2_with (first | ((with_reducible refine gate_callee (f := 110) rfl ?_); refine zD (some 9) Try.func110 #[.int .i64 (rd l0 0)] ?_; (with_reducible refine (impl_quadsOf.calls k (rd l0 0) t459 _ A2.out).mono ?_); rintro e w3 ⟨v460, rfl, ho0, hb⟩; refine ⟨_, rfl, ?_⟩; have HO461 := Aside0.mk (Kd.R_lower ho0 (below_size zB)); replace HB := zX hb; (try clear hb); (try clear ho0); obtain ⟨Ao4, co4, eo4⟩ := Kd.R_slice HO461.out; subst eo4))
 go_loopg [11] k (fun kq v11 w' => ∃ (x11_1 : Int), v11 = .int .i64 x11_1 ∧ Aside0 (impl_chi_isAcyclic.l0 kq l0 t459 (t459.length : Int) x11_1 = some r) ∧ Aside0 (kq ≤ k) ∧ Aside0 (Kd.R k91 91 w' w.heap.size (fun _ => True) (.slice Ao4 t459.length co4) t459) ∧ Aside0 (Below w.heap.size w w'))
 case atStart => exact ⟨(0), zF, H', ⟨Nat.le_refl _⟩, ⟨zR HO461.out⟩, ⟨zB⟩⟩
 case round =>
 clear H'
 try clear hx458_0
 try clear p458
 try clear q458
 obtain ⟨x11_1, rfl, HA, HK1, HO_9, HB⟩ := hrel
 cases gk with
 | zero => exact absurd HA.out (by simp [impl_chi_isAcyclic.l0])
 | succ k1 =>
 have H := HA.out
 clear HA
 simp only [impl_chi_isAcyclic.l0] at H
 by_cases c5 : x11_1 < (t459.length : Int)
 ·rw [if_pos c5] at H
  have c5b0 : decide (x11_1 < (t459.length : Int)) = true := decide_eq_true c5
  clear c5
  by_cases c6 : 0 ≤ x11_1
  ·rw [if_pos c6] at H
   have c6b0 : decide (0 ≤ x11_1) = true := decide_eq_true c6
   clear c6
   by_cases c7 : x11_1 < (t459.length : Int)
   ·rw [if_pos c7] at H
    have c7b0 : decide (x11_1 < (t459.length : Int)) = true := decide_eq_true c7
    clear c7
    obtain ⟨t464, A8, H⟩ := zO H
    by_cases c9 : t464.toList = ([43, 43, 43, 43] : List UInt8)
    ·rw [if_pos c9] at H
     have c9b0 : (t464.toList == ([43, 43, 43, 43] : List UInt8)) = true := beq_iff_eq.mpr c9
     have c9b1 : (t464.toList != ([43, 43, 43, 43] : List UInt8)) = false := bne_eq_false_iff_eq.mpr c9
     clear c9
     obtain rfl := Option.some.inj H
     have p462 : 0 ≤ (x11_1 : Int) := zA
     have q462 : x11_1 < (t459.length : Int) := zA
     obtain ⟨ad462, e462, hx462_0, hx462_1, hx462_2, hx462_3⟩ := at_T91 (Kd.R_reads' HO_9.out).2.2 x11_1 p462 q462
     cases e462
     replace p462 := eq_true p462
     replace q462 := eq_true q462
     go_wp2_with (first | ((with_reducible refine gate_dst (N := 4) rfl ?_); refine zBx (N := 4) #[.int .i64 0, .int .i64 0, .int .i64 0, .int .i64 0] 91 ?_; intro gb463 hg w10 hbox hb; replace HO_9 := Aside0.mk (Kd.R_below (Kd.R_elderB (zR HO_9.out) gb463 (Nat.le_of_eq hg.symm)) hb); have BK463 := Aside0.mk (hbox); have GW463 := zS hg; have GE463 := zS hg; replace HB := zX hb; clear hb hbox hg; obtain ⟨hcz11_0, hcz11_1, hcz11_2, hcz11_3, hfz11_0, hfz11_1, hfz11_2, hfz11_3⟩ := zq4 BK463.out) | ((with_reducible refine gate_callee (f := 96) rfl ?_); refine zD (some 24) Try.func96 #[.pointer (some ⟨g0, 0, none⟩), .int .i64 ((rd_T91 t459 x11_1).f0), .int .i64 ((rd_T91 t459 x11_1).f1), .int .i64 ((rd_T91 t459 x11_1).f2), .int .i64 ((rd_T91 t459 x11_1).f3)] ?_; (with_reducible refine (impl_chi_circuit.calls k1 _ l0 ((rd_T91 t459 x11_1).f0) ((rd_T91 t459 x11_1).f1) ((rd_T91 t459 x11_1).f2) ((rd_T91 t459 x11_1).f3) t464 _ ?side1 ?side2 A8.out).mono ?_); (case side1 => exact Kd.C_below HR0.out (zG GE463.out)); (case side2 => exact HC0.out); rintro e w12 ⟨rfl, hb⟩; refine ⟨_, rfl, ?_⟩; replace HO_9 := Aside0.mk (Kd.R_below (by (with_reducible repeat (first | apply Kd.R_alloc | apply Kd.R_drewN | apply Kd.R_drew)); exact (Kd.R_mono (Kd.R_far (p := ⟨gb463, 3, none⟩) (Kd.R_far (p := ⟨gb463, 2, none⟩) (Kd.R_far (p := ⟨gb463, 1, none⟩) (Kd.R_far (p := ⟨gb463, 0, none⟩) (Kd.R_mono HO_9.out (fun k_ hk => (⟨hk, hk.2⟩ : _ ∧ k_ ≠ gb463))) (fun _ hk => hk.2) (.int .i64 ((rd_T91 t459 x11_1).f0))) (fun _ hk => hk.2) (.int .i64 ((rd_T91 t459 x11_1).f1))) (fun _ hk => hk.2) (.int .i64 ((rd_T91 t459 x11_1).f2))) (fun _ hk => hk.2) (.int .i64 ((rd_T91 t459 x11_1).f3))) (fun _ h_ => h_.1))) hb); replace BK463 := Aside0.mk (blk_below (g := gb463) (o := .cells #[.int .i64 ((rd_T91 t459 x11_1).f0), .int .i64 ((rd_T91 t459 x11_1).f1), .int .i64 ((rd_T91 t459 x11_1).f2), .int .i64 ((rd_T91 t459 x11_1).f3)] 91 (0, 0)) (zk0 BK463.out) hb); replace HB := zX1 GE463.out hb; (try clear hb)))
     go_ret
     exact ⟨zE, zG GE463.out⟩
    rw [if_neg c9] at H
    have c9b0 : (t464.toList == ([43, 43, 43, 43] : List UInt8)) = false := beq_eq_false_iff_ne.mpr c9
    have c9b1 : (t464.toList != ([43, 43, 43, 43] : List UInt8)) = true := bne_iff_ne.mpr c9
    have H' := Aside0.mk H; clear H
    have p462 : 0 ≤ (x11_1 : Int) := zA
    have q462 : x11_1 < (t459.length : Int) := zA
    obtain ⟨ad462, e462, hx462_0, hx462_1, hx462_2, hx462_3⟩ := at_T91 (Kd.R_reads' HO_9.out).2.2 x11_1 p462 q462
    cases e462
    replace p462 := eq_true p462
    replace q462 := eq_true q462
    go_wp2_with (first | ((with_reducible refine gate_dst (N := 4) rfl ?_); refine zBx (N := 4) #[.int .i64 0, .int .i64 0, .int .i64 0, .int .i64 0] 91 ?_; intro gb463 hg w13 hbox hb; replace HO_9 := Aside0.mk (Kd.R_below (Kd.R_elderB (zR HO_9.out) gb463 (Nat.le_of_eq hg.symm)) hb); have BK463 := Aside0.mk (hbox); have GW463 := zS hg; have GE463 := zS hg; replace HB := zX hb; clear hb hbox hg; obtain ⟨hcz14_0, hcz14_1, hcz14_2, hcz14_3, hfz14_0, hfz14_1, hfz14_2, hfz14_3⟩ := zq4 BK463.out) | ((with_reducible refine gate_callee (f := 96) rfl ?_); refine zD (some 24) Try.func96 #[.pointer (some ⟨g0, 0, none⟩), .int .i64 ((rd_T91 t459 x11_1).f0), .int .i64 ((rd_T91 t459 x11_1).f1), .int .i64 ((rd_T91 t459 x11_1).f2), .int .i64 ((rd_T91 t459 x11_1).f3)] ?_; (with_reducible refine (impl_chi_circuit.calls k1 _ l0 ((rd_T91 t459 x11_1).f0) ((rd_T91 t459 x11_1).f1) ((rd_T91 t459 x11_1).f2) ((rd_T91 t459 x11_1).f3) t464 _ ?side1 ?side2 A8.out).mono ?_); (case side1 => exact Kd.C_below HR0.out (zG GE463.out)); (case side2 => exact HC0.out); rintro e w15 ⟨rfl, hb⟩; refine ⟨_, rfl, ?_⟩; replace HO_9 := Aside0.mk (Kd.R_below (by (with_reducible repeat (first | apply Kd.R_alloc | apply Kd.R_drewN | apply Kd.R_drew)); exact (Kd.R_mono (Kd.R_far (p := ⟨gb463, 3, none⟩) (Kd.R_far (p := ⟨gb463, 2, none⟩) (Kd.R_far (p := ⟨gb463, 1, none⟩) (Kd.R_far (p := ⟨gb463, 0, none⟩) (Kd.R_mono HO_9.out (fun k_ hk => (⟨hk, hk.2⟩ : _ ∧ k_ ≠ gb463))) (fun _ hk => hk.2) (.int .i64 ((rd_T91 t459 x11_1).f0))) (fun _ hk => hk.2) (.int .i64 ((rd_T91 t459 x11_1).f1))) (fun _ hk => hk.2) (.int .i64 ((rd_T91 t459 x11_1).f2))) (fun _ hk => hk.2) (.int .i64 ((rd_T91 t459 x11_1).f3))) (fun _ h_ => h_.1))) hb); replace BK463 := Aside0.mk (blk_below (g := gb463) (o := .cells #[.int .i64 ((rd_T91 t459 x11_1).f0), .int .i64 ((rd_T91 t459 x11_1).f1), .int .i64 ((rd_T91 t459 x11_1).f2), .int .i64 ((rd_T91 t459 x11_1).f3)] 91 (0, 0)) (zk0 BK463.out) hb); replace HB := zX1 GE463.out hb; (try clear hb)))
    go_roundg k1
    case measure => have := HK1.out; omega
    case rel => exact ⟨(wrap64 (x11_1 + 1)), zF, H', ⟨by have := HK1.out; omega⟩, ⟨by (with_reducible repeat (first | apply Kd.R_alloc | apply Kd.R_drewN | apply Kd.R_drew)); exact Kd.R_mono HO_9.out (fun _ hk => trivial)⟩, ⟨zG GE463.out⟩⟩
   rw [if_neg c7] at H
   exact absurd H (by simp)
  rw [if_neg c6] at H
  exact absurd H (by simp)
 rw [if_neg c5] at H
 have c5b0 : decide (x11_1 < (t459.length : Int)) = false := decide_eq_false c5
 clear c5
 obtain rfl := Option.some.inj H
 go_wp2
 go_ret
 exact ⟨zE, zB⟩
/-! ### impl_IsAcyclic: function 23 -/
def impl_IsAcyclic.f (k : Nat) (a0_0 : Int) (a0_1 : ByteArray) : Option (Bool) := (impl_IsMatroid.f a0_0 a0_1).bind fun t565 => (if t565 = true then ((impl_tableOf.f k a0_0 a0_1).bind fun t566 => (if t566.length = 344 then ((impl_chi_isAcyclic.f k t566).bind fun t569 => (some t569)) else (none))) else (some false))
set_option maxHeartbeats 8000000 in
set_option maxRecDepth 100000 in
theorem impl_IsAcyclic.calls (k : Nat) (a0_0 : Int) (a0_1 : ByteArray) (r : Bool) (w : World) (h : impl_IsAcyclic.f k a0_0 a0_1 = some r) :
  Calls Try.prog 23 #[.agg #[.int .i64 a0_0, .string a0_1]] w fun e w' => e = .returned (.bool r) ∧ Below w.heap.size w w' := by
 have hu25 := Try.underlying25
 have HB := Aside0.mk (Below.refl w.heap.size w)
 have H : ((impl_IsMatroid.f a0_0 a0_1).bind fun t565 => (if t565 = true then ((impl_tableOf.f k a0_0 a0_1).bind fun t566 => (if t566.length = 344 then ((impl_chi_isAcyclic.f k t566).bind fun t569 => (some t569)) else (none))) else (some false))) = some r := h
 clear h
 obtain ⟨t565, A2, H⟩ := zO H
 by_cases c3 : t565 = true
 ·subst c3
  replace H := (if_pos rfl).symm.trans H
  obtain ⟨t566, A4, H⟩ := zO H
  by_cases c5 : t566.length = 344
  ·rw [if_pos c5] at H
   have c5b0 := eq_true c5
   have c5b1 : decide (t566.length = 344) = true := decide_eq_true c5
   clear c5
   obtain ⟨t569, A6, H⟩ := zO H
   obtain rfl := Option.some.inj H
   go_enter Try.func23, Try.ntmps23
   go_wp2_with (first | ((with_reducible refine gate_dst (N := 1) rfl ?_); refine zBx (N := 1) #[.int .i64 a0_0, .string a0_1] 25 ?_; intro gb564 hg w7 hbox hb; have BK564 := Aside0.mk (hbox); have GW564 := zS hg; have GE564 := zS hg; replace HB := zX hb; clear hb hbox hg; obtain ⟨hcz8_0, hcz8_1, hfz8_0, hfz8_1⟩ := zq2 BK564.out) | ((with_reducible refine gate_callee (f := 21) rfl ?_); refine zD (some 4) Try.func21 #[.agg #[.int .i64 a0_0, .string a0_1]] ?_; (with_reducible refine (impl_IsMatroid.calls a0_0 a0_1 true _ A2.out).mono ?_); rintro e w9 ⟨rfl, hb⟩; refine ⟨_, rfl, ?_⟩; replace BK564 := zV BK564.out hb; replace HB := zX1 GE564.out hb; (try clear hb); obtain ⟨hcz10_0, hcz10_1, hfz10_0, hfz10_1⟩ := zq2 BK564.out) | (go_at_call 83; (with_reducible refine (impl_tableOf.calls k a0_0 a0_1 t566 _ A4.out).mono ?_); rintro e w11 ⟨v567, rfl, ho0, hb⟩; have HO568 := Aside0.mk (Kd.R_lower ho0 (below_size (zG GE564.out))); replace BK564 := zV BK564.out hb; replace HB := zX1 GE564.out hb; (try clear hb); (try clear hb2); (try clear hk); (try clear hi); (try clear ho0); obtain ⟨go12, co12, eo12, gb12, gl12, cl12, HG12⟩ := Kd.R_form HO568.out (by have hl_ := Nat.le_of_eq (Eq.symm (zA : t566.length = 344)); omega); (first | cases eo12 | (injection eo12 with ea_ en_ ec_; (first | subst ea_ | (injection ea_ with ea_; subst ea_)); subst ec_; clear en_)); have GB12 := Aside0.mk gb12; have GG12 := Aside0.mk HG12; clear gb12 gl12 HG12) | (go_at_call 92; (with_reducible refine (impl_chi_isAcyclic.calls k _ t566 t569 _ ?side1 ?side2 A6.out).mono ?_); (case side1 => repeat (first | exact (Kd.R_reads' HO568.out).2.2 | (with_reducible refine Kd.C_alloc ?_ _) | (with_reducible refine Kd.C_drewN ?_ _) | (with_reducible refine Kd.C_drew ?_))); (case side2 => exact (zA : t566.length = 344)); rintro e w13 ⟨rfl, hb⟩; replace HO568 := zW HO568.out hb; replace BK564 := zV BK564.out hb; replace HB := zX1 GE564.out hb; (try clear hb); (try clear hb2); (try clear hk); (try clear hi)))
   go_ret
   exact ⟨zE, zG GE564.out⟩
  rw [if_neg c5] at H
  exact absurd H (by simp)
 replace c3 := Bool.eq_false_iff.mpr c3
 subst c3
 replace H := (if_neg zFf).symm.trans H
 obtain rfl := Option.some.inj H
 go_enter Try.func23, Try.ntmps23
 go_wp2_with (first | ((with_reducible refine gate_dst (N := 1) rfl ?_); refine zBx (N := 1) #[.int .i64 a0_0, .string a0_1] 25 ?_; intro gb564 hg w14 hbox hb; have BK564 := Aside0.mk (hbox); have GW564 := zS hg; have GE564 := zS hg; replace HB := zX hb; clear hb hbox hg; obtain ⟨hcz15_0, hcz15_1, hfz15_0, hfz15_1⟩ := zq2 BK564.out) | ((with_reducible refine gate_callee (f := 21) rfl ?_); refine zD (some 4) Try.func21 #[.agg #[.int .i64 a0_0, .string a0_1]] ?_; (with_reducible refine (impl_IsMatroid.calls a0_0 a0_1 false _ A2.out).mono ?_); rintro e w16 ⟨rfl, hb⟩; refine ⟨_, rfl, ?_⟩; replace BK564 := zV BK564.out hb; replace HB := zX1 GE564.out hb; (try clear hb)))
 go_ret
 exact ⟨zE, zG GE564.out⟩
/-! ### impl_orderOf: function 105 -/
def impl_orderOf.f (k : Nat) (a0_0 : Int) (a0_1 : ByteArray) : Option (List Int × Bool) := (impl_IsAcyclic.f k a0_0 a0_1).bind fun t729 => (if t729 = true then ((impl_tableOf.f k a0_0 a0_1).bind fun t730 => (some (t730, true))) else (some (([] : List Int), false)))
set_option maxHeartbeats 8000000 in
set_option maxRecDepth 100000 in
theorem impl_orderOf.calls (k : Nat) (a0_0 : Int) (a0_1 : ByteArray) (r1 : List Int) (r2 : Bool) (w : World) (h : impl_orderOf.f k a0_0 a0_1 = some (r1, r2)) :
  Calls Try.prog 105 #[.agg #[.int .i64 a0_0, .string a0_1]] w fun e w' => ∃ v0_ : Value, e = .returned (.tuple #[ptrOf v0_, .bool r2]) ∧ Kd.R (Kd.int .i64) 115 w' w.heap.size (fun _ => True) v0_ r1 ∧ Below w.heap.size w w' := by
 have hu25 := Try.underlying25
 have HB := Aside0.mk (Below.refl w.heap.size w)
 have H : ((impl_IsAcyclic.f k a0_0 a0_1).bind fun t729 => (if t729 = true then ((impl_tableOf.f k a0_0 a0_1).bind fun t730 => (some (t730, true))) else (some (([] : List Int), false)))) = some (r1, r2) := h
 clear h
 obtain ⟨t729, A2, H⟩ := zO H
 by_cases c3 : t729 = true
 ·subst c3
  replace H := (if_pos rfl).symm.trans H
  obtain ⟨t730, A4, H⟩ := zO H
  simp only [Option.some.injEq, Prod.mk.injEq] at H
  obtain ⟨rfl, rfl⟩ := H
  go_enter Try.func105, Try.ntmps105
  go_wp2_with (first | ((with_reducible refine gate_dst (N := 1) rfl ?_); refine zBx (N := 1) #[.int .i64 a0_0, .string a0_1] 25 ?_; intro gb728 hg w5 hbox hb; have BK728 := Aside0.mk (hbox); have GW728 := zS hg; have GE728 := zS hg; replace HB := zX hb; clear hb hbox hg; obtain ⟨hcz6_0, hcz6_1, hfz6_0, hfz6_1⟩ := zq2 BK728.out) | ((with_reducible refine gate_callee (f := 23) rfl ?_); refine zD (some 5) Try.func23 #[.agg #[.int .i64 a0_0, .string a0_1]] ?_; (with_reducible refine (impl_IsAcyclic.calls k a0_0 a0_1 true _ A2.out).mono ?_); rintro e w7 ⟨rfl, hb⟩; refine ⟨_, rfl, ?_⟩; replace BK728 := zV BK728.out hb; replace HB := zX1 GE728.out hb; (try clear hb); obtain ⟨hcz8_0, hcz8_1, hfz8_0, hfz8_1⟩ := zq2 BK728.out) | ((with_reducible refine gate_callee (f := 83) rfl ?_); refine zD (some 8) Try.func83 #[.agg #[.int .i64 a0_0, .string a0_1]] ?_; (with_reducible refine (impl_tableOf.calls k a0_0 a0_1 t730 _ A4.out).mono ?_); rintro e w9 ⟨v731, rfl, ho0, hb⟩; refine ⟨_, rfl, ?_⟩; have HO732 := Aside0.mk (Kd.R_lower ho0 (below_size (zG GE728.out))); replace BK728 := zV BK728.out hb; replace HB := zX1 GE728.out hb; (try clear hb); (try clear ho0)))
  go_ret2
  exact ⟨v731, zE, zR HO732.out, zG GE728.out⟩
 replace c3 := Bool.eq_false_iff.mpr c3
 subst c3
 replace H := (if_neg zFf).symm.trans H
 simp only [Option.some.injEq, Prod.mk.injEq] at H
 obtain ⟨rfl, rfl⟩ := H
 go_enter Try.func105, Try.ntmps105
 go_wp2_with (first | ((with_reducible refine gate_dst (N := 1) rfl ?_); refine zBx (N := 1) #[.int .i64 a0_0, .string a0_1] 25 ?_; intro gb728 hg w10 hbox hb; have BK728 := Aside0.mk (hbox); have GW728 := zS hg; have GE728 := zS hg; replace HB := zX hb; clear hb hbox hg; obtain ⟨hcz11_0, hcz11_1, hfz11_0, hfz11_1⟩ := zq2 BK728.out) | ((with_reducible refine gate_callee (f := 23) rfl ?_); refine zD (some 5) Try.func23 #[.agg #[.int .i64 a0_0, .string a0_1]] ?_; (with_reducible refine (impl_IsAcyclic.calls k a0_0 a0_1 false _ A2.out).mono ?_); rintro e w12 ⟨rfl, hb⟩; refine ⟨_, rfl, ?_⟩; replace BK728 := zV BK728.out hb; replace HB := zX1 GE728.out hb; (try clear hb)))
 go_ret2
 exact ⟨.slice none 0 0, zE, by first | exact Kd.R_nil _ _ _ _ _ | exact Kd.N_nil _ _ _ _ _ | exact Kd.V_nil _ _ _ _ _ | exact Kd.Q_nil _ _ _ _ _ | exact Kd.S_nil _ _ _ _ _, zG GE728.out⟩
/-! ### impl_chi_split: function 106 -/
def impl_chi_split.l0 : Nat → ByteArray → Int → Int → List Int → Int → Int → Option (Int × Int)
 | 0, _, _, _, _, _, _ => none
 | k + 1, x12, x13, x14, x27, x28, x29 => if x29 < x28 then (if 0 ≤ x29 then (if x29 < (x27.length : Int) then (if x29 < (x12.size : Int) then (if (bt x12 x29) = 43 then (if 0 ≤ (rd x27 x29) then (impl_chi_split.l0 k x12 (Go.bits .or .i64 x13 (shl .i64 1 (rd x27 x29))) x14 x27 x28 (wrap64 (x29 + 1))) else (none)) else (if 0 ≤ (rd x27 x29) then (impl_chi_split.l0 k x12 x13 (Go.bits .or .i64 x14 (shl .i64 1 (rd x27 x29))) x27 x28 (wrap64 (x29 + 1))) else (none))) else (none)) else (none)) else (none)) else (some (x13, x14))
def impl_chi_split.f (k : Nat) (l0 : List Int) (a1 : Int) (a2 : Int) (a3 : Int) (a4 : Int) : Option (Int × Int) := (impl_chi_circuit.f k l0 a1 a2 a3 a4).bind fun t733 => ((some (([a1, a2, a3, a4] : List Int) : List Int)).bind fun y734 => (impl_chi_split.l0 k t733 0 0 y734 (y734.length : Int) 0))
set_option maxHeartbeats 8000000 in
set_option maxRecDepth 100000 in
theorem impl_chi_split.calls (k : Nat) (g0 : Nat) (l0 : List Int) (a1 : Int) (a2 : Int) (a3 : Int) (a4 : Int) (r1 : Int) (r2 : Int) (w : World) (hr0 : Kd.C (Kd.int .i64) w (some ⟨g0, 0, none⟩) l0.length l0) (hc0 : l0.length = 344) (h : impl_chi_split.f k l0 a1 a2 a3 a4 = some (r1, r2)) :
  Calls Try.prog 106 #[.pointer (some ⟨g0, 0, none⟩), .int .i64 a1, .int .i64 a2, .int .i64 a3, .int .i64 a4] w fun e w' => e = .returned (.tuple #[.int .i64 r1, .int .i64 r2]) ∧ Below w.heap.size w w' := by
 have HR0 := Aside0.mk hr0
 have HC0 := Aside0.mk hc0
 clear hr0 hc0
 have HB := Aside0.mk (Below.refl w.heap.size w)
 have H : ((impl_chi_circuit.f k l0 a1 a2 a3 a4).bind fun t733 => ((some (([a1, a2, a3, a4] : List Int) : List Int)).bind fun y734 => (impl_chi_split.l0 k t733 0 0 y734 (y734.length : Int) 0))) = some (r1, r2) := h
 clear h
 obtain ⟨t733, A6, H⟩ := zO H
 obtain ⟨y734, hy734⟩ : ∃ y_ : List Int, y_ = (([a1, a2, a3, a4] : List Int)) := ⟨_, rfl⟩
 replace H : (impl_chi_split.l0 k t733 0 0 y734 (y734.length : Int) 0) = some (r1, r2) := by first | (rw [hy734]; with_reducible exact H) | (have H2_ := (Option.bind_some _ _).symm.trans H; rw [hy734]; with_reducible exact H2_) | (have H2_ := (Option.bind_some _ _).symm.trans H; with_reducible exact H2_) | with_reducible exact H | (rw [hy734]; exact H) | exact H
 have Ny734 := Aside0.mk hy734
 clear hy734
 have H' := Aside0.mk H; clear H
 go_enter Try.func106, Try.ntmps106
 go_wp2_with (first | ((with_reducible refine gate_callee (f := 96) rfl ?_); refine zD (some 22) Try.func96 #[.pointer (some ⟨g0, 0, none⟩), .int .i64 a1, .int .i64 a2, .int .i64 a3, .int .i64 a4] ?_; (with_reducible refine (impl_chi_circuit.calls k _ l0 a1 a2 a3 a4 t733 _ ?side1 ?side2 A6.out).mono ?_); (case side1 => repeat (first | exact HR0.out | (with_reducible refine Kd.C_alloc ?_ _) | (with_reducible refine Kd.C_drewN ?_ _) | (with_reducible refine Kd.C_drew ?_))); (case side2 => exact HC0.out); rintro e w7 ⟨rfl, hb⟩; refine ⟨_, rfl, ?_⟩; replace HB := zX hb; (try clear hb)) | ((with_reducible refine gate_dst (N := 27) rfl ?_); refine Kd.R_lit (Kd.int .i64) _ 3 ?hg (N := 27) ?hd (xs := ([a1, a2, a3, a4] : List Int)) (inner := [.int .i64 a1, .int .i64 a2, .int .i64 a3, .int .i64 a4]) (ok := fun _ => True) (okp := fun _ => True) ?hr ?hp (fun _ hk => hk) trivial (Below.refl _ _) (Nat.le_refl _) (by simp) ?_; (case hd => rfl); (case hg => rfl); (case hr => first | (go_simp; done) | (go_simp; rfl)); (case hp => exact (Reps.one (show Kd.M (Kd.int .i64) _ _ _ a1 [.int .i64 a1] from rfl) (Reps.one (show Kd.M (Kd.int .i64) _ _ _ a2 [.int .i64 a2] from rfl) (Reps.one (show Kd.M (Kd.int .i64) _ _ _ a3 [.int .i64 a3] from rfl) (Reps.one (show Kd.M (Kd.int .i64) _ _ _ a4 [.int .i64 a4] from rfl) (Reps.none _ _)))))); intro v735 w8 ho9 hb hg_ hnew_; clear hg_ hnew_; (first | rw [← Ny734.out] at ho9 | (simp only [Int.reduceToNat] at ho9; rw [← Ny734.out] at ho9)); have HO736 := Aside0.mk (Kd.R_lower ho9 (below_size zB)); replace HB := zX hb; clear hb ho9; obtain ⟨Ao10, co10, eo10⟩ := Kd.R_slice HO736.out; subst eo10))
 go_loopg [13, 14, 29] k (fun kq v13 v14 v29 w' => ∃ (x13_1 : Int) (x14_1 : Int) (x29_1 : Int), v13 = .int .i64 x13_1 ∧ v14 = .int .i64 x14_1 ∧ v29 = .int .i64 x29_1 ∧ Aside0 (impl_chi_split.l0 kq t733 x13_1 x14_1 y734 (y734.length : Int) x29_1 = some (r1, r2)) ∧ Aside0 (kq ≤ k) ∧ Aside0 (Kd.R (Kd.int .i64) 3 w' w.heap.size (fun _ => True) (.slice Ao10 y734.length co10) y734) ∧ Aside0 (Below w.heap.size w w'))
 case atStart => exact ⟨(0), (0), (0), zF, zF, zF, H', ⟨Nat.le_refl _⟩, ⟨zR HO736.out⟩, ⟨zB⟩⟩
 case round =>
 clear H'
 obtain ⟨x13_1, x14_1, x29_1, rfl, rfl, rfl, HA, HK1, HO_27, HB⟩ := hrel
 cases gk with
 | zero => exact absurd HA.out (by simp [impl_chi_split.l0])
 | succ k1 =>
 have H := HA.out
 clear HA
 simp only [impl_chi_split.l0] at H
 by_cases c11 : x29_1 < (y734.length : Int)
 ·rw [if_pos c11] at H
  have c11b0 : decide (x29_1 < (y734.length : Int)) = true := decide_eq_true c11
  clear c11
  by_cases c12 : 0 ≤ x29_1
  ·rw [if_pos c12] at H
   have c12b0 : decide (0 ≤ x29_1) = true := decide_eq_true c12
   clear c12
   by_cases c13 : x29_1 < (y734.length : Int)
   ·rw [if_pos c13] at H
    have c13b0 : decide (x29_1 < (y734.length : Int)) = true := decide_eq_true c13
    clear c13
    by_cases c14 : x29_1 < (t733.size : Int)
    ·rw [if_pos c14] at H
     have c14b0 : decide (x29_1 < (t733.size : Int)) = true := decide_eq_true c14
     clear c14
     by_cases c16 : (bt t733 x29_1) = 43
     ·rw [if_pos c16] at H
      have c16b0 : ((bt t733 x29_1) == 43) = true := beq_iff_eq.mpr c16
      have c16b1 : ((bt t733 x29_1) != 43) = false := bne_eq_false_iff_eq.mpr c16
      clear c16
      by_cases c17 : 0 ≤ (rd y734 x29_1)
      ·rw [if_pos c17] at H
       have c17b0 := eq_true c17
       have c17b1 : decide (0 ≤ (rd y734 x29_1)) = true := decide_eq_true c17
       clear c17
       obtain ⟨ji18, hji18⟩ : ∃ j_ : Int, (shl .i64 1 (rd y734 x29_1)) = j_ := ⟨_, rfl⟩
       replace H : (impl_chi_split.l0 k1 t733 (Go.bits .or .i64 x13_1 (ji18)) x14_1 y734 (y734.length : Int) (wrap64 (x29_1 + 1))) = some (r1, r2) := by first | (rw [hji18] at H; exact H) | (simp only [hji18] at H ⊢; exact H)
       have hji18_ : (IntKind.i64.wrap (1 * 2 ^ min (rd y734 x29_1).toNat 64)) = ji18 := hji18
       have hji18z : (rd y734 x29_1) ≤ 64 → (IntKind.i64.wrap (1 * 2 ^ (rd y734 x29_1).toNat)) = ji18 := shl_small hji18
       have hji18u : (IntKind.i64.wrap (2 ^ min (rd y734 x29_1).toNat 64)) = ji18 := by have h_ := hji18_; rw [Int.one_mul] at h_; exact h_
       have hji18v : (rd y734 x29_1) ≤ 64 → (IntKind.i64.wrap (2 ^ (rd y734 x29_1).toNat)) = ji18 := fun hle_ => by have h_ := hji18z hle_; rw [Int.one_mul] at h_; exact h_
       have hji18y : (wrap64 (1 * 2 ^ min (rd y734 x29_1).toNat 64)) = ji18 := (i64_w _).symm.trans hji18_
       have hji18x : (rd y734 x29_1) ≤ 64 → (wrap64 (1 * 2 ^ (rd y734 x29_1).toNat)) = ji18 := fun h_ => (i64_w _).symm.trans (hji18z h_)
       have H' := Aside0.mk H; clear H
       have p737 : 0 ≤ (x29_1 : Int) := zA
       have q737 : x29_1 < (y734.length : Int) := zA
       obtain ⟨ad737, e737, hx737_0⟩ := Kd.at_int (Kd.R_reads' HO_27.out).2.2 x29_1 p737 q737
       cases e737
       replace p737 := eq_true p737
       replace q737 := eq_true q737
       have p15 : 0 ≤ (x29_1 : Int) := zA
       have q15 : x29_1 < (t733.size : Int) := zA
       have hx15 := bt_at t733 x29_1
       replace p15 := eq_true p15
       replace q15 := eq_true q15
       go_wp2
       go_roundg k1
       case measure => have := HK1.out; omega
       case rel => exact ⟨(Go.bits .or .i64 x13_1 (ji18)), (x14_1), (wrap64 (x29_1 + 1)), (by first | rfl | (simp; done) | (simp only [← hji18] <;> (first | rfl | simp)) | (simp [*]; done)), zF, zF, H', ⟨by have := HK1.out; omega⟩, ⟨zR HO_27.out⟩, ⟨zB⟩⟩
      rw [if_neg c17] at H
      exact absurd H (by simp)
     rw [if_neg c16] at H
     have c16b0 : ((bt t733 x29_1) == 43) = false := beq_eq_false_iff_ne.mpr c16
     have c16b1 : ((bt t733 x29_1) != 43) = true := bne_iff_ne.mpr c16
     by_cases c19 : 0 ≤ (rd y734 x29_1)
     ·rw [if_pos c19] at H
      have c19b0 := eq_true c19
      have c19b1 : decide (0 ≤ (rd y734 x29_1)) = true := decide_eq_true c19
      clear c19
      obtain ⟨ji20, hji20⟩ : ∃ j_ : Int, (shl .i64 1 (rd y734 x29_1)) = j_ := ⟨_, rfl⟩
      replace H : (impl_chi_split.l0 k1 t733 x13_1 (Go.bits .or .i64 x14_1 (ji20)) y734 (y734.length : Int) (wrap64 (x29_1 + 1))) = some (r1, r2) := by first | (rw [hji20] at H; exact H) | (simp only [hji20] at H ⊢; exact H)
      have hji20_ : (IntKind.i64.wrap (1 * 2 ^ min (rd y734 x29_1).toNat 64)) = ji20 := hji20
      have hji20z : (rd y734 x29_1) ≤ 64 → (IntKind.i64.wrap (1 * 2 ^ (rd y734 x29_1).toNat)) = ji20 := shl_small hji20
      have hji20u : (IntKind.i64.wrap (2 ^ min (rd y734 x29_1).toNat 64)) = ji20 := by have h_ := hji20_; rw [Int.one_mul] at h_; exact h_
      have hji20v : (rd y734 x29_1) ≤ 64 → (IntKind.i64.wrap (2 ^ (rd y734 x29_1).toNat)) = ji20 := fun hle_ => by have h_ := hji20z hle_; rw [Int.one_mul] at h_; exact h_
      have hji20y : (wrap64 (1 * 2 ^ min (rd y734 x29_1).toNat 64)) = ji20 := (i64_w _).symm.trans hji20_
      have hji20x : (rd y734 x29_1) ≤ 64 → (wrap64 (1 * 2 ^ (rd y734 x29_1).toNat)) = ji20 := fun h_ => (i64_w _).symm.trans (hji20z h_)
      have H' := Aside0.mk H; clear H
      have p737 : 0 ≤ (x29_1 : Int) := zA
      have q737 : x29_1 < (y734.length : Int) := zA
      obtain ⟨ad737, e737, hx737_0⟩ := Kd.at_int (Kd.R_reads' HO_27.out).2.2 x29_1 p737 q737
      cases e737
      replace p737 := eq_true p737
      replace q737 := eq_true q737
      have p15 : 0 ≤ (x29_1 : Int) := zA
      have q15 : x29_1 < (t733.size : Int) := zA
      have hx15 := bt_at t733 x29_1
      replace p15 := eq_true p15
      replace q15 := eq_true q15
      go_wp2
      go_roundg k1
      case measure => have := HK1.out; omega
      case rel => exact ⟨(x13_1), (Go.bits .or .i64 x14_1 (ji20)), (wrap64 (x29_1 + 1)), zF, (by first | rfl | (simp; done) | (simp only [← hji20] <;> (first | rfl | simp)) | (simp [*]; done)), zF, H', ⟨by have := HK1.out; omega⟩, ⟨zR HO_27.out⟩, ⟨zB⟩⟩
     rw [if_neg c19] at H
     exact absurd H (by simp)
    rw [if_neg c14] at H
    exact absurd H (by simp)
   rw [if_neg c13] at H
   exact absurd H (by simp)
  rw [if_neg c12] at H
  exact absurd H (by simp)
 rw [if_neg c11] at H
 have c11b0 : decide (x29_1 < (y734.length : Int)) = false := decide_eq_false c11
 clear c11
 simp only [Option.some.injEq, Prod.mk.injEq] at H
 obtain ⟨rfl, rfl⟩ := H
 go_wp2
 go_ret2
 exact ⟨zE, zB⟩
/-! ### impl_SplitOf: function 30 -/
def impl_SplitOf.f (k : Nat) (a0_0 : Int) (a0_1 : ByteArray) (a1 : Int) (a2 : Int) (a3 : Int) (a4 : Int) : Option (Int × Int) := (impl_orderOf.f k a0_0 a0_1).bind fun bt739 => (if bt739.2 = true then ((impl_areDifferent.f k a0_0 (([a1, a2, a3, a4] : List Int))).bind fun t746 => (if t746 = true then (if bt739.1.length = 344 then ((impl_chi_split.f k bt739.1 a1 a2 a3 a4).bind fun bt747 => (some (bt747.1, bt747.2))) else (none)) else (some (0, 0)))) else (some (0, 0)))
set_option maxHeartbeats 8000000 in
set_option maxRecDepth 100000 in
theorem impl_SplitOf.calls (k : Nat) (a0_0 : Int) (a0_1 : ByteArray) (a1 : Int) (a2 : Int) (a3 : Int) (a4 : Int) (r1 : Int) (r2 : Int) (w : World) (h : impl_SplitOf.f k a0_0 a0_1 a1 a2 a3 a4 = some (r1, r2)) :
  Calls Try.prog 30 #[.agg #[.int .i64 a0_0, .string a0_1], .int .i64 a1, .int .i64 a2, .int .i64 a3, .int .i64 a4] w fun e w' => e = .returned (.tuple #[.int .i64 r1, .int .i64 r2]) ∧ Below w.heap.size w w' := by
 have hu25 := Try.underlying25
 have HB := Aside0.mk (Below.refl w.heap.size w)
 have H : ((impl_orderOf.f k a0_0 a0_1).bind fun bt739 => (if bt739.2 = true then ((impl_areDifferent.f k a0_0 (([a1, a2, a3, a4] : List Int))).bind fun t746 => (if t746 = true then (if bt739.1.length = 344 then ((impl_chi_split.f k bt739.1 a1 a2 a3 a4).bind fun bt747 => (some (bt747.1, bt747.2))) else (none)) else (some (0, 0)))) else (some (0, 0)))) = some (r1, r2) := h
 clear h
 obtain ⟨⟨t739, t742⟩, A6, H⟩ := zO H
 dsimp only at H
 by_cases c7 : t742 = true
 ·subst c7
  replace H := (if_pos rfl).symm.trans H
  obtain ⟨y743, hy743⟩ : ∃ y_ : List Int, y_ = (([a1, a2, a3, a4] : List Int)) := ⟨_, rfl⟩
  replace H : ((impl_areDifferent.f k a0_0 y743).bind fun t746 => (if t746 = true then (if t739.length = 344 then ((impl_chi_split.f k t739 a1 a2 a3 a4).bind fun bt747 => (some (bt747.1, bt747.2))) else (none)) else (some (0, 0)))) = some (r1, r2) := by first | (rw [hy743]; with_reducible exact H) | (have H2_ := (Option.bind_some _ _).symm.trans H; rw [hy743]; with_reducible exact H2_) | (have H2_ := (Option.bind_some _ _).symm.trans H; with_reducible exact H2_) | with_reducible exact H | (rw [hy743]; exact H) | exact H
  have Ny743 := Aside0.mk hy743
  clear hy743
  obtain ⟨t746, A8, H⟩ := zO H
  by_cases c9 : t746 = true
  ·subst c9
   replace H := (if_pos rfl).symm.trans H
   by_cases c10 : t739.length = 344
   ·rw [if_pos c10] at H
    have c10b0 := eq_true c10
    have c10b1 : decide (t739.length = 344) = true := decide_eq_true c10
    clear c10
    obtain ⟨⟨t747, t748⟩, A11, H⟩ := zO H
    replace H : (some (t747, t748)) = some (r1, r2) := H
    simp only [Option.some.injEq, Prod.mk.injEq] at H
    obtain ⟨rfl, rfl⟩ := H
    go_enter Try.func30, Try.ntmps30
    go_wp2_with (first | ((with_reducible refine gate_dst (N := 5) rfl ?_); (try (refine gate_guard (by rfl) ?_; dsimp only)); refine zBx (N := 5) #[.int .i64 a0_0, .string a0_1] 25 ?_; intro gb738 hg w12 hbox hb; have BK738 := Aside0.mk (hbox); have GW738 := zS hg; have GE738 := zS hg; replace HB := zX hb; clear hb hbox hg; obtain ⟨hcz13_0, hcz13_1, hfz13_0, hfz13_1⟩ := zq2 BK738.out) | ((with_reducible refine gate_callee (f := 105) rfl ?_); refine zD (some 16) Try.func105 #[.agg #[.int .i64 a0_0, .string a0_1]] ?_; (with_reducible refine (impl_orderOf.calls k a0_0 a0_1 t739 true _ A6.out).mono ?_); rintro e w14 ⟨v740, rfl, ho0, hb⟩; refine ⟨_, rfl, ?_⟩; have HO741 := Aside0.mk (Kd.R_lower ho0 (below_size (zG GE738.out))); replace BK738 := zV BK738.out hb; replace HB := zX1 GE738.out hb; (try clear hb); (try clear ho0); obtain ⟨hcz15_0, hcz15_1, hfz15_0, hfz15_1⟩ := zq2 BK738.out) | ((with_reducible refine gate_dst (N := 28) rfl ?_); (try (refine gate_guard (by rfl) ?_; dsimp only)); refine Kd.R_lit (Kd.int .i64) _ 3 ?hg (N := 28) ?hd (xs := ([a1, a2, a3, a4] : List Int)) (inner := [.int .i64 a1, .int .i64 a2, .int .i64 a3, .int .i64 a4]) (ok := fun _ => True) (okp := fun _ => True) ?hr ?hp (fun _ hk => hk) trivial (Below.refl _ _) (Nat.le_refl _) (by simp) ?_; (case hd => rfl); (case hg => rfl); (case hr => first | (go_simp; done) | (go_simp; rfl)); (case hp => exact (Reps.one (show Kd.M (Kd.int .i64) _ _ _ a1 [.int .i64 a1] from rfl) (Reps.one (show Kd.M (Kd.int .i64) _ _ _ a2 [.int .i64 a2] from rfl) (Reps.one (show Kd.M (Kd.int .i64) _ _ _ a3 [.int .i64 a3] from rfl) (Reps.one (show Kd.M (Kd.int .i64) _ _ _ a4 [.int .i64 a4] from rfl) (Reps.none _ _)))))); intro v744 w16 ho17 hb hg_ hnew_; clear hg_ hnew_; (first | rw [← Ny743.out] at ho17 | (simp only [Int.reduceToNat] at ho17; rw [← Ny743.out] at ho17)); replace HO741 := zW HO741.out hb; have HO745 := Aside0.mk (Kd.R_lower ho17 (below_size (zG GE738.out))); replace BK738 := zV BK738.out hb; replace HB := zX1 GE738.out hb; clear hb ho17; obtain ⟨Ao18, co18, eo18⟩ := Kd.R_slice HO745.out; subst eo18) | (go_at_call 95; (with_reducible refine (impl_areDifferent.calls k a0_0 _ _ y743 true _ ?side1 ?side2 A8.out).mono ?_); (case side1 => repeat (first | exact (Kd.R_reads' HO745.out).2.2 | (with_reducible refine Kd.C_alloc ?_ _) | (with_reducible refine Kd.C_drewN ?_ _) | (with_reducible refine Kd.C_drew ?_))); (case side2 => exact (Kd.R_reads' HO745.out).2.1); rintro e w' ⟨rfl, ⟨nd, rfl⟩⟩; obtain ⟨go19, co19, eo19, gb19, gl19, cl19, HG19⟩ := Kd.R_form HO741.out (by have hl_ := Nat.le_of_eq (Eq.symm (zA : t739.length = 344)); omega); (first | cases eo19 | (injection eo19 with ea_ en_ ec_; (first | subst ea_ | (injection ea_ with ea_; subst ea_)); subst ec_; clear en_)); have GB19 := Aside0.mk gb19; have GG19 := Aside0.mk HG19; clear gb19 gl19 HG19) | ((with_reducible refine gate_callee (f := 106) rfl ?_); refine zD (some 37) Try.func106 #[.pointer (some ⟨go19, 0, none⟩), .int .i64 a1, .int .i64 a2, .int .i64 a3, .int .i64 a4] ?_; (with_reducible refine (impl_chi_split.calls k _ t739 a1 a2 a3 a4 t747 t748 _ ?side1 ?side2 A11.out).mono ?_); (case side1 => repeat (first | exact (Kd.R_reads' HO741.out).2.2 | (with_reducible refine Kd.C_alloc ?_ _) | (with_reducible refine Kd.C_drewN ?_ _) | (with_reducible refine Kd.C_drew ?_))); (case side2 => exact (zA : t739.length = 344)); rintro e w20 ⟨rfl, hb⟩; refine ⟨_, rfl, ?_⟩; replace HO741 := zW HO741.out hb; replace HO745 := zW HO745.out hb; replace BK738 := zV BK738.out hb; replace HB := zX1 GE738.out hb; (try clear hb)))
    go_ret2
    exact ⟨zE, zG GE738.out⟩
   rw [if_neg c10] at H
   exact absurd H (by simp)
  replace c9 := Bool.eq_false_iff.mpr c9
  subst c9
  replace H := (if_neg zFf).symm.trans H
  simp only [Option.some.injEq, Prod.mk.injEq] at H
  obtain ⟨rfl, rfl⟩ := H
  go_enter Try.func30, Try.ntmps30
  go_wp2_with (first | ((with_reducible refine gate_dst (N := 5) rfl ?_); (try (refine gate_guard (by rfl) ?_; dsimp only)); refine zBx (N := 5) #[.int .i64 a0_0, .string a0_1] 25 ?_; intro gb738 hg w21 hbox hb; have BK738 := Aside0.mk (hbox); have GW738 := zS hg; have GE738 := zS hg; replace HB := zX hb; clear hb hbox hg; obtain ⟨hcz22_0, hcz22_1, hfz22_0, hfz22_1⟩ := zq2 BK738.out) | ((with_reducible refine gate_callee (f := 105) rfl ?_); refine zD (some 16) Try.func105 #[.agg #[.int .i64 a0_0, .string a0_1]] ?_; (with_reducible refine (impl_orderOf.calls k a0_0 a0_1 t739 true _ A6.out).mono ?_); rintro e w23 ⟨v740, rfl, ho0, hb⟩; refine ⟨_, rfl, ?_⟩; have HO741 := Aside0.mk (Kd.R_lower ho0 (below_size (zG GE738.out))); replace BK738 := zV BK738.out hb; replace HB := zX1 GE738.out hb; (try clear hb); (try clear ho0); obtain ⟨hcz24_0, hcz24_1, hfz24_0, hfz24_1⟩ := zq2 BK738.out) | ((with_reducible refine gate_dst (N := 28) rfl ?_); (try (refine gate_guard (by rfl) ?_; dsimp only)); refine Kd.R_lit (Kd.int .i64) _ 3 ?hg (N := 28) ?hd (xs := ([a1, a2, a3, a4] : List Int)) (inner := [.int .i64 a1, .int .i64 a2, .int .i64 a3, .int .i64 a4]) (ok := fun _ => True) (okp := fun _ => True) ?hr ?hp (fun _ hk => hk) trivial (Below.refl _ _) (Nat.le_refl _) (by simp) ?_; (case hd => rfl); (case hg => rfl); (case hr => first | (go_simp; done) | (go_simp; rfl)); (case hp => exact (Reps.one (show Kd.M (Kd.int .i64) _ _ _ a1 [.int .i64 a1] from rfl) (Reps.one (show Kd.M (Kd.int .i64) _ _ _ a2 [.int .i64 a2] from rfl) (Reps.one (show Kd.M (Kd.int .i64) _ _ _ a3 [.int .i64 a3] from rfl) (Reps.one (show Kd.M (Kd.int .i64) _ _ _ a4 [.int .i64 a4] from rfl) (Reps.none _ _)))))); intro v744 w25 ho26 hb hg_ hnew_; clear hg_ hnew_; (first | rw [← Ny743.out] at ho26 | (simp only [Int.reduceToNat] at ho26; rw [← Ny743.out] at ho26)); replace HO741 := zW HO741.out hb; have HO745 := Aside0.mk (Kd.R_lower ho26 (below_size (zG GE738.out))); replace BK738 := zV BK738.out hb; replace HB := zX1 GE738.out hb; clear hb ho26; obtain ⟨Ao27, co27, eo27⟩ := Kd.R_slice HO745.out; subst eo27) | (go_at_call 95; (with_reducible refine (impl_areDifferent.calls k a0_0 _ _ y743 false _ ?side1 ?side2 A8.out).mono ?_); (case side1 => repeat (first | exact (Kd.R_reads' HO745.out).2.2 | (with_reducible refine Kd.C_alloc ?_ _) | (with_reducible refine Kd.C_drewN ?_ _) | (with_reducible refine Kd.C_drew ?_))); (case side2 => exact (Kd.R_reads' HO745.out).2.1); rintro e w' ⟨rfl, ⟨nd, rfl⟩⟩))
  go_ret2
  exact ⟨zE, zG GE738.out⟩
 replace c7 := Bool.eq_false_iff.mpr c7
 subst c7
 replace H := (if_neg zFf).symm.trans H
 simp only [Option.some.injEq, Prod.mk.injEq] at H
 obtain ⟨rfl, rfl⟩ := H
 go_enter Try.func30, Try.ntmps30
 go_wp2_with (first | ((with_reducible refine gate_dst (N := 5) rfl ?_); (try (refine gate_guard (by rfl) ?_; dsimp only)); refine zBx (N := 5) #[.int .i64 a0_0, .string a0_1] 25 ?_; intro gb738 hg w28 hbox hb; have BK738 := Aside0.mk (hbox); have GW738 := zS hg; have GE738 := zS hg; replace HB := zX hb; clear hb hbox hg; obtain ⟨hcz29_0, hcz29_1, hfz29_0, hfz29_1⟩ := zq2 BK738.out) | ((with_reducible refine gate_callee (f := 105) rfl ?_); refine zD (some 16) Try.func105 #[.agg #[.int .i64 a0_0, .string a0_1]] ?_; (with_reducible refine (impl_orderOf.calls k a0_0 a0_1 t739 false _ A6.out).mono ?_); rintro e w30 ⟨v740, rfl, ho0, hb⟩; refine ⟨_, rfl, ?_⟩; have HO741 := Aside0.mk (Kd.R_lower ho0 (below_size (zG GE738.out))); replace BK738 := zV BK738.out hb; replace HB := zX1 GE738.out hb; (try clear hb); (try clear ho0)))
 go_ret2
 exact ⟨zE, zG GE738.out⟩
/-! ### spec_l5Different: function 107 -/
mutual
def spec_l5Different.l0 : Nat → Int → List Int → Int → Option (Bool)
 | 0, _, _, _ => none
 | k + 1, x0, x1, x5 => if x5 < (x1.length : Int) then (if 0 ≤ x5 then ((spec_l1In.f (rd x1 x5) 0 (wrap64 (x0 - 1))).bind fun t750 => (if t750 = true then (spec_l5Different.l1 k x0 x1 x5 0) else (some false))) else (none)) else (some true)
def spec_l5Different.l1 : Nat → Int → List Int → Int → Int → Option (Bool)
 | 0, _, _, _, _ => none
 | k + 1, x0, x1, x5, x6 => if x6 < x5 then (if 0 ≤ x5 then (if x5 < (x1.length : Int) then (if 0 ≤ x6 then (if x6 < (x1.length : Int) then (if (rd x1 x5) = (rd x1 x6) then (some false) else (spec_l5Different.l1 k x0 x1 x5 (wrap64 (x6 + 1)))) else (none)) else (none)) else (none)) else (none)) else (spec_l5Different.l0 k x0 x1 (wrap64 (x5 + 1)))
end
def spec_l5Different.f (k : Nat) (a0 : Int) (l1 : List Int) : Option (Bool) := spec_l5Different.l0 k a0 l1 0
set_option maxHeartbeats 8000000 in
set_option maxRecDepth 100000 in
theorem spec_l5Different.calls (k : Nat) (a0 : Int) (A1 : Option Addr) (c1 : Nat) (l1 : List Int) (r : Bool) (w : World) (hr1 : Kd.C (Kd.int .i64) w A1 l1.length l1) (hc1 : l1.length ≤ c1) (h : spec_l5Different.f k a0 l1 = some r) :
  Calls Try.prog 107 #[.int .i64 a0, .slice A1 l1.length c1] w fun e w' => e = .returned (.bool r) ∧ Drawn0 w w' := by
 have HR1 := Aside0.mk hr1
 have HC1 := Aside0.mk hc1
 clear hr1 hc1
 have H : (spec_l5Different.l0 k a0 l1 0) = some r := h
 clear h
 have H' := Aside0.mk H; clear H
 go_enter Try.func107, Try.ntmps107
 go_wp2
 repeat (go_quiet (fail); try go_wp2)
 go_loopg [5] k (fun kq v5 w' => ∃ (x5_1 : Int), v5 = .int .i64 x5_1 ∧ Aside0 (spec_l5Different.l0 kq a0 l1 x5_1 = some r) ∧ Aside0 (kq ≤ k) ∧ Drawn0 w w')
 case atStart => exact ⟨(0), zF, H', ⟨Nat.le_refl _⟩, by repeat (first | exact Drawn0.refl _ | apply Drawn0.step)⟩
 case round =>
 clear H'
 obtain ⟨x5_1, rfl, HA, HK1, ⟨m1, rfl⟩⟩ := hrel
 cases gk with
 | zero => exact absurd HA.out (by simp [spec_l5Different.l0])
 | succ k1 =>
 have H := HA.out
 clear HA
 simp only [spec_l5Different.l0] at H
 by_cases c3 : x5_1 < (l1.length : Int)
 ·rw [if_pos c3] at H
  have c3b0 : decide (x5_1 < (l1.length : Int)) = true := decide_eq_true c3
  clear c3
  by_cases c4 : 0 ≤ x5_1
  ·rw [if_pos c4] at H
   have c4b0 : decide (0 ≤ x5_1) = true := decide_eq_true c4
   clear c4
   obtain ⟨t750, A5, H⟩ := zO H
   by_cases c6 : t750 = true
   ·subst c6
    replace H := (if_pos rfl).symm.trans H
    have H' := Aside0.mk H; clear H
    have p749 : 0 ≤ (x5_1 : Int) := zA
    have q749 : x5_1 < (l1.length : Int) := zA
    obtain ⟨ad749, e749, hx749_0⟩ := Kd.at_int HR1.out x5_1 p749 q749
    cases e749
    replace p749 := eq_true p749
    replace q749 := eq_true q749
    go_wp2_with (first | (go_at_call 89; (with_reducible refine (spec_l1In.calls (rd l1 x5_1) 0 (wrap64 (a0 - 1)) true _ A5.out).mono ?_); rintro e w' ⟨rfl, ⟨nd, rfl⟩⟩; (try first | exact ⟨rfl, _, World.drewN_drewN _ _ _⟩ | exact ⟨rfl, _, Eq.trans (World.drewN_drewN _ _ _) (congrArg (World.drewN _) (Nat.add_assoc _ _ _))⟩)))
    repeat (go_quiet (first | (go_at_call 89; (with_reducible refine (spec_l1In.calls (rd l1 x5_1) 0 (wrap64 (a0 - 1)) true _ A5.out).mono ?_); rintro e w' ⟨rfl, ⟨nd, rfl⟩⟩; (try first | exact ⟨rfl, _, World.drewN_drewN _ _ _⟩ | exact ⟨rfl, _, Eq.trans (World.drewN_drewN _ _ _) (congrArg (World.drewN _) (Nat.add_assoc _ _ _))⟩))); try go_wp2_with (first | (go_at_call 89; (with_reducible refine (spec_l1In.calls (rd l1 x5_1) 0 (wrap64 (a0 - 1)) true _ A5.out).mono ?_); rintro e w' ⟨rfl, ⟨nd, rfl⟩⟩; (try first | exact ⟨rfl, _, World.drewN_drewN _ _ _⟩ | exact ⟨rfl, _, Eq.trans (World.drewN_drewN _ _ _) (congrArg (World.drewN _) (Nat.add_assoc _ _ _))⟩))))
    go_loopg [6] k1 (fun kq v6 w' => ∃ (x6_2 : Int), v6 = .int .i64 x6_2 ∧ Aside0 (spec_l5Different.l1 kq a0 l1 x5_1 x6_2 = some r) ∧ Aside0 (kq ≤ k1) ∧ Drawn0 w w')
    case atStart => exact ⟨(0), zF, H', ⟨Nat.le_refl _⟩, by repeat (first | exact Drawn0.refl _ | apply Drawn0.step)⟩
    case round =>
    clear H'
    try clear c3
    try clear c3b0
    try clear c4
    try clear c4b0
    try clear c6
    try clear hx749_0
    try clear p749
    try clear q749
    obtain ⟨x6_2, rfl, HA, HK2, ⟨m2, rfl⟩⟩ := hrel
    cases gk with
    | zero => exact absurd HA.out (by simp [spec_l5Different.l1])
    | succ k2 =>
    have H := HA.out
    clear HA
    simp only [spec_l5Different.l1] at H
    by_cases c7 : x6_2 < x5_1
    ·rw [if_pos c7] at H
     have c7b0 : decide (x6_2 < x5_1) = true := decide_eq_true c7
     clear c7
     by_cases c8 : 0 ≤ x5_1
     ·rw [if_pos c8] at H
      have c8b0 : decide (0 ≤ x5_1) = true := decide_eq_true c8
      clear c8
      by_cases c9 : x5_1 < (l1.length : Int)
      ·rw [if_pos c9] at H
       have c9b0 : decide (x5_1 < (l1.length : Int)) = true := decide_eq_true c9
       clear c9
       by_cases c10 : 0 ≤ x6_2
       ·rw [if_pos c10] at H
        have c10b0 : decide (0 ≤ x6_2) = true := decide_eq_true c10
        clear c10
        by_cases c11 : x6_2 < (l1.length : Int)
        ·rw [if_pos c11] at H
         have c11b0 : decide (x6_2 < (l1.length : Int)) = true := decide_eq_true c11
         clear c11
         by_cases c12 : (rd l1 x5_1) = (rd l1 x6_2)
         ·rw [if_pos c12] at H
          have c12b0 : ((rd l1 x5_1) == (rd l1 x6_2)) = true := beq_iff_eq.mpr c12
          have c12b1 : ((rd l1 x5_1) != (rd l1 x6_2)) = false := bne_eq_false_iff_eq.mpr c12
          clear c12
          obtain rfl := Option.some.inj H
          have p751 : 0 ≤ (x5_1 : Int) := zA
          have q751 : x5_1 < (l1.length : Int) := zA
          obtain ⟨ad751, e751, hx751_0⟩ := Kd.at_int HR1.out x5_1 p751 q751
          obtain rfl : ad749 = ad751 := (by injection e751)
          replace p751 := eq_true p751
          replace q751 := eq_true q751
          have p752 : 0 ≤ (x6_2 : Int) := zA
          have q752 : x6_2 < (l1.length : Int) := zA
          obtain ⟨ad752, e752, hx752_0⟩ := Kd.at_int HR1.out x6_2 p752 q752
          obtain rfl : ad749 = ad752 := (by injection e752)
          replace p752 := eq_true p752
          replace q752 := eq_true q752
          go_wp2
          repeat (go_quiet (fail); try go_wp2)
          go_ret
          exact ⟨by first | rfl | (simp; done) | (simp [*]; done), by repeat (first | exact Drawn0.refl _ | apply Drawn0.step)⟩
         rw [if_neg c12] at H
         have c12b0 : ((rd l1 x5_1) == (rd l1 x6_2)) = false := beq_eq_false_iff_ne.mpr c12
         have c12b1 : ((rd l1 x5_1) != (rd l1 x6_2)) = true := bne_iff_ne.mpr c12
         have H' := Aside0.mk H; clear H
         have p751 : 0 ≤ (x5_1 : Int) := zA
         have q751 : x5_1 < (l1.length : Int) := zA
         obtain ⟨ad751, e751, hx751_0⟩ := Kd.at_int HR1.out x5_1 p751 q751
         obtain rfl : ad749 = ad751 := (by injection e751)
         replace p751 := eq_true p751
         replace q751 := eq_true q751
         have p752 : 0 ≤ (x6_2 : Int) := zA
         have q752 : x6_2 < (l1.length : Int) := zA
         obtain ⟨ad752, e752, hx752_0⟩ := Kd.at_int HR1.out x6_2 p752 q752
         obtain rfl : ad749 = ad752 := (by injection e752)
         replace p752 := eq_true p752
         replace q752 := eq_true q752
         go_wp2
         repeat (go_quiet (fail); try go_wp2)
         go_roundg k2
         case measure => have := HK1.out; have := HK2.out; omega
         case rel => exact ⟨(wrap64 (x6_2 + 1)), zF, H', ⟨by have := HK1.out; have := HK2.out; omega⟩, by repeat (first | exact Drawn0.refl _ | apply Drawn0.step)⟩
        rw [if_neg c11] at H
        exact absurd H (by simp)
       rw [if_neg c10] at H
       exact absurd H (by simp)
      rw [if_neg c9] at H
      exact absurd H (by simp)
     rw [if_neg c8] at H
     exact absurd H (by simp)
    rw [if_neg c7] at H
    have c7b0 : decide (x6_2 < x5_1) = false := decide_eq_false c7
    clear c7
    have H' := Aside0.mk H; clear H
    go_wp2
    repeat (go_quiet (fail); try go_wp2)
    go_roundg k2
    case measure => have := HK1.out; have := HK2.out; omega
    case rel => exact ⟨(wrap64 (x5_1 + 1)), zF, H', ⟨by have := HK1.out; have := HK2.out; omega⟩, by repeat (first | exact Drawn0.refl _ | apply Drawn0.step)⟩
   replace c6 := Bool.eq_false_iff.mpr c6
   subst c6
   replace H := (if_neg zFf).symm.trans H
   obtain rfl := Option.some.inj H
   have p749 : 0 ≤ (x5_1 : Int) := zA
   have q749 : x5_1 < (l1.length : Int) := zA
   obtain ⟨ad749, e749, hx749_0⟩ := Kd.at_int HR1.out x5_1 p749 q749
   cases e749
   replace p749 := eq_true p749
   replace q749 := eq_true q749
   go_wp2_with (first | (go_at_call 89; (with_reducible refine (spec_l1In.calls (rd l1 x5_1) 0 (wrap64 (a0 - 1)) false _ A5.out).mono ?_); rintro e w' ⟨rfl, ⟨nd, rfl⟩⟩; (try first | exact ⟨rfl, _, World.drewN_drewN _ _ _⟩ | exact ⟨rfl, _, Eq.trans (World.drewN_drewN _ _ _) (congrArg (World.drewN _) (Nat.add_assoc _ _ _))⟩)))
   repeat (go_quiet (first | (go_at_call 89; (with_reducible refine (spec_l1In.calls (rd l1 x5_1) 0 (wrap64 (a0 - 1)) false _ A5.out).mono ?_); rintro e w' ⟨rfl, ⟨nd, rfl⟩⟩; (try first | exact ⟨rfl, _, World.drewN_drewN _ _ _⟩ | exact ⟨rfl, _, Eq.trans (World.drewN_drewN _ _ _) (congrArg (World.drewN _) (Nat.add_assoc _ _ _))⟩))); try go_wp2_with (first | (go_at_call 89; (with_reducible refine (spec_l1In.calls (rd l1 x5_1) 0 (wrap64 (a0 - 1)) false _ A5.out).mono ?_); rintro e w' ⟨rfl, ⟨nd, rfl⟩⟩; (try first | exact ⟨rfl, _, World.drewN_drewN _ _ _⟩ | exact ⟨rfl, _, Eq.trans (World.drewN_drewN _ _ _) (congrArg (World.drewN _) (Nat.add_assoc _ _ _))⟩))))
   go_ret
   exact ⟨by first | rfl | (simp; done) | (simp [*]; done), by repeat (first | exact Drawn0.refl _ | apply Drawn0.step)⟩
  rw [if_neg c4] at H
  exact absurd H (by simp)
 rw [if_neg c3] at H
 have c3b0 : decide (x5_1 < (l1.length : Int)) = false := decide_eq_false c3
 clear c3
 obtain rfl := Option.some.inj H
 go_wp2
 repeat (go_quiet (fail); try go_wp2)
 go_ret
 exact ⟨by first | rfl | (simp; done) | (simp [*]; done), by repeat (first | exact Drawn0.refl _ | apply Drawn0.step)⟩
/-! ### spec_l5Split: function 108 -/
def spec_l5Split.l0 : Nat → List Int → ByteArray → Int → Int → Int → Option (Int × Int)
 | 0, _, _, _, _, _ => none
 | k + 1, x1, x6, x7, x8, x9 => if x9 < 4 then (if 0 ≤ x9 then (if x9 < (x6.size : Int) then (if (bt x6 x9) = 43 then (if x9 < (x1.length : Int) then (if 0 ≤ (IntKind.u64.wrap (rd x1 x9)) then (spec_l5Split.l0 k x1 x6 (wrap64 (x7 + (shl .i64 1 (IntKind.u64.wrap (rd x1 x9))))) x8 (wrap64 (x9 + 1))) else (none)) else (none)) else (if x9 < (x1.length : Int) then (if 0 ≤ (IntKind.u64.wrap (rd x1 x9)) then (spec_l5Split.l0 k x1 x6 x7 (wrap64 (x8 + (shl .i64 1 (IntKind.u64.wrap (rd x1 x9))))) (wrap64 (x9 + 1))) else (none)) else (none))) else (none)) else (none)) else (some (x7, x8))
def spec_l5Split.f (k : Nat) (a0_0 : Int) (a0_1 : ByteArray) (l1 : List Int) : Option (Int × Int) := if 0 < (l1.length : Int) then (if 1 < (l1.length : Int) then (if 2 < (l1.length : Int) then (if 3 < (l1.length : Int) then ((spec_l4Circuit.f k a0_0 a0_1 (rd l1 0) (rd l1 1) (rd l1 2) (rd l1 3)).bind fun t758 => (spec_l5Split.l0 k l1 t758 0 0 0)) else (none)) else (none)) else (none)) else (none)
def spec_l5Split.T1 : Bool × List (List Nat × List Nat) := (true, [([], []), ([], []), ([1], [1]), ([2], [2]), ([], []), ([4], [4]), ([5], [5]), ([], []), ([7], [7]), ([8], [8]), ([], []), ([10], [10]), ([11], [11]), ([0, 3, 6, 9, 12], [0, 3, 6, 9, 12]), ([13, 13, 0, 1, 2, 3, 4, 5, 6, 7, 8, 9, 10, 11, 12, 13], [13])])
def spec_l5Split.B1 : List Nat := [0, 0, 2, 6, 0, 16, 48, 0, 128, 384, 0, 1024, 3072, 8191, 16383]
theorem spec_l5Split.tab1 : rtab .any (opsOf Try.f108 1) = spec_l5Split.T1 := by kernel_rfl
theorem spec_l5Split.bits1 : waitsOk spec_l5Split.T1.2 spec_l5Split.B1 = true := by kernel_rfl
set_option maxHeartbeats 8000000 in
set_option maxRecDepth 100000 in
theorem spec_l5Split.calls (k : Nat) (a0_0 : Int) (a0_1 : ByteArray) (A1 : Option Addr) (c1 : Nat) (l1 : List Int) (r1 : Int) (r2 : Int) (w : World) (hr1 : Kd.C (Kd.int .i64) w A1 l1.length l1) (hc1 : l1.length ≤ c1) (h : spec_l5Split.f k a0_0 a0_1 l1 = some (r1, r2)) :
  Calls Try.prog 108 #[.agg #[.int .i64 a0_0, .string a0_1], .slice A1 l1.length c1] w fun e w' => e = .returned (.tuple #[.int .i64 r1, .int .i64 r2]) ∧ Below w.heap.size w w' := by
 have hu25 := Try.underlying25
 have HR1 := Aside0.mk hr1
 have HC1 := Aside0.mk hc1
 clear hr1 hc1
 have HB := Aside0.mk (Below.refl w.heap.size w)
 have H : (if 0 < (l1.length : Int) then (if 1 < (l1.length : Int) then (if 2 < (l1.length : Int) then (if 3 < (l1.length : Int) then ((spec_l4Circuit.f k a0_0 a0_1 (rd l1 0) (rd l1 1) (rd l1 2) (rd l1 3)).bind fun t758 => (spec_l5Split.l0 k l1 t758 0 0 0)) else (none)) else (none)) else (none)) else (none)) = some (r1, r2) := h
 clear h
 by_cases c3 : 0 < (l1.length : Int)
 ·rw [if_pos c3] at H
  have c3b0 : decide (0 < (l1.length : Int)) = true := decide_eq_true c3
  have c3b1 : decide (0 < l1.length) = true := decide_eq_true (by omega)
  clear c3
  by_cases c4 : 1 < (l1.length : Int)
  ·rw [if_pos c4] at H
   have c4b0 : decide (1 < (l1.length : Int)) = true := decide_eq_true c4
   have c4b1 : decide (1 < l1.length) = true := decide_eq_true (by omega)
   clear c4
   by_cases c5 : 2 < (l1.length : Int)
   ·rw [if_pos c5] at H
    have c5b0 : decide (2 < (l1.length : Int)) = true := decide_eq_true c5
    have c5b1 : decide (2 < l1.length) = true := decide_eq_true (by omega)
    clear c5
    by_cases c6 : 3 < (l1.length : Int)
    ·rw [if_pos c6] at H
     have c6b0 : decide (3 < (l1.length : Int)) = true := decide_eq_true c6
     have c6b1 : decide (3 < l1.length) = true := decide_eq_true (by omega)
     clear c6
     obtain ⟨t758, A7, H⟩ := zO H
     have H' := Aside0.mk H; clear H
     go_enter Try.func108, Try.ntmps108
     try go_wp2_with (first | ((with_reducible refine gate_dst (N := 2) rfl ?_); refine zBx (N := 2) #[.int .i64 a0_0, .string a0_1] 25 ?_; intro gb753 hg w8 hbox hb; have BK753 := Aside0.mk (hbox); have GW753 := zS hg; have GE753 := zS hg; replace HB := zX hb; clear hb hbox hg))
     replace BK753 := Aside0.mk (blk_drew BK753.out)
     replace HB := Aside0.mk (below_drew1 HB.out)
     have p754 : 0 ≤ (0 : Int) := (by omega)
     have q754 : 0 < (l1.length : Int) := zA
     obtain ⟨ad754, e754, hx754_0⟩ := Kd.at_int HR1.out 0 p754 q754
     have hw754_0 := hx754_0
     (try rw [show ((0 : Int)).toNat = 0 from rfl] at hw754_0)
     (try rw [show 0 * 1 = 0 from rfl] at hw754_0)
     (try rw [Addr.add_zero'] at hw754_0)
     cases e754
     have qi754 : (0 < l1.length) = True := eq_true (by omega)
     (try rw [show ((0 : Int)).toNat = 0 from rfl] at hx754_0)
     (try rw [Addr.add_zero'] at hx754_0)
     replace hx754_0 := (HB.out.cell (World.block_lt_of_cell? w _ hx754_0)).trans hx754_0
     replace p754 := eq_true p754
     replace q754 := eq_true q754
     have p755 : 0 ≤ (1 : Int) := (by omega)
     have q755 : 1 < (l1.length : Int) := zA
     obtain ⟨ad755, e755, hx755_0⟩ := Kd.at_int HR1.out 1 p755 q755
     have hw755_0 := hx755_0
     (try rw [show ((1 : Int)).toNat = 1 from rfl] at hw755_0)
     (try rw [show 1 * 1 = 1 from rfl] at hw755_0)
     (try simp only [Nat.reduceMul, Nat.reduceEqDiff, Go.Addr.add, ↓reduceIte] at hw755_0)
     obtain rfl : ad754 = ad755 := (by injection e755)
     (try simp only [show (1 : Int).toNat = 1 from rfl, Nat.reduceMul, Nat.reduceEqDiff, Go.Addr.add, ↓reduceIte] at hx755_0)
     have qi755 : (1 < l1.length) = True := eq_true (by omega)
     (try rw [show ((1 : Int)).toNat = 1 from rfl] at hx755_0)
     replace hx755_0 := (HB.out.cell (World.block_lt_of_cell? w _ hx755_0)).trans hx755_0
     replace p755 := eq_true p755
     replace q755 := eq_true q755
     have p756 : 0 ≤ (2 : Int) := (by omega)
     have q756 : 2 < (l1.length : Int) := zA
     obtain ⟨ad756, e756, hx756_0⟩ := Kd.at_int HR1.out 2 p756 q756
     have hw756_0 := hx756_0
     (try rw [show ((2 : Int)).toNat = 2 from rfl] at hw756_0)
     (try rw [show 2 * 1 = 2 from rfl] at hw756_0)
     (try simp only [Nat.reduceMul, Nat.reduceEqDiff, Go.Addr.add, ↓reduceIte] at hw756_0)
     obtain rfl : ad754 = ad756 := (by injection e756)
     (try simp only [show (2 : Int).toNat = 2 from rfl, Nat.reduceMul, Nat.reduceEqDiff, Go.Addr.add, ↓reduceIte] at hx756_0)
     have qi756 : (2 < l1.length) = True := eq_true (by omega)
     (try rw [show ((2 : Int)).toNat = 2 from rfl] at hx756_0)
     replace hx756_0 := (HB.out.cell (World.block_lt_of_cell? w _ hx756_0)).trans hx756_0
     replace p756 := eq_true p756
     replace q756 := eq_true q756
     have p757 : 0 ≤ (3 : Int) := (by omega)
     have q757 : 3 < (l1.length : Int) := zA
     obtain ⟨ad757, e757, hx757_0⟩ := Kd.at_int HR1.out 3 p757 q757
     have hw757_0 := hx757_0
     (try rw [show ((3 : Int)).toNat = 3 from rfl] at hw757_0)
     (try rw [show 3 * 1 = 3 from rfl] at hw757_0)
     (try simp only [Nat.reduceMul, Nat.reduceEqDiff, Go.Addr.add, ↓reduceIte] at hw757_0)
     obtain rfl : ad754 = ad757 := (by injection e757)
     (try simp only [show (3 : Int).toNat = 3 from rfl, Nat.reduceMul, Nat.reduceEqDiff, Go.Addr.add, ↓reduceIte] at hx757_0)
     have qi757 : (3 < l1.length) = True := eq_true (by omega)
     (try rw [show ((3 : Int)).toNat = 3 from rfl] at hx757_0)
     replace hx757_0 := (HB.out.cell (World.block_lt_of_cell? w _ hx757_0)).trans hx757_0
     replace p757 := eq_true p757
     replace q757 := eq_true q757
     refine start_ (n := 15) (S := fun w' => w'.cell? ⟨gb753, 0, none⟩ = some (.int .i64 a0_0) ∧ w'.cell? ⟨gb753, 1, none⟩ = some (.string a0_1) ∧ w'.cell? ad754 = some (.int .i64 (rd l1 0)) ∧ w'.cell? ⟨ad754.block, ad754.off + 1, none⟩ = some (.int .i64 (rd l1 1)) ∧ w'.cell? ⟨ad754.block, ad754.off + 2, none⟩ = some (.int .i64 (rd l1 2)) ∧ w'.cell? ⟨ad754.block, ad754.off + 3, none⟩ = some (.int .i64 (rd l1 3))) (ds := []) #[false, false, false, false, false, false, false, false, false, false, false, false, false, false, false] (by kernel_rfl) rfl rfl ⟨(blk_cell BK753.out 0).trans rfl, (blk_cell BK753.out 1).trans rfl, ((HB.out.cell (World.block_lt_of_cell? w _ hw754_0)).trans hw754_0), ((HB.out.cell (World.block_lt_of_cell? w _ hw755_0)).trans hw755_0), ((HB.out.cell (World.block_lt_of_cell? w _ hw756_0)).trans hw756_0), ((HB.out.cell (World.block_lt_of_cell? w _ hw757_0)).trans hw757_0)⟩ (fun hHeld => ?_); refine with_tabW spec_l5Split.tab1 spec_l5Split.bits1 (fun HT_ HW_ => ?_)
     generalize w8.drew = w9 at BK753 HB hx754_0 hx755_0 hx756_0 hx757_0 hHeld ⊢
     refine zP 1 (some 11) rfl rfl ?_
     refine zP 2 (some 12) rfl rfl ?_
     refine zP 4 (some 14) rfl rfl ?_
     refine zP 5 (some 15) rfl rfl ?_
     refine zP 7 (some 17) rfl rfl ?_
     refine zP 8 (some 18) rfl rfl ?_
     refine zP 10 (some 20) rfl rfl ?_
     refine zP 11 (some 21) rfl rfl ?_
     refine zY6 0 (some 10) rfl rfl hHeld ?_
     refine zY6 3 (some 13) rfl rfl hHeld ?_
     refine zY6 6 (some 16) rfl rfl hHeld ?_
     refine zY6 9 (some 19) rfl rfl hHeld ?_
     refine zY6 12 (some 22) rfl rfl hHeld ?_
     refine zU 13 (some 23) rfl rfl (fun K hK => ?_)
     refine goes_ Try.func98 (by kernel_rfl) rfl #[.agg #[.int .i64 a0_0, .string a0_1], .int .i64 (rd l1 0), .int .i64 (rd l1 1), .int .i64 (rd l1 2), .int .i64 (rd l1 3)] (by rfl) rfl rfl zM ?_
     with_reducible refine (spec_l4Circuit.calls k a0_0 a0_1 (rd l1 0) (rd l1 1) (rd l1 2) (rd l1 3) t758 _ A7.out).mono ?_
     rintro e w10 ⟨rfl, hb⟩
     refine ⟨_, rfl, ?_⟩
     replace BK753 := zV BK753.out hb
     replace HB := zX1 GE753.out hb
     (try clear hb)
     refine hK.out _ _ ⟨(blk_cell BK753.out 0).trans rfl, (blk_cell BK753.out 1).trans rfl, ((HB.out.cell (World.block_lt_of_cell? w _ hw754_0)).trans hw754_0), ((HB.out.cell (World.block_lt_of_cell? w _ hw755_0)).trans hw755_0), ((HB.out.cell (World.block_lt_of_cell? w _ hw756_0)).trans hw756_0), ((HB.out.cell (World.block_lt_of_cell? w _ hw757_0)).trans hw757_0)⟩ (fun hHeld => ?_)
     clear hK K
     refine zN ?_
     refine zP 14 (some 6) rfl rfl ?_
     refine done_ (done_of HT_.out (by kernel_rfl)) ?_
     try go_wp2
     go_loopg [7, 8, 9] k (fun kq v7 v8 v9 w' => ∃ (x7_1 : Int) (x8_1 : Int) (x9_1 : Int), v7 = .int .i64 x7_1 ∧ v8 = .int .i64 x8_1 ∧ v9 = .int .i64 x9_1 ∧ Aside0 (spec_l5Split.l0 kq l1 t758 x7_1 x8_1 x9_1 = some (r1, r2)) ∧ Aside0 (kq ≤ k) ∧ Aside0 (w'.heap[gb753]? = some (.cells #[.int .i64 a0_0, .string a0_1] 25 (0, 0))) ∧ Aside0 (Below w.heap.size w w'))
     case atStart => exact ⟨(0), (0), (0), zF, zF, zF, H', ⟨Nat.le_refl _⟩, ⟨zK BK753.out⟩, ⟨zG GE753.out⟩⟩
     case round =>
     clear H'
     try clear c3
     try clear c3b0
     try clear c3b1
     try clear c4
     try clear c4b0
     try clear c4b1
     try clear c5
     try clear c5b0
     try clear c5b1
     try clear c6
     try clear c6b0
     try clear c6b1
     try clear hx754_0
     try clear hx755_0
     try clear hx756_0
     try clear hx757_0
     try clear p754
     try clear p755
     try clear p756
     try clear p757
     try clear q754
     try clear q755
     try clear q756
     try clear q757
     obtain ⟨x7_1, x8_1, x9_1, rfl, rfl, rfl, HA, HK1, BK753, HB⟩ := hrel
     cases gk with
     | zero => exact absurd HA.out (by simp [spec_l5Split.l0])
     | succ k1 =>
     have H := HA.out
     clear HA
     simp only [spec_l5Split.l0] at H
     by_cases c11 : x9_1 < 4
     ·rw [if_pos c11] at H
      have c11b0 : decide (x9_1 < 4) = true := decide_eq_true c11
      clear c11
      by_cases c12 : 0 ≤ x9_1
      ·rw [if_pos c12] at H
       have c12b0 : decide (0 ≤ x9_1) = true := decide_eq_true c12
       clear c12
       by_cases c13 : x9_1 < (t758.size : Int)
       ·rw [if_pos c13] at H
        have c13b0 : decide (x9_1 < (t758.size : Int)) = true := decide_eq_true c13
        clear c13
        by_cases c15 : (bt t758 x9_1) = 43
        ·rw [if_pos c15] at H
         have c15b0 : ((bt t758 x9_1) == 43) = true := beq_iff_eq.mpr c15
         have c15b1 : ((bt t758 x9_1) != 43) = false := bne_eq_false_iff_eq.mpr c15
         clear c15
         by_cases c16 : x9_1 < (l1.length : Int)
         ·rw [if_pos c16] at H
          have c16b0 : decide (x9_1 < (l1.length : Int)) = true := decide_eq_true c16
          clear c16
          obtain ⟨ji17, hji17⟩ : ∃ j_ : Int, (IntKind.u64.wrap (rd l1 x9_1)) = j_ := ⟨_, rfl⟩
          replace H : (if 0 ≤ (ji17) then (spec_l5Split.l0 k1 l1 t758 (wrap64 (x7_1 + (shl .i64 1 (ji17)))) x8_1 (wrap64 (x9_1 + 1))) else (none)) = some (r1, r2) := by first | (rw [hji17] at H; exact H) | (simp only [hji17] at H ⊢; exact H)
          by_cases c18 : 0 ≤ (ji17)
          ·rw [if_pos c18] at H
           have c18b0 := eq_true c18
           have c18b1 : decide (0 ≤ (ji17)) = true := decide_eq_true c18
           clear c18
           obtain ⟨ji19, hji19⟩ : ∃ j_ : Int, (shl .i64 1 (ji17)) = j_ := ⟨_, rfl⟩
           replace H : (spec_l5Split.l0 k1 l1 t758 (wrap64 (x7_1 + (ji19))) x8_1 (wrap64 (x9_1 + 1))) = some (r1, r2) := by first | (rw [hji19] at H; exact H) | (simp only [hji19] at H ⊢; exact H)
           have hji19_ : (IntKind.i64.wrap (1 * 2 ^ min (ji17).toNat 64)) = ji19 := hji19
           have hji19z : (ji17) ≤ 64 → (IntKind.i64.wrap (1 * 2 ^ (ji17).toNat)) = ji19 := shl_small hji19
           have hji19u : (IntKind.i64.wrap (2 ^ min (ji17).toNat 64)) = ji19 := by have h_ := hji19_; rw [Int.one_mul] at h_; exact h_
           have hji19v : (ji17) ≤ 64 → (IntKind.i64.wrap (2 ^ (ji17).toNat)) = ji19 := fun hle_ => by have h_ := hji19z hle_; rw [Int.one_mul] at h_; exact h_
           have hji19y : (wrap64 (1 * 2 ^ min (ji17).toNat 64)) = ji19 := (i64_w _).symm.trans hji19_
           have hji19x : (ji17) ≤ 64 → (wrap64 (1 * 2 ^ (ji17).toNat)) = ji19 := fun h_ => (i64_w _).symm.trans (hji19z h_)
           have H' := Aside0.mk H; clear H
           have p14 : 0 ≤ (x9_1 : Int) := zA
           have q14 : x9_1 < (t758.size : Int) := zA
           have hx14 := bt_at t758 x9_1
           replace p14 := eq_true p14
           replace q14 := eq_true q14
           have p759 : 0 ≤ (x9_1 : Int) := zA
           have q759 : x9_1 < (l1.length : Int) := zA
           obtain ⟨ad759, e759, hx759_0⟩ := Kd.at_int HR1.out x9_1 p759 q759
           obtain rfl : ad754 = ad759 := (by injection e759)
           replace hx759_0 := (HB.out.cell (World.block_lt_of_cell? w _ hx759_0)).trans hx759_0
           replace p759 := eq_true p759
           replace q759 := eq_true q759
           go_wp2
           go_roundg k1
           case measure => have := HK1.out; omega
           case rel => exact ⟨(wrap64 (x7_1 + (ji19))), (x8_1), (wrap64 (x9_1 + 1)), (by first | rfl | (simp; done) | (simp only [← hji19] <;> (first | rfl | simp)) | (simp [*]; done)), zF, zF, H', ⟨by have := HK1.out; omega⟩, ⟨zK BK753.out⟩, ⟨zG GE753.out⟩⟩
          rw [if_neg c18] at H
          exact absurd H (by simp)
         rw [if_neg c16] at H
         exact absurd H (by simp)
        rw [if_neg c15] at H
        have c15b0 : ((bt t758 x9_1) == 43) = false := beq_eq_false_iff_ne.mpr c15
        have c15b1 : ((bt t758 x9_1) != 43) = true := bne_iff_ne.mpr c15
        by_cases c20 : x9_1 < (l1.length : Int)
        ·rw [if_pos c20] at H
         have c20b0 : decide (x9_1 < (l1.length : Int)) = true := decide_eq_true c20
         clear c20
         obtain ⟨ji21, hji21⟩ : ∃ j_ : Int, (IntKind.u64.wrap (rd l1 x9_1)) = j_ := ⟨_, rfl⟩
         replace H : (if 0 ≤ (ji21) then (spec_l5Split.l0 k1 l1 t758 x7_1 (wrap64 (x8_1 + (shl .i64 1 (ji21)))) (wrap64 (x9_1 + 1))) else (none)) = some (r1, r2) := by first | (rw [hji21] at H; exact H) | (simp only [hji21] at H ⊢; exact H)
         by_cases c22 : 0 ≤ (ji21)
         ·rw [if_pos c22] at H
          have c22b0 := eq_true c22
          have c22b1 : decide (0 ≤ (ji21)) = true := decide_eq_true c22
          clear c22
          obtain ⟨ji23, hji23⟩ : ∃ j_ : Int, (shl .i64 1 (ji21)) = j_ := ⟨_, rfl⟩
          replace H : (spec_l5Split.l0 k1 l1 t758 x7_1 (wrap64 (x8_1 + (ji23))) (wrap64 (x9_1 + 1))) = some (r1, r2) := by first | (rw [hji23] at H; exact H) | (simp only [hji23] at H ⊢; exact H)
          have hji23_ : (IntKind.i64.wrap (1 * 2 ^ min (ji21).toNat 64)) = ji23 := hji23
          have hji23z : (ji21) ≤ 64 → (IntKind.i64.wrap (1 * 2 ^ (ji21).toNat)) = ji23 := shl_small hji23
          have hji23u : (IntKind.i64.wrap (2 ^ min (ji21).toNat 64)) = ji23 := by have h_ := hji23_; rw [Int.one_mul] at h_; exact h_
          have hji23v : (ji21) ≤ 64 → (IntKind.i64.wrap (2 ^ (ji21).toNat)) = ji23 := fun hle_ => by have h_ := hji23z hle_; rw [Int.one_mul] at h_; exact h_
          have hji23y : (wrap64 (1 * 2 ^ min (ji21).toNat 64)) = ji23 := (i64_w _).symm.trans hji23_
          have hji23x : (ji21) ≤ 64 → (wrap64 (1 * 2 ^ (ji21).toNat)) = ji23 := fun h_ => (i64_w _).symm.trans (hji23z h_)
          have H' := Aside0.mk H; clear H
          have p14 : 0 ≤ (x9_1 : Int) := zA
          have q14 : x9_1 < (t758.size : Int) := zA
          have hx14 := bt_at t758 x9_1
          replace p14 := eq_true p14
          replace q14 := eq_true q14
          have p760 : 0 ≤ (x9_1 : Int) := zA
          have q760 : x9_1 < (l1.length : Int) := zA
          obtain ⟨ad760, e760, hx760_0⟩ := Kd.at_int HR1.out x9_1 p760 q760
          obtain rfl : ad754 = ad760 := (by injection e760)
          replace hx760_0 := (HB.out.cell (World.block_lt_of_cell? w _ hx760_0)).trans hx760_0
          replace p760 := eq_true p760
          replace q760 := eq_true q760
          go_wp2
          go_roundg k1
          case measure => have := HK1.out; omega
          case rel => exact ⟨(x7_1), (wrap64 (x8_1 + (ji23))), (wrap64 (x9_1 + 1)), zF, (by first | rfl | (simp; done) | (simp only [← hji23] <;> (first | rfl | simp)) | (simp [*]; done)), zF, H', ⟨by have := HK1.out; omega⟩, ⟨zK BK753.out⟩, ⟨zG GE753.out⟩⟩
         rw [if_neg c22] at H
         exact absurd H (by simp)
        rw [if_neg c20] at H
        exact absurd H (by simp)
       rw [if_neg c13] at H
       exact absurd H (by simp)
      rw [if_neg c12] at H
      exact absurd H (by simp)
     rw [if_neg c11] at H
     have c11b0 : decide (x9_1 < 4) = false := decide_eq_false c11
     clear c11
     simp only [Option.some.injEq, Prod.mk.injEq] at H
     obtain ⟨rfl, rfl⟩ := H
     go_wp2
     go_ret2
     exact ⟨zE, zG GE753.out⟩
    rw [if_neg c6] at H
    exact absurd H (by simp)
   rw [if_neg c5] at H
   exact absurd H (by simp)
  rw [if_neg c4] at H
  exact absurd H (by simp)
 rw [if_neg c3] at H
 exact absurd H (by simp)
end Go.Proofs.Ytckkfjdkaimmhaa.PX
