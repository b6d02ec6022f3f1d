/- FnExactInHull returns true for all arguments and leaves them as they were. No condition. -/
import Derived.Test.YtgnghhelalablaaProg
import Derived.Test.YtgnghhelalablaaRows
import Derived.WalkKit
import Derived.ProofKit
import Derived.OpenShut
import Derived.ShutString
import Derived.ChangeOld
import Derived.Below
import Derived.SizedLaws
import Derived.Lib.SmallJoins
import Derived.ChangeSame
import Derived.Test.YtgnghhelalablaaV1
import Derived.Test.YtgnghhelalablaaBpblxux1
import Derived.Test.YtgnghhelalablaaBpblxux2
import Derived.Test.YtgnghhelalablaaBpblxux3
import Derived.Test.YtgnghhelalablaaBpblxux4
import Derived.Test.YtgnghhelalablaaBbwjtrr1
set_option linter.unusedVariables false
set_option linter.unusedSimpArgs false
namespace Go.Proofs.Ytgnghhelalablaa.PX
open Go.RowKit Go.Proofs.Ytgnghhelalablaa.G Go.Proofs.YtgnghhelalablaaW.PrintWords Go.Proofs.YtgnghhelalablaaW.PrintLast Go.Proofs.YtgnghhelalablaaW.PrintMore
attribute [local go_sem] max2_int min2_int max_two min_two max_three min_three max_four min_four   -- for this text's walks alone
set_option linter.unusedVariables false
set_option linter.unusedSimpArgs false
/-! ### laws_FnExactInHull: function 10 -/
def laws_FnExactInHull.f (k : Nat) (a0_0 : Int) (a0_1 : ByteArray) (a1 : Int) (a2 : Int) : Option (Bool) := (laws_szSigns.f a0_0 a0_1 1048576).bind fun t514 => (if t514 < 0 then (some true) else ((laws_toSigns.f a0_0 a0_1).bind fun bt515 => ((spec_InHull.f k bt515.1 bt515.2 a1 a2).bind fun t517 => ((laws_toSigns.f a0_0 a0_1).bind fun bt518 => ((impl_InHull.f k bt518.1 bt518.2 a1 a2).bind fun t520 => (if (t520 != t517) = true then (some false) else (some true)))))))
theorem laws_FnExactInHull.mono : ∀ a0 a1 a2 a3 k, LeO (laws_FnExactInHull.f k a0 a1 a2 a3) (laws_FnExactInHull.f (k + 1) a0 a1 a2 a3) := by
 intro a0 a1 a2 a3 k
 unfold laws_FnExactInHull.f
 repeat' first
   | (with_reducible exact impl_InHull.mono _ _ _ _ _)
   | (with_reducible exact spec_InHull.mono _ _ _ _ _)
   | (with_reducible exact LeO.refl _)
   | (with_reducible exact LeO.none _)
   | (with_reducible refine LeO.ite ?_ ?_)
   | (with_reducible refine LeO.bind ?_ (fun _ => ?_))
   | exact impl_InHull.mono _ _ _ _ _
   | exact spec_InHull.mono _ _ _ _ _
   | exact LeO.none _
   | refine LeO.ite ?_ ?_
   | refine LeO.bind ?_ (fun _ => ?_)
set_option maxHeartbeats 8000000 in
set_option maxRecDepth 100000 in
theorem laws_FnExactInHull.calls (k : Nat) (a0_0 : Int) (a0_1 : ByteArray) (a1 : Int) (a2 : Int) (r : Bool) (w : World) (h : laws_FnExactInHull.f k a0_0 a0_1 a1 a2 = some r) (hr_ : r = true) :
  Calls Try.prog 10 #[.agg #[.int .i64 a0_0, .string a0_1], .int .i64 a1, .int .i64 a2] w fun e w' => e = .returned (.bool r) ∧ Below w.heap.size w w' := by
 have hu23 := Try.underlying23
 have HB := Aside0.mk (Below.refl w.heap.size w)
 have H : ((laws_szSigns.f a0_0 a0_1 1048576).bind fun t514 => (if t514 < 0 then (some true) else ((laws_toSigns.f a0_0 a0_1).bind fun bt515 => ((spec_InHull.f k bt515.1 bt515.2 a1 a2).bind fun t517 => ((laws_toSigns.f a0_0 a0_1).bind fun bt518 => ((impl_InHull.f k bt518.1 bt518.2 a1 a2).bind fun t520 => (if (t520 != t517) = true then (some false) else (some true)))))))) = some r := h
 clear h
 replace H := Option.bind_eq_some_iff.mp H
 obtain ⟨t514, A40, H⟩ := H
 replace H : (if t514 < 0 then (some true) else ((laws_toSigns.f a0_0 a0_1).bind fun bt515 => ((spec_InHull.f k bt515.1 bt515.2 a1 a2).bind fun t517 => ((laws_toSigns.f a0_0 a0_1).bind fun bt518 => ((impl_InHull.f k bt518.1 bt518.2 a1 a2).bind fun t520 => (if (t520 != t517) = true then (some false) else (some true))))))) = some r := H
 have A4 := Aside0.mk A40
 clear A40
 by_cases c5 : t514 < 0
 ·rw [if_pos c5] at H
  have c5b0 : decide (t514 < 0) = true := decide_eq_true c5
  clear c5
  obtain rfl := Option.some.inj H
  go_enter Try.func10, Try.ntmps10
  go_wp2_with (first | ((with_reducible refine gate_dst (N := 3) rfl ?_); refine box_event ?hg (N := 3) ?hd (cs := #[.int .i64 a0_0, .string a0_1]) (t := 23) ?hr ?_; (case hd => rfl); (case hg => rfl); (case hr => first | (go_simp; done) | (go_simp; rfl)); intro gb513 hg w6 hbox hb; have n0_ := Aside0.mk (below_step zB hb); have n1_ := Aside0.mk (hbox); have n2_ := Aside0.mk ((by rw [hg]; exact (below_size zB) : w.heap.size ≤ gb513)); have n3_ := Aside0.mk ((by rw [hg]; exact (below_size zB) : w.heap.size ≤ gb513)); clear HB; have HB := n0_; have BK513 := n1_; have GW513 := n2_; have GE513 := n3_; clear n0_ n1_ n2_ n3_; clear hb hbox hg; have hcz7_0 : w6.cell? ⟨gb513, 0, none⟩ = some (.int .i64 a0_0) := (blk_cell BK513.out 0).trans rfl; have hcz7_1 : w6.cell? ⟨gb513, 1, none⟩ = some (.string a0_1) := (blk_cell BK513.out 1).trans rfl; have hfz7_0 := blk_frozen BK513.out 0; have hfz7_1 := blk_frozen BK513.out 1) | ((with_reducible refine gate_callee (f := 15) rfl ?_); refine goesL_ (some 12) rfl rfl Try.func15 (by kernel_rfl) rfl #[.agg #[.int .i64 a0_0, .string a0_1], .int .i64 1048576] rfl zM ?_; (with_reducible refine (laws_szSigns.calls a0_0 a0_1 1048576 t514 _ A4.out).mono ?_); rintro e w8 ⟨rfl, hb⟩; refine ⟨_, rfl, ?_⟩; have n0_ := Aside0.mk (blk_below (g := gb513) (o := .cells #[.int .i64 a0_0, .string a0_1] 23 (0, 0)) (zK BK513.out) hb); have n1_ := Aside0.mk (below_step (zG GE513.out) hb); clear BK513; clear HB; have BK513 := n0_; have HB := n1_; clear n0_ n1_; (try clear hb); (try clear hb2); (try clear hk); (try clear hi)))
  go_ret
  exact ⟨zE, zG GE513.out⟩
 ·rw [if_neg c5] at H
  have c5b0 : decide (t514 < 0) = false := decide_eq_false c5
  clear c5
  replace H := Option.bind_eq_some_iff.mp H
  obtain ⟨⟨t515, t516⟩, A90, H⟩ := H
  replace H : ((spec_InHull.f k t515 t516 a1 a2).bind fun t517 => ((laws_toSigns.f a0_0 a0_1).bind fun bt518 => ((impl_InHull.f k bt518.1 bt518.2 a1 a2).bind fun t520 => (if (t520 != t517) = true then (some false) else (some true))))) = some r := H
  have A9 := Aside0.mk A90
  clear A90
  replace H := Option.bind_eq_some_iff.mp H
  obtain ⟨t517, A100, H⟩ := H
  replace H : ((laws_toSigns.f a0_0 a0_1).bind fun bt518 => ((impl_InHull.f k bt518.1 bt518.2 a1 a2).bind fun t520 => (if (t520 != t517) = true then (some false) else (some true)))) = some r := H
  have A10 := Aside0.mk A100
  clear A100
  replace H := Option.bind_eq_some_iff.mp H
  obtain ⟨⟨t518, t519⟩, A110, H⟩ := H
  replace H : ((impl_InHull.f k t518 t519 a1 a2).bind fun t520 => (if (t520 != t517) = true then (some false) else (some true))) = some r := H
  have A11 := Aside0.mk A110
  clear A110
  replace H := Option.bind_eq_some_iff.mp H
  obtain ⟨t520, A120, H⟩ := H
  replace H : (if (t520 != t517) = true then (some false) else (some true)) = some r := H
  have A12 := Aside0.mk A120
  clear A120
  by_cases c13 : (t520 != t517) = true
  ·rw [if_pos c13] at H
   have c13b0 : (t520 != t517) = true := c13
   (try (have c13b1 : decide (t520 = t517) = false := by simpa using c13))
   (try (have c13b2 : (t520 == t517) = false := by simpa using c13))
   (try (have c13b3 : ¬ (t520 = t517) := by simpa using c13))
   clear c13
   obtain rfl := Option.some.inj H
   cases hr_
  ·rw [if_neg c13] at H
   have c13b0 : (t520 != t517) = false := by simpa using c13
   (try (have c13b1 : decide (t520 = t517) = true := by simpa using c13))
   (try (have c13b2 : (t520 == t517) = true := by simpa using c13))
   clear c13
   obtain rfl := Option.some.inj H
   go_enter Try.func10, Try.ntmps10
   go_wp2_with (first | ((with_reducible refine gate_dst (N := 3) rfl ?_); refine box_event ?hg (N := 3) ?hd (cs := #[.int .i64 a0_0, .string a0_1]) (t := 23) ?hr ?_; (case hd => rfl); (case hg => rfl); (case hr => first | (go_simp; done) | (go_simp; rfl)); intro gb513 hg w23 hbox hb; have n0_ := Aside0.mk (below_step zB hb); have n1_ := Aside0.mk (hbox); have n2_ := Aside0.mk ((by rw [hg]; exact (below_size zB) : w.heap.size ≤ gb513)); have n3_ := Aside0.mk ((by rw [hg]; exact (below_size zB) : w.heap.size ≤ gb513)); clear HB; have HB := n0_; have BK513 := n1_; have GW513 := n2_; have GE513 := n3_; clear n0_ n1_ n2_ n3_; clear hb hbox hg; have hcz24_0 : w23.cell? ⟨gb513, 0, none⟩ = some (.int .i64 a0_0) := (blk_cell BK513.out 0).trans rfl; have hcz24_1 : w23.cell? ⟨gb513, 1, none⟩ = some (.string a0_1) := (blk_cell BK513.out 1).trans rfl; have hfz24_0 := blk_frozen BK513.out 0; have hfz24_1 := blk_frozen BK513.out 1) | ((with_reducible refine gate_callee (f := 15) rfl ?_); refine goesL_ (some 12) rfl rfl Try.func15 (by kernel_rfl) rfl #[.agg #[.int .i64 a0_0, .string a0_1], .int .i64 1048576] rfl zM ?_; (with_reducible refine (laws_szSigns.calls a0_0 a0_1 1048576 t514 _ A4.out).mono ?_); rintro e w25 ⟨rfl, hb⟩; refine ⟨_, rfl, ?_⟩; have n0_ := Aside0.mk (blk_below (g := gb513) (o := .cells #[.int .i64 a0_0, .string a0_1] 23 (0, 0)) (zK BK513.out) hb); have n1_ := Aside0.mk (below_step (zG GE513.out) hb); clear BK513; clear HB; have BK513 := n0_; have HB := n1_; clear n0_ n1_; (try clear hb); (try clear hb2); (try clear hk); (try clear hi); have hcz26_0 : w25.cell? ⟨gb513, 0, none⟩ = some (.int .i64 a0_0) := (blk_cell BK513.out 0).trans rfl; have hcz26_1 : w25.cell? ⟨gb513, 1, none⟩ = some (.string a0_1) := (blk_cell BK513.out 1).trans rfl; have hfz26_0 := blk_frozen BK513.out 0; have hfz26_1 := blk_frozen BK513.out 1) | ((with_reducible refine gate_callee (f := 17) rfl ?_); refine goesL_ (some 16) rfl rfl Try.func17 (by kernel_rfl) rfl #[.agg #[.int .i64 a0_0, .string a0_1]] rfl zM ?_; (with_reducible refine (laws_toSigns.calls a0_0 a0_1 t515 t516 _ A9.out).mono ?_); rintro e w27 ⟨rfl, hb⟩; refine ⟨_, rfl, ?_⟩; have n0_ := Aside0.mk (blk_below (g := gb513) (o := .cells #[.int .i64 a0_0, .string a0_1] 23 (0, 0)) (zK BK513.out) hb); have n1_ := Aside0.mk (below_step (zG GE513.out) hb); clear BK513; clear HB; have BK513 := n0_; have HB := n1_; clear n0_ n1_; (try clear hb); (try clear hb2); (try clear hk); (try clear hi)) | ((with_reducible refine gate_callee (f := 34) rfl ?_); refine goesL_ (some 19) rfl rfl Try.func34 (by kernel_rfl) rfl #[.agg #[.int .i64 t515, .string t516], .int .i64 a1, .int .i64 a2] rfl zM ?_; (with_reducible refine (spec_InHull.calls k t515 t516 a1 a2 t517 _ A10.out).mono ?_); rintro e w28 ⟨rfl, hb⟩; refine ⟨_, rfl, ?_⟩; have n0_ := Aside0.mk (blk_below (g := gb513) (o := .cells #[.int .i64 a0_0, .string a0_1] 23 (0, 0)) (zK BK513.out) hb); have n1_ := Aside0.mk (below_step (zG GE513.out) hb); clear BK513; clear HB; have BK513 := n0_; have HB := n1_; clear n0_ n1_; (try clear hb); (try clear hb2); (try clear hk); (try clear hi); have hcz29_0 : w28.cell? ⟨gb513, 0, none⟩ = some (.int .i64 a0_0) := (blk_cell BK513.out 0).trans rfl; have hcz29_1 : w28.cell? ⟨gb513, 1, none⟩ = some (.string a0_1) := (blk_cell BK513.out 1).trans rfl; have hfz29_0 := blk_frozen BK513.out 0; have hfz29_1 := blk_frozen BK513.out 1) | ((with_reducible refine gate_callee (f := 17) rfl ?_); refine goesL_ (some 21) rfl rfl Try.func17 (by kernel_rfl) rfl #[.agg #[.int .i64 a0_0, .string a0_1]] rfl zM ?_; (with_reducible refine (laws_toSigns.calls a0_0 a0_1 t518 t519 _ A11.out).mono ?_); rintro e w30 ⟨rfl, hb⟩; refine ⟨_, rfl, ?_⟩; have n0_ := Aside0.mk (blk_below (g := gb513) (o := .cells #[.int .i64 a0_0, .string a0_1] 23 (0, 0)) (zK BK513.out) hb); have n1_ := Aside0.mk (below_step (zG GE513.out) hb); clear BK513; clear HB; have BK513 := n0_; have HB := n1_; clear n0_ n1_; (try clear hb); (try clear hb2); (try clear hk); (try clear hi)) | ((with_reducible refine gate_callee (f := 35) rfl ?_); refine goesL_ (some 24) rfl rfl Try.func35 (by kernel_rfl) rfl #[.agg #[.int .i64 t518, .string t519], .int .i64 a1, .int .i64 a2] rfl zM ?_; (with_reducible refine (impl_InHull.calls k t518 t519 a1 a2 t520 _ A12.out).mono ?_); rintro e w31 ⟨rfl, hb⟩; refine ⟨_, rfl, ?_⟩; have n0_ := Aside0.mk (blk_below (g := gb513) (o := .cells #[.int .i64 a0_0, .string a0_1] 23 (0, 0)) (zK BK513.out) hb); have n1_ := Aside0.mk (below_step (zG GE513.out) hb); clear BK513; clear HB; have BK513 := n0_; have HB := n1_; clear n0_ n1_; (try clear hb); (try clear hb2); (try clear hk); (try clear hi)))
   go_ret
   exact ⟨zE, zG GE513.out⟩
end Go.Proofs.Ytgnghhelalablaa.PX
namespace Go.Proofs.Ytgnghhelalablaa.Pure
open Go.RowKit Go.Proofs.YtgnghhelalablaaW.PrintWords Go.Proofs.Ytgnghhelalablaa.PX Go.Proofs.Ytgnghhelalablaa.M
theorem FnExactInHull (n : Int) (t : ByteArray) (s : Int) (p : Int) (_ : (Lit.int .i64 n).wf = true) (hs : t.size ≤ 9223372036854775807) (_ : (Lit.int .i64 s).wf = true) (_ : (Lit.int .i64 p).wf = true) :
    ∃ k, laws_FnExactInHull.f k n t s p = some true := by
  refine Ev.rounds (r := true) ?_
  unfold laws_FnExactInHull.f
  obtain ⟨r, hr⟩ := sz_signs n t
  refine ev_call hr ?_
  by_cases h : r < 0
  · exact ev_pos h (Ev.now _)
  · exact ev_neg h (ev_call (a := (n, t)) rfl (Ev.bind (spec_inHullOf n t s p hs) (ev_call (a := (n, t)) rfl (Ev.bind (impl_inHullOf n t s p hs) (ev_neg (by simp) (Ev.now _))))))
end Go.Proofs.Ytgnghhelalablaa.Pure
namespace Go.Proofs.Ytgnghhelalablaa.fnExactInHull
open Go.ChangeShapes Go.WideShapes Go.ChangeAt Go.RowKit Go.Joins
open Go.ChangeMaps (open_string shut_string)
set_option linter.unusedVariables false
theorem own : ownKnob Try.prog.godebug = none := by kernel_rfl
theorem str_mk {H : Type} {enc : TypeId × Value → H} {P : Program} {w : World} {base : Nat} {spare : Nat → Bool} {held : Bool} {t : TypeId} {s : ByteArray} (ht : P.underlying t = some .string) (hs : s.size ≤ maxLen) : DataW.trod enc P w base spare held 1 t [.string s] = some (.lit (.string s.data.toList), []) := by
  simp [DataW.trod, ht, hs]
set_option maxRecDepth 100000 in
theorem lifted (os : Os) (started : os.Started) (H : Type) (enc : TypeId × Value → H) :
    ReturnsInHanded {} Try.checked os 10 .any (Rows.fnExactInHullSpec.pre6 enc Try.prog Try.f10 Rows.fnExactInHullRow.domain false) (Rows.fnExactInHullSpec.post enc Try.prog Try.f10 false true false false) := by
  refine returnsInHanded_of_change_sized (C := Try.checked) own started (by kernel_rfl) Try.func10
    (ChangeSpec.witness6 (enc := enc) (C := Try.checked) false ⟨#[], #[.agg #[.int .i64 0, .string ByteArray.empty], .int .i64 0, .int .i64 0], []⟩ 8 (by kernel_rfl) (by kernel_rfl) (by kernel_rfl) (by kernel_rfl)) ?_
  intro W base args ds gs before hval0 hW hcnd hsz0 _
  have hsz : (DataW.weightsEach Try.prog (Try.f10.params.toList ++ Rows.fnExactInHullSpec.plain.varTypes Try.prog) (ds ++ gs)).all (· ≤ reachBytes) = true := hsz0
  have hval : ∀ (j : Nat) t v, Try.f10.params[j]? = some t → args[j]? = some v → Value.okWide Try.prog W .any base t v := hval0
  have hW' := hW
  obtain ⟨p, q, hA0, hV, rfl, hfz, hnd⟩ := hW
  have hA : DataW.TrodAll enc Try.prog W 0 (fun _ => true) true Try.f10.params.toList args.toList ds p := hA0
  rw [Try.params10] at hA hval hsz
  obtain ⟨v0, vs0, d0, ds0, p0, q0, hargs, rfl, rfl, h0, r0⟩ := trodAll_cons hA
  obtain ⟨v1, vs1, d1, ds1, p1, q1, rfl, rfl, rfl, h1, r1⟩ := trodAll_cons r0
  obtain ⟨v2, vs2, d2, ds2, p2, q2, rfl, rfl, rfl, h2, r2⟩ := trodAll_cons r1
  obtain ⟨rfl, rfl, rfl⟩ := trodAll_nil r2
  obtain rfl : args = #[v0, v1, v2] := by cases args; simp_all
  obtain ⟨rfl, rfl⟩ := trodVars_none hV
  obtain ⟨c0_0, c0_1, y0_0, y0_1, m0, rfl, rfl, rfl, hy0_0, hy0_1⟩ := open_agg2 Try.underlying23 (by kernel_rfl) (by kernel_rfl) (hval 0 23 v0 rfl rfl) h0
  obtain ⟨a0_0, e0_0, rfl, wa0⟩ := DataW.trod_int Try.underlying3 hy0_0
  obtain ⟨a0_1, e0_1, rfl, ws0⟩ := DataW.trod_string Try.underlying9 hy0_1
  simp only [List.cons.injEq, and_true] at e0_0 e0_1
  subst e0_0 e0_1
  obtain ⟨a1, rfl, rfl, rfl, w1⟩ := open_int Try.underlying3 (hval 1 3 v1 rfl rfl) h1
  obtain ⟨a2, rfl, rfl, rfl, w2⟩ := open_int Try.underlying3 (hval 2 3 v2 rfl rfl) h2
  clear hA0 hval0 hsz0 hsz
  obtain ⟨k, hP⟩ := Pure.FnExactInHull a0_0 a0_1 a1 a2 wa0 ws0 w1 w2
  refine (PX.laws_FnExactInHull.calls k a0_0 a0_1 a1 a2 true W hP rfl).mono fun e W' ⟨he, bel⟩ => ?_
  subst he
  exact ⟨_, rfl, _, _, _, [], _, [], hW', trodAll_mk1 (shut_bool Try.underlying4 _), (trodAll_cons_mk (shut_agg2 Try.underlying23 (by kernel_rfl) (by kernel_rfl) ⟨_, trod_int_mk 0 Try.underlying3 wa0⟩ ⟨_, str_mk Try.underlying9 ws0⟩) (trodAll_cons_mk (shut_int Try.underlying3 w1) (trodAll_cons_mk (shut_int Try.underlying3 w2) trodAll_mk0))), rfl, bel.frame _, fun h => by cases h⟩
theorem over : Rows.fnExactInHullRow.holds Try.pinned (OpenSpec.ofChange Rows.fnExactInHullSpec) :=
  OpenClaim.holds_of_wide 10 Try.f10 rfl rfl rfl rfl rfl rfl rfl ⟨rfl, rfl, rfl, rfl, rfl⟩ rfl rfl rfl rfl rfl (by kernel_rfl) Try.func10 (by kernel_rfl)
    (of_decide_eq_true (by kernel_rfl)) (by unfold Func.isWrapper; first | (rw [if_pos (by decide +kernel)]; kernel_rfl) | (rw [if_neg (by decide +kernel)]; exact ⟨rfl, rfl⟩))
    (fun os started H enc _ => lifted os started H enc)
theorem proved : Rows.FnExactInHullSaid := over
#print axioms proved
end Go.Proofs.Ytgnghhelalablaa.fnExactInHull
namespace Go.Proofs.Ytgnghhelalablaa
/-- The row, under a short name, for the claim. -/
theorem fnExactInHull_holds : Rows.FnExactInHullSaid := fnExactInHull.proved
end Go.Proofs.Ytgnghhelalablaa
