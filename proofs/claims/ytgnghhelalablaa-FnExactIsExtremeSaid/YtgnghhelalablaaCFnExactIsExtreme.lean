/- FnExactIsExtreme returns true for all arguments and leaves them as they were. No condition. -/
import Derived.Test.YtgnghhelalablaaProg
import Derived.Test.YtgnghhelalablaaRows
import Derived.WalkKit
import Derived.ProofKit
import Derived.OpenShut
import Derived.ShutString
import Derived.ChangeOld
import Derived.Below
import Derived.SizedLaws
import Derived.Lib.SmallJoins
import Derived.ChangeSame
import Derived.Test.YtgnghhelalablaaV1
import Derived.Test.YtgnghhelalablaaBpblxux1
import Derived.Test.YtgnghhelalablaaBpblxux2
import Derived.Test.YtgnghhelalablaaBpblxux3
import Derived.Test.YtgnghhelalablaaBpblxux4
import Derived.Test.YtgnghhelalablaaBbwjtrr1
set_option linter.unusedVariables false
set_option linter.unusedSimpArgs false
namespace Go.Proofs.Ytgnghhelalablaa.PX
open Go.RowKit Go.Proofs.Ytgnghhelalablaa.G Go.Proofs.YtgnghhelalablaaW.PrintWords Go.Proofs.YtgnghhelalablaaW.PrintLast Go.Proofs.YtgnghhelalablaaW.PrintMore
attribute [local go_sem] max2_int min2_int max_two min_two max_three min_three max_four min_four   -- for this text's walks alone
set_option linter.unusedVariables false
set_option linter.unusedSimpArgs false
/-! ### laws_FnExactIsExtreme: function 11 -/
def laws_FnExactIsExtreme.f (k : Nat) (a0_0 : Int) (a0_1 : ByteArray) (a1 : Int) : Option (Bool) := (laws_szSigns.f a0_0 a0_1 1048576).bind fun t536 => (if t536 < 0 then (some true) else ((laws_toSigns.f a0_0 a0_1).bind fun bt537 => ((spec_IsExtreme.f k bt537.1 bt537.2 a1).bind fun t539 => ((laws_toSigns.f a0_0 a0_1).bind fun bt540 => ((impl_IsExtreme.f k bt540.1 bt540.2 a1).bind fun t542 => (if (t542 != t539) = true then (some false) else (some true)))))))
theorem laws_FnExactIsExtreme.mono : ∀ a0 a1 a2 k, LeO (laws_FnExactIsExtreme.f k a0 a1 a2) (laws_FnExactIsExtreme.f (k + 1) a0 a1 a2) := by
 intro a0 a1 a2 k
 unfold laws_FnExactIsExtreme.f
 repeat' first
   | (with_reducible exact impl_IsExtreme.mono _ _ _ _)
   | (with_reducible exact spec_IsExtreme.mono _ _ _ _)
   | (with_reducible exact LeO.refl _)
   | (with_reducible exact LeO.none _)
   | (with_reducible refine LeO.ite ?_ ?_)
   | (with_reducible refine LeO.bind ?_ (fun _ => ?_))
   | exact impl_IsExtreme.mono _ _ _ _
   | exact spec_IsExtreme.mono _ _ _ _
   | exact LeO.none _
   | refine LeO.ite ?_ ?_
   | refine LeO.bind ?_ (fun _ => ?_)
set_option maxHeartbeats 8000000 in
set_option maxRecDepth 100000 in
theorem laws_FnExactIsExtreme.calls (k : Nat) (a0_0 : Int) (a0_1 : ByteArray) (a1 : Int) (r : Bool) (w : World) (h : laws_FnExactIsExtreme.f k a0_0 a0_1 a1 = some r) (hr_ : r = true) :
  Calls Try.prog 11 #[.agg #[.int .i64 a0_0, .string a0_1], .int .i64 a1] w fun e w' => e = .returned (.bool r) ∧ Below w.heap.size w w' := by
 have hu23 := Try.underlying23
 have HB := Aside0.mk (Below.refl w.heap.size w)
 have H : ((laws_szSigns.f a0_0 a0_1 1048576).bind fun t536 => (if t536 < 0 then (some true) else ((laws_toSigns.f a0_0 a0_1).bind fun bt537 => ((spec_IsExtreme.f k bt537.1 bt537.2 a1).bind fun t539 => ((laws_toSigns.f a0_0 a0_1).bind fun bt540 => ((impl_IsExtreme.f k bt540.1 bt540.2 a1).bind fun t542 => (if (t542 != t539) = true then (some false) else (some true)))))))) = some r := h
 clear h
 replace H := Option.bind_eq_some_iff.mp H
 obtain ⟨t536, A30, H⟩ := H
 replace H : (if t536 < 0 then (some true) else ((laws_toSigns.f a0_0 a0_1).bind fun bt537 => ((spec_IsExtreme.f k bt537.1 bt537.2 a1).bind fun t539 => ((laws_toSigns.f a0_0 a0_1).bind fun bt540 => ((impl_IsExtreme.f k bt540.1 bt540.2 a1).bind fun t542 => (if (t542 != t539) = true then (some false) else (some true))))))) = some r := H
 have A3 := Aside0.mk A30
 clear A30
 by_cases c4 : t536 < 0
 ·rw [if_pos c4] at H
  have c4b0 : decide (t536 < 0) = true := decide_eq_true c4
  clear c4
  obtain rfl := Option.some.inj H
  go_enter Try.func11, Try.ntmps11
  go_wp2_with (first | ((with_reducible refine gate_dst (N := 2) rfl ?_); refine box_event ?hg (N := 2) ?hd (cs := #[.int .i64 a0_0, .string a0_1]) (t := 23) ?hr ?_; (case hd => rfl); (case hg => rfl); (case hr => first | (go_simp; done) | (go_simp; rfl)); intro gb535 hg w5 hbox hb; have n0_ := Aside0.mk (below_step zB hb); have n1_ := Aside0.mk (hbox); have n2_ := Aside0.mk ((by rw [hg]; exact (below_size zB) : w.heap.size ≤ gb535)); have n3_ := Aside0.mk ((by rw [hg]; exact (below_size zB) : w.heap.size ≤ gb535)); clear HB; have HB := n0_; have BK535 := n1_; have GW535 := n2_; have GE535 := n3_; clear n0_ n1_ n2_ n3_; clear hb hbox hg; have hcz6_0 : w5.cell? ⟨gb535, 0, none⟩ = some (.int .i64 a0_0) := (blk_cell BK535.out 0).trans rfl; have hcz6_1 : w5.cell? ⟨gb535, 1, none⟩ = some (.string a0_1) := (blk_cell BK535.out 1).trans rfl; have hfz6_0 := blk_frozen BK535.out 0; have hfz6_1 := blk_frozen BK535.out 1) | ((with_reducible refine gate_callee (f := 15) rfl ?_); refine goesL_ (some 10) rfl rfl Try.func15 (by kernel_rfl) rfl #[.agg #[.int .i64 a0_0, .string a0_1], .int .i64 1048576] rfl zM ?_; (with_reducible refine (laws_szSigns.calls a0_0 a0_1 1048576 t536 _ A3.out).mono ?_); rintro e w7 ⟨rfl, hb⟩; refine ⟨_, rfl, ?_⟩; have n0_ := Aside0.mk (blk_below (g := gb535) (o := .cells #[.int .i64 a0_0, .string a0_1] 23 (0, 0)) (zK BK535.out) hb); have n1_ := Aside0.mk (below_step (zG GE535.out) hb); clear BK535; clear HB; have BK535 := n0_; have HB := n1_; clear n0_ n1_; (try clear hb); (try clear hb2); (try clear hk); (try clear hi)))
  go_ret
  exact ⟨zE, zG GE535.out⟩
 ·rw [if_neg c4] at H
  have c4b0 : decide (t536 < 0) = false := decide_eq_false c4
  clear c4
  replace H := Option.bind_eq_some_iff.mp H
  obtain ⟨⟨t537, t538⟩, A80, H⟩ := H
  replace H : ((spec_IsExtreme.f k t537 t538 a1).bind fun t539 => ((laws_toSigns.f a0_0 a0_1).bind fun bt540 => ((impl_IsExtreme.f k bt540.1 bt540.2 a1).bind fun t542 => (if (t542 != t539) = true then (some false) else (some true))))) = some r := H
  have A8 := Aside0.mk A80
  clear A80
  replace H := Option.bind_eq_some_iff.mp H
  obtain ⟨t539, A90, H⟩ := H
  replace H : ((laws_toSigns.f a0_0 a0_1).bind fun bt540 => ((impl_IsExtreme.f k bt540.1 bt540.2 a1).bind fun t542 => (if (t542 != t539) = true then (some false) else (some true)))) = some r := H
  have A9 := Aside0.mk A90
  clear A90
  replace H := Option.bind_eq_some_iff.mp H
  obtain ⟨⟨t540, t541⟩, A100, H⟩ := H
  replace H : ((impl_IsExtreme.f k t540 t541 a1).bind fun t542 => (if (t542 != t539) = true then (some false) else (some true))) = some r := H
  have A10 := Aside0.mk A100
  clear A100
  replace H := Option.bind_eq_some_iff.mp H
  obtain ⟨t542, A110, H⟩ := H
  replace H : (if (t542 != t539) = true then (some false) else (some true)) = some r := H
  have A11 := Aside0.mk A110
  clear A110
  by_cases c12 : (t542 != t539) = true
  ·rw [if_pos c12] at H
   have c12b0 : (t542 != t539) = true := c12
   (try (have c12b1 : decide (t542 = t539) = false := by simpa using c12))
   (try (have c12b2 : (t542 == t539) = false := by simpa using c12))
   (try (have c12b3 : ¬ (t542 = t539) := by simpa using c12))
   clear c12
   obtain rfl := Option.some.inj H
   cases hr_
  ·rw [if_neg c12] at H
   have c12b0 : (t542 != t539) = false := by simpa using c12
   (try (have c12b1 : decide (t542 = t539) = true := by simpa using c12))
   (try (have c12b2 : (t542 == t539) = true := by simpa using c12))
   clear c12
   obtain rfl := Option.some.inj H
   go_enter Try.func11, Try.ntmps11
   go_wp2_with (first | ((with_reducible refine gate_dst (N := 2) rfl ?_); refine box_event ?hg (N := 2) ?hd (cs := #[.int .i64 a0_0, .string a0_1]) (t := 23) ?hr ?_; (case hd => rfl); (case hg => rfl); (case hr => first | (go_simp; done) | (go_simp; rfl)); intro gb535 hg w22 hbox hb; have n0_ := Aside0.mk (below_step zB hb); have n1_ := Aside0.mk (hbox); have n2_ := Aside0.mk ((by rw [hg]; exact (below_size zB) : w.heap.size ≤ gb535)); have n3_ := Aside0.mk ((by rw [hg]; exact (below_size zB) : w.heap.size ≤ gb535)); clear HB; have HB := n0_; have BK535 := n1_; have GW535 := n2_; have GE535 := n3_; clear n0_ n1_ n2_ n3_; clear hb hbox hg; have hcz23_0 : w22.cell? ⟨gb535, 0, none⟩ = some (.int .i64 a0_0) := (blk_cell BK535.out 0).trans rfl; have hcz23_1 : w22.cell? ⟨gb535, 1, none⟩ = some (.string a0_1) := (blk_cell BK535.out 1).trans rfl; have hfz23_0 := blk_frozen BK535.out 0; have hfz23_1 := blk_frozen BK535.out 1) | ((with_reducible refine gate_callee (f := 15) rfl ?_); refine goesL_ (some 10) rfl rfl Try.func15 (by kernel_rfl) rfl #[.agg #[.int .i64 a0_0, .string a0_1], .int .i64 1048576] rfl zM ?_; (with_reducible refine (laws_szSigns.calls a0_0 a0_1 1048576 t536 _ A3.out).mono ?_); rintro e w24 ⟨rfl, hb⟩; refine ⟨_, rfl, ?_⟩; have n0_ := Aside0.mk (blk_below (g := gb535) (o := .cells #[.int .i64 a0_0, .string a0_1] 23 (0, 0)) (zK BK535.out) hb); have n1_ := Aside0.mk (below_step (zG GE535.out) hb); clear BK535; clear HB; have BK535 := n0_; have HB := n1_; clear n0_ n1_; (try clear hb); (try clear hb2); (try clear hk); (try clear hi); have hcz25_0 : w24.cell? ⟨gb535, 0, none⟩ = some (.int .i64 a0_0) := (blk_cell BK535.out 0).trans rfl; have hcz25_1 : w24.cell? ⟨gb535, 1, none⟩ = some (.string a0_1) := (blk_cell BK535.out 1).trans rfl; have hfz25_0 := blk_frozen BK535.out 0; have hfz25_1 := blk_frozen BK535.out 1) | ((with_reducible refine gate_callee (f := 17) rfl ?_); refine goesL_ (some 14) rfl rfl Try.func17 (by kernel_rfl) rfl #[.agg #[.int .i64 a0_0, .string a0_1]] rfl zM ?_; (with_reducible refine (laws_toSigns.calls a0_0 a0_1 t537 t538 _ A8.out).mono ?_); rintro e w26 ⟨rfl, hb⟩; refine ⟨_, rfl, ?_⟩; have n0_ := Aside0.mk (blk_below (g := gb535) (o := .cells #[.int .i64 a0_0, .string a0_1] 23 (0, 0)) (zK BK535.out) hb); have n1_ := Aside0.mk (below_step (zG GE535.out) hb); clear BK535; clear HB; have BK535 := n0_; have HB := n1_; clear n0_ n1_; (try clear hb); (try clear hb2); (try clear hk); (try clear hi)) | ((with_reducible refine gate_callee (f := 36) rfl ?_); refine goesL_ (some 16) rfl rfl Try.func36 (by kernel_rfl) rfl #[.agg #[.int .i64 t537, .string t538], .int .i64 a1] rfl zM ?_; (with_reducible refine (spec_IsExtreme.calls k t537 t538 a1 t539 _ A9.out).mono ?_); rintro e w27 ⟨rfl, hb⟩; refine ⟨_, rfl, ?_⟩; have n0_ := Aside0.mk (blk_below (g := gb535) (o := .cells #[.int .i64 a0_0, .string a0_1] 23 (0, 0)) (zK BK535.out) hb); have n1_ := Aside0.mk (below_step (zG GE535.out) hb); clear BK535; clear HB; have BK535 := n0_; have HB := n1_; clear n0_ n1_; (try clear hb); (try clear hb2); (try clear hk); (try clear hi); have hcz28_0 : w27.cell? ⟨gb535, 0, none⟩ = some (.int .i64 a0_0) := (blk_cell BK535.out 0).trans rfl; have hcz28_1 : w27.cell? ⟨gb535, 1, none⟩ = some (.string a0_1) := (blk_cell BK535.out 1).trans rfl; have hfz28_0 := blk_frozen BK535.out 0; have hfz28_1 := blk_frozen BK535.out 1) | ((with_reducible refine gate_callee (f := 17) rfl ?_); refine goesL_ (some 18) rfl rfl Try.func17 (by kernel_rfl) rfl #[.agg #[.int .i64 a0_0, .string a0_1]] rfl zM ?_; (with_reducible refine (laws_toSigns.calls a0_0 a0_1 t540 t541 _ A10.out).mono ?_); rintro e w29 ⟨rfl, hb⟩; refine ⟨_, rfl, ?_⟩; have n0_ := Aside0.mk (blk_below (g := gb535) (o := .cells #[.int .i64 a0_0, .string a0_1] 23 (0, 0)) (zK BK535.out) hb); have n1_ := Aside0.mk (below_step (zG GE535.out) hb); clear BK535; clear HB; have BK535 := n0_; have HB := n1_; clear n0_ n1_; (try clear hb); (try clear hb2); (try clear hk); (try clear hi)) | ((with_reducible refine gate_callee (f := 37) rfl ?_); refine goesL_ (some 20) rfl rfl Try.func37 (by kernel_rfl) rfl #[.agg #[.int .i64 t540, .string t541], .int .i64 a1] rfl zM ?_; (with_reducible refine (impl_IsExtreme.calls k t540 t541 a1 t542 _ A11.out).mono ?_); rintro e w30 ⟨rfl, hb⟩; refine ⟨_, rfl, ?_⟩; have n0_ := Aside0.mk (blk_below (g := gb535) (o := .cells #[.int .i64 a0_0, .string a0_1] 23 (0, 0)) (zK BK535.out) hb); have n1_ := Aside0.mk (below_step (zG GE535.out) hb); clear BK535; clear HB; have BK535 := n0_; have HB := n1_; clear n0_ n1_; (try clear hb); (try clear hb2); (try clear hk); (try clear hi)))
   go_ret
   exact ⟨zE, zG GE535.out⟩
end Go.Proofs.Ytgnghhelalablaa.PX
namespace Go.Proofs.Ytgnghhelalablaa.Pure
open Go.RowKit Go.Proofs.YtgnghhelalablaaW.PrintWords Go.Proofs.Ytgnghhelalablaa.PX Go.Proofs.Ytgnghhelalablaa.M
theorem FnExactIsExtreme (n : Int) (t : ByteArray) (p : Int) (_ : (Lit.int .i64 n).wf = true) (hs : t.size ≤ 9223372036854775807) (_ : (Lit.int .i64 p).wf = true) :
    ∃ k, laws_FnExactIsExtreme.f k n t p = some true := by
  refine Ev.rounds (r := true) ?_
  unfold laws_FnExactIsExtreme.f
  obtain ⟨r, hr⟩ := sz_signs n t
  refine ev_call hr ?_
  by_cases h : r < 0
  · exact ev_pos h (Ev.now _)
  · exact ev_neg h (ev_call (a := (n, t)) rfl (Ev.bind (spec_isExt n t p hs) (ev_call (a := (n, t)) rfl (Ev.bind (impl_isExt n t p hs) (ev_neg (by simp) (Ev.now _))))))
end Go.Proofs.Ytgnghhelalablaa.Pure
namespace Go.Proofs.Ytgnghhelalablaa.fnExactIsExtreme
open Go.ChangeShapes Go.WideShapes Go.ChangeAt Go.RowKit Go.Joins
open Go.ChangeMaps (open_string shut_string)
set_option linter.unusedVariables false
theorem own : ownKnob Try.prog.godebug = none := by kernel_rfl
theorem str_mk {H : Type} {enc : TypeId × Value → H} {P : Program} {w : World} {base : Nat} {spare : Nat → Bool} {held : Bool} {t : TypeId} {s : ByteArray} (ht : P.underlying t = some .string) (hs : s.size ≤ maxLen) : DataW.trod enc P w base spare held 1 t [.string s] = some (.lit (.string s.data.toList), []) := by
  simp [DataW.trod, ht, hs]
set_option maxRecDepth 100000 in
theorem lifted (os : Os) (started : os.Started) (H : Type) (enc : TypeId × Value → H) :
    ReturnsInHanded {} Try.checked os 11 .any (Rows.fnExactIsExtremeSpec.pre6 enc Try.prog Try.f11 Rows.fnExactIsExtremeRow.domain false) (Rows.fnExactIsExtremeSpec.post enc Try.prog Try.f11 false true false false) := by
  refine returnsInHanded_of_change_sized (C := Try.checked) own started (by kernel_rfl) Try.func11
    (ChangeSpec.witness6 (enc := enc) (C := Try.checked) false ⟨#[], #[.agg #[.int .i64 0, .string ByteArray.empty], .int .i64 0], []⟩ 8 (by kernel_rfl) (by kernel_rfl) (by kernel_rfl) (by kernel_rfl)) ?_
  intro W base args ds gs before hval0 hW hcnd hsz0 _
  have hsz : (DataW.weightsEach Try.prog (Try.f11.params.toList ++ Rows.fnExactIsExtremeSpec.plain.varTypes Try.prog) (ds ++ gs)).all (· ≤ reachBytes) = true := hsz0
  have hval : ∀ (j : Nat) t v, Try.f11.params[j]? = some t → args[j]? = some v → Value.okWide Try.prog W .any base t v := hval0
  have hW' := hW
  obtain ⟨p, q, hA0, hV, rfl, hfz, hnd⟩ := hW
  have hA : DataW.TrodAll enc Try.prog W 0 (fun _ => true) true Try.f11.params.toList args.toList ds p := hA0
  rw [Try.params11] at hA hval hsz
  obtain ⟨v0, vs0, d0, ds0, p0, q0, hargs, rfl, rfl, h0, r0⟩ := trodAll_cons hA
  obtain ⟨v1, vs1, d1, ds1, p1, q1, rfl, rfl, rfl, h1, r1⟩ := trodAll_cons r0
  obtain ⟨rfl, rfl, rfl⟩ := trodAll_nil r1
  obtain rfl : args = #[v0, v1] := by cases args; simp_all
  obtain ⟨rfl, rfl⟩ := trodVars_none hV
  obtain ⟨c0_0, c0_1, y0_0, y0_1, m0, rfl, rfl, rfl, hy0_0, hy0_1⟩ := open_agg2 Try.underlying23 (by kernel_rfl) (by kernel_rfl) (hval 0 23 v0 rfl rfl) h0
  obtain ⟨a0_0, e0_0, rfl, wa0⟩ := DataW.trod_int Try.underlying3 hy0_0
  obtain ⟨a0_1, e0_1, rfl, ws0⟩ := DataW.trod_string Try.underlying9 hy0_1
  simp only [List.cons.injEq, and_true] at e0_0 e0_1
  subst e0_0 e0_1
  obtain ⟨a1, rfl, rfl, rfl, w1⟩ := open_int Try.underlying3 (hval 1 3 v1 rfl rfl) h1
  clear hA0 hval0 hsz0 hsz
  obtain ⟨k, hP⟩ := Pure.FnExactIsExtreme a0_0 a0_1 a1 wa0 ws0 w1
  refine (PX.laws_FnExactIsExtreme.calls k a0_0 a0_1 a1 true W hP rfl).mono fun e W' ⟨he, bel⟩ => ?_
  subst he
  exact ⟨_, rfl, _, _, _, [], _, [], hW', trodAll_mk1 (shut_bool Try.underlying4 _), (trodAll_cons_mk (shut_agg2 Try.underlying23 (by kernel_rfl) (by kernel_rfl) ⟨_, trod_int_mk 0 Try.underlying3 wa0⟩ ⟨_, str_mk Try.underlying9 ws0⟩) (trodAll_cons_mk (shut_int Try.underlying3 w1) trodAll_mk0)), rfl, bel.frame _, fun h => by cases h⟩
theorem over : Rows.fnExactIsExtremeRow.holds Try.pinned (OpenSpec.ofChange Rows.fnExactIsExtremeSpec) :=
  OpenClaim.holds_of_wide 11 Try.f11 rfl rfl rfl rfl rfl rfl rfl ⟨rfl, rfl, rfl, rfl, rfl⟩ rfl rfl rfl rfl rfl (by kernel_rfl) Try.func11 (by kernel_rfl)
    (of_decide_eq_true (by kernel_rfl)) (by unfold Func.isWrapper; first | (rw [if_pos (by decide +kernel)]; kernel_rfl) | (rw [if_neg (by decide +kernel)]; exact ⟨rfl, rfl⟩))
    (fun os started H enc _ => lifted os started H enc)
theorem proved : Rows.FnExactIsExtremeSaid := over
#print axioms proved
end Go.Proofs.Ytgnghhelalablaa.fnExactIsExtreme
namespace Go.Proofs.Ytgnghhelalablaa
/-- The row, under a short name, for the claim. -/
theorem fnExactIsExtreme_holds : Rows.FnExactIsExtremeSaid := fnExactIsExtreme.proved
end Go.Proofs.Ytgnghhelalablaa
