/- FnExactEmptyTriangles returns true for all arguments and leaves them as they were. No condition. -/
import Derived.Test.YtgnghhelalablaaProg
import Derived.Test.YtgnghhelalablaaRows
import Derived.WalkKit
import Derived.ProofKit
import Derived.OpenShut
import Derived.ShutString
import Derived.ChangeOld
import Derived.Below
import Derived.SizedLaws
import Derived.Lib.SmallJoins
import Derived.ChangeSame
import Derived.Test.YtgnghhelalablaaV1
import Derived.Test.YtgnghhelalablaaBpblxux1
import Derived.Test.YtgnghhelalablaaBpblxux2
import Derived.Test.YtgnghhelalablaaBpblxux3
import Derived.Test.YtgnghhelalablaaBzkpriy1
import Derived.Test.YtgnghhelalablaaBpblxux4
set_option linter.unusedVariables false
set_option linter.unusedSimpArgs false
namespace Go.Proofs.Ytgnghhelalablaa.PX
open Go.RowKit Go.Proofs.Ytgnghhelalablaa.G Go.Proofs.YtgnghhelalablaaW.PrintWords Go.Proofs.YtgnghhelalablaaW.PrintLast Go.Proofs.YtgnghhelalablaaW.PrintMore
attribute [local go_sem] max2_int min2_int max_two min_two max_three min_three max_four min_four   -- for this text's walks alone
set_option linter.unusedVariables false
set_option linter.unusedSimpArgs false
/-! ### laws_FnExactEmptyTriangles: function 9 -/
def laws_FnExactEmptyTriangles.f (k : Nat) (a0_0 : Int) (a0_1 : ByteArray) : Option (Bool) := (laws_szSigns.f a0_0 a0_1 1048576).bind fun t476 => (if t476 < 0 then (some true) else ((laws_toSigns.f a0_0 a0_1).bind fun bt477 => ((spec_EmptyTriangles.f k bt477.1 bt477.2).bind fun t479 => ((laws_toSigns.f a0_0 a0_1).bind fun bt480 => ((impl_EmptyTriangles.f k bt480.1 bt480.2).bind fun t482 => (if t482 = t479 then (some true) else (some false)))))))
theorem laws_FnExactEmptyTriangles.mono : ∀ a0 a1 k, LeO (laws_FnExactEmptyTriangles.f k a0 a1) (laws_FnExactEmptyTriangles.f (k + 1) a0 a1) := by
 intro a0 a1 k
 unfold laws_FnExactEmptyTriangles.f
 repeat' first
   | (with_reducible exact impl_EmptyTriangles.mono _ _ _)
   | (with_reducible exact spec_EmptyTriangles.mono _ _ _)
   | (with_reducible exact LeO.refl _)
   | (with_reducible exact LeO.none _)
   | (with_reducible refine LeO.ite ?_ ?_)
   | (with_reducible refine LeO.bind ?_ (fun _ => ?_))
   | exact impl_EmptyTriangles.mono _ _ _
   | exact spec_EmptyTriangles.mono _ _ _
   | exact LeO.none _
   | refine LeO.ite ?_ ?_
   | refine LeO.bind ?_ (fun _ => ?_)
set_option maxHeartbeats 8000000 in
set_option maxRecDepth 100000 in
theorem laws_FnExactEmptyTriangles.calls (k : Nat) (a0_0 : Int) (a0_1 : ByteArray) (r : Bool) (w : World) (h : laws_FnExactEmptyTriangles.f k a0_0 a0_1 = some r) (hr_ : r = true) :
  Calls Try.prog 9 #[.agg #[.int .i64 a0_0, .string a0_1]] w fun e w' => e = .returned (.bool r) ∧ Below w.heap.size w w' := by
 have hu23 := Try.underlying23
 have HB := Aside0.mk (Below.refl w.heap.size w)
 have H : ((laws_szSigns.f a0_0 a0_1 1048576).bind fun t476 => (if t476 < 0 then (some true) else ((laws_toSigns.f a0_0 a0_1).bind fun bt477 => ((spec_EmptyTriangles.f k bt477.1 bt477.2).bind fun t479 => ((laws_toSigns.f a0_0 a0_1).bind fun bt480 => ((impl_EmptyTriangles.f k bt480.1 bt480.2).bind fun t482 => (if t482 = t479 then (some true) else (some false)))))))) = some r := h
 clear h
 replace H := Option.bind_eq_some_iff.mp H
 obtain ⟨t476, A20, H⟩ := H
 replace H : (if t476 < 0 then (some true) else ((laws_toSigns.f a0_0 a0_1).bind fun bt477 => ((spec_EmptyTriangles.f k bt477.1 bt477.2).bind fun t479 => ((laws_toSigns.f a0_0 a0_1).bind fun bt480 => ((impl_EmptyTriangles.f k bt480.1 bt480.2).bind fun t482 => (if t482 = t479 then (some true) else (some false))))))) = some r := H
 have A2 := Aside0.mk A20
 clear A20
 by_cases c3 : t476 < 0
 ·rw [if_pos c3] at H
  have c3b0 : decide (t476 < 0) = true := decide_eq_true c3
  clear c3
  obtain rfl := Option.some.inj H
  go_enter Try.func9, Try.ntmps9
  go_wp2_with (first | ((with_reducible refine gate_dst (N := 1) rfl ?_); refine box_event ?hg (N := 1) ?hd (cs := #[.int .i64 a0_0, .string a0_1]) (t := 23) ?hr ?_; (case hd => rfl); (case hg => rfl); (case hr => first | (go_simp; done) | (go_simp; rfl)); intro gb475 hg w4 hbox hb; have n0_ := Aside0.mk (below_step zB hb); have n1_ := Aside0.mk (hbox); have n2_ := Aside0.mk ((by rw [hg]; exact (below_size zB) : w.heap.size ≤ gb475)); have n3_ := Aside0.mk ((by rw [hg]; exact (below_size zB) : w.heap.size ≤ gb475)); clear HB; have HB := n0_; have BK475 := n1_; have GW475 := n2_; have GE475 := n3_; clear n0_ n1_ n2_ n3_; clear hb hbox hg; have hcz5_0 : w4.cell? ⟨gb475, 0, none⟩ = some (.int .i64 a0_0) := (blk_cell BK475.out 0).trans rfl; have hcz5_1 : w4.cell? ⟨gb475, 1, none⟩ = some (.string a0_1) := (blk_cell BK475.out 1).trans rfl; have hfz5_0 := blk_frozen BK475.out 0; have hfz5_1 := blk_frozen BK475.out 1) | ((with_reducible refine gate_callee (f := 15) rfl ?_); refine goesL_ (some 8) rfl rfl Try.func15 (by kernel_rfl) rfl #[.agg #[.int .i64 a0_0, .string a0_1], .int .i64 1048576] rfl zM ?_; (with_reducible refine (laws_szSigns.calls a0_0 a0_1 1048576 t476 _ A2.out).mono ?_); rintro e w6 ⟨rfl, hb⟩; refine ⟨_, rfl, ?_⟩; have n0_ := Aside0.mk (blk_below (g := gb475) (o := .cells #[.int .i64 a0_0, .string a0_1] 23 (0, 0)) (zK BK475.out) hb); have n1_ := Aside0.mk (below_step (zG GE475.out) hb); clear BK475; clear HB; have BK475 := n0_; have HB := n1_; clear n0_ n1_; (try clear hb); (try clear hb2); (try clear hk); (try clear hi)))
  go_ret
  exact ⟨zE, zG GE475.out⟩
 ·rw [if_neg c3] at H
  have c3b0 : decide (t476 < 0) = false := decide_eq_false c3
  clear c3
  replace H := Option.bind_eq_some_iff.mp H
  obtain ⟨⟨t477, t478⟩, A70, H⟩ := H
  replace H : ((spec_EmptyTriangles.f k t477 t478).bind fun t479 => ((laws_toSigns.f a0_0 a0_1).bind fun bt480 => ((impl_EmptyTriangles.f k bt480.1 bt480.2).bind fun t482 => (if t482 = t479 then (some true) else (some false))))) = some r := H
  have A7 := Aside0.mk A70
  clear A70
  replace H := Option.bind_eq_some_iff.mp H
  obtain ⟨t479, A80, H⟩ := H
  replace H : ((laws_toSigns.f a0_0 a0_1).bind fun bt480 => ((impl_EmptyTriangles.f k bt480.1 bt480.2).bind fun t482 => (if t482 = t479 then (some true) else (some false)))) = some r := H
  have A8 := Aside0.mk A80
  clear A80
  replace H := Option.bind_eq_some_iff.mp H
  obtain ⟨⟨t480, t481⟩, A90, H⟩ := H
  replace H : ((impl_EmptyTriangles.f k t480 t481).bind fun t482 => (if t482 = t479 then (some true) else (some false))) = some r := H
  have A9 := Aside0.mk A90
  clear A90
  replace H := Option.bind_eq_some_iff.mp H
  obtain ⟨t482, A100, H⟩ := H
  replace H : (if t482 = t479 then (some true) else (some false)) = some r := H
  have A10 := Aside0.mk A100
  clear A100
  by_cases c11 : t482 = t479
  ·rw [if_pos c11] at H
   have c11b0 : (t482 == t479) = true := beq_iff_eq.mpr c11
   have c11b1 : (t482 != t479) = false := bne_eq_false_iff_eq.mpr c11
   clear c11
   obtain rfl := Option.some.inj H
   go_enter Try.func9, Try.ntmps9
   go_wp2_with (first | ((with_reducible refine gate_dst (N := 1) rfl ?_); refine box_event ?hg (N := 1) ?hd (cs := #[.int .i64 a0_0, .string a0_1]) (t := 23) ?hr ?_; (case hd => rfl); (case hg => rfl); (case hr => first | (go_simp; done) | (go_simp; rfl)); intro gb475 hg w12 hbox hb; have n0_ := Aside0.mk (below_step zB hb); have n1_ := Aside0.mk (hbox); have n2_ := Aside0.mk ((by rw [hg]; exact (below_size zB) : w.heap.size ≤ gb475)); have n3_ := Aside0.mk ((by rw [hg]; exact (below_size zB) : w.heap.size ≤ gb475)); clear HB; have HB := n0_; have BK475 := n1_; have GW475 := n2_; have GE475 := n3_; clear n0_ n1_ n2_ n3_; clear hb hbox hg; have hcz13_0 : w12.cell? ⟨gb475, 0, none⟩ = some (.int .i64 a0_0) := (blk_cell BK475.out 0).trans rfl; have hcz13_1 : w12.cell? ⟨gb475, 1, none⟩ = some (.string a0_1) := (blk_cell BK475.out 1).trans rfl; have hfz13_0 := blk_frozen BK475.out 0; have hfz13_1 := blk_frozen BK475.out 1) | ((with_reducible refine gate_callee (f := 15) rfl ?_); refine goesL_ (some 8) rfl rfl Try.func15 (by kernel_rfl) rfl #[.agg #[.int .i64 a0_0, .string a0_1], .int .i64 1048576] rfl zM ?_; (with_reducible refine (laws_szSigns.calls a0_0 a0_1 1048576 t476 _ A2.out).mono ?_); rintro e w14 ⟨rfl, hb⟩; refine ⟨_, rfl, ?_⟩; have n0_ := Aside0.mk (blk_below (g := gb475) (o := .cells #[.int .i64 a0_0, .string a0_1] 23 (0, 0)) (zK BK475.out) hb); have n1_ := Aside0.mk (below_step (zG GE475.out) hb); clear BK475; clear HB; have BK475 := n0_; have HB := n1_; clear n0_ n1_; (try clear hb); (try clear hb2); (try clear hk); (try clear hi); have hcz15_0 : w14.cell? ⟨gb475, 0, none⟩ = some (.int .i64 a0_0) := (blk_cell BK475.out 0).trans rfl; have hcz15_1 : w14.cell? ⟨gb475, 1, none⟩ = some (.string a0_1) := (blk_cell BK475.out 1).trans rfl; have hfz15_0 := blk_frozen BK475.out 0; have hfz15_1 := blk_frozen BK475.out 1) | ((with_reducible refine gate_callee (f := 17) rfl ?_); refine goesL_ (some 12) rfl rfl Try.func17 (by kernel_rfl) rfl #[.agg #[.int .i64 a0_0, .string a0_1]] rfl zM ?_; (with_reducible refine (laws_toSigns.calls a0_0 a0_1 t477 t478 _ A7.out).mono ?_); rintro e w16 ⟨rfl, hb⟩; refine ⟨_, rfl, ?_⟩; have n0_ := Aside0.mk (blk_below (g := gb475) (o := .cells #[.int .i64 a0_0, .string a0_1] 23 (0, 0)) (zK BK475.out) hb); have n1_ := Aside0.mk (below_step (zG GE475.out) hb); clear BK475; clear HB; have BK475 := n0_; have HB := n1_; clear n0_ n1_; (try clear hb); (try clear hb2); (try clear hk); (try clear hi)) | ((with_reducible refine gate_callee (f := 32) rfl ?_); refine goesL_ (some 13) rfl rfl Try.func32 (by kernel_rfl) rfl #[.agg #[.int .i64 t477, .string t478]] rfl zM ?_; (with_reducible refine (spec_EmptyTriangles.calls k t477 t478 t479 _ A8.out).mono ?_); rintro e w17 ⟨rfl, hb⟩; refine ⟨_, rfl, ?_⟩; have n0_ := Aside0.mk (blk_below (g := gb475) (o := .cells #[.int .i64 a0_0, .string a0_1] 23 (0, 0)) (zK BK475.out) hb); have n1_ := Aside0.mk (below_step (zG GE475.out) hb); clear BK475; clear HB; have BK475 := n0_; have HB := n1_; clear n0_ n1_; (try clear hb); (try clear hb2); (try clear hk); (try clear hi); have hcz18_0 : w17.cell? ⟨gb475, 0, none⟩ = some (.int .i64 a0_0) := (blk_cell BK475.out 0).trans rfl; have hcz18_1 : w17.cell? ⟨gb475, 1, none⟩ = some (.string a0_1) := (blk_cell BK475.out 1).trans rfl; have hfz18_0 := blk_frozen BK475.out 0; have hfz18_1 := blk_frozen BK475.out 1) | ((with_reducible refine gate_callee (f := 17) rfl ?_); refine goesL_ (some 15) rfl rfl Try.func17 (by kernel_rfl) rfl #[.agg #[.int .i64 a0_0, .string a0_1]] rfl zM ?_; (with_reducible refine (laws_toSigns.calls a0_0 a0_1 t480 t481 _ A9.out).mono ?_); rintro e w19 ⟨rfl, hb⟩; refine ⟨_, rfl, ?_⟩; have n0_ := Aside0.mk (blk_below (g := gb475) (o := .cells #[.int .i64 a0_0, .string a0_1] 23 (0, 0)) (zK BK475.out) hb); have n1_ := Aside0.mk (below_step (zG GE475.out) hb); clear BK475; clear HB; have BK475 := n0_; have HB := n1_; clear n0_ n1_; (try clear hb); (try clear hb2); (try clear hk); (try clear hi)) | ((with_reducible refine gate_callee (f := 33) rfl ?_); refine goesL_ (some 16) rfl rfl Try.func33 (by kernel_rfl) rfl #[.agg #[.int .i64 t480, .string t481]] rfl zM ?_; (with_reducible refine (impl_EmptyTriangles.calls k t480 t481 t482 _ A10.out).mono ?_); rintro e w20 ⟨rfl, hb⟩; refine ⟨_, rfl, ?_⟩; have n0_ := Aside0.mk (blk_below (g := gb475) (o := .cells #[.int .i64 a0_0, .string a0_1] 23 (0, 0)) (zK BK475.out) hb); have n1_ := Aside0.mk (below_step (zG GE475.out) hb); clear BK475; clear HB; have BK475 := n0_; have HB := n1_; clear n0_ n1_; (try clear hb); (try clear hb2); (try clear hk); (try clear hi)))
   go_ret
   exact ⟨zE, zG GE475.out⟩
  ·rw [if_neg c11] at H
   have c11b0 : (t482 == t479) = false := beq_eq_false_iff_ne.mpr c11
   have c11b1 : (t482 != t479) = true := bne_iff_ne.mpr c11
   obtain rfl := Option.some.inj H
   cases hr_
end Go.Proofs.Ytgnghhelalablaa.PX
namespace Go.Proofs.Ytgnghhelalablaa.Pure
open Go.RowKit Go.Proofs.YtgnghhelalablaaW.PrintWords Go.Proofs.Ytgnghhelalablaa.PX Go.Proofs.Ytgnghhelalablaa.M
theorem FnExactEmptyTriangles (n : Int) (t : ByteArray) (_ : (Lit.int .i64 n).wf = true) (hs : t.size ≤ 9223372036854775807) :
    ∃ k, laws_FnExactEmptyTriangles.f k n t = some true := by
  refine Ev.rounds (r := true) ?_
  unfold laws_FnExactEmptyTriangles.f
  obtain ⟨r, hr⟩ := sz_signs n t
  refine ev_call hr ?_
  by_cases h : r < 0
  · exact ev_pos h (Ev.now _)
  · exact ev_neg h (ev_call (a := (n, t)) rfl (Ev.bind (spec_empt n t hs) (ev_call (a := (n, t)) rfl (Ev.bind (impl_empt n t hs) (ev_pos rfl (Ev.now _))))))
end Go.Proofs.Ytgnghhelalablaa.Pure
namespace Go.Proofs.Ytgnghhelalablaa.fnExactEmptyTriangles
open Go.ChangeShapes Go.WideShapes Go.ChangeAt Go.RowKit Go.Joins
open Go.ChangeMaps (open_string shut_string)
set_option linter.unusedVariables false
theorem own : ownKnob Try.prog.godebug = none := by kernel_rfl
theorem str_mk {H : Type} {enc : TypeId × Value → H} {P : Program} {w : World} {base : Nat} {spare : Nat → Bool} {held : Bool} {t : TypeId} {s : ByteArray} (ht : P.underlying t = some .string) (hs : s.size ≤ maxLen) : DataW.trod enc P w base spare held 1 t [.string s] = some (.lit (.string s.data.toList), []) := by
  simp [DataW.trod, ht, hs]
set_option maxRecDepth 100000 in
theorem lifted (os : Os) (started : os.Started) (H : Type) (enc : TypeId × Value → H) :
    ReturnsInHanded {} Try.checked os 9 .any (Rows.fnExactEmptyTrianglesSpec.pre6 enc Try.prog Try.f9 Rows.fnExactEmptyTrianglesRow.domain false) (Rows.fnExactEmptyTrianglesSpec.post enc Try.prog Try.f9 false true false false) := by
  refine returnsInHanded_of_change_sized (C := Try.checked) own started (by kernel_rfl) Try.func9
    (ChangeSpec.witness6 (enc := enc) (C := Try.checked) false ⟨#[], #[.agg #[.int .i64 0, .string ByteArray.empty]], []⟩ 8 (by kernel_rfl) (by kernel_rfl) (by kernel_rfl) (by kernel_rfl)) ?_
  intro W base args ds gs before hval0 hW hcnd hsz0 _
  have hsz : (DataW.weightsEach Try.prog (Try.f9.params.toList ++ Rows.fnExactEmptyTrianglesSpec.plain.varTypes Try.prog) (ds ++ gs)).all (· ≤ reachBytes) = true := hsz0
  have hval : ∀ (j : Nat) t v, Try.f9.params[j]? = some t → args[j]? = some v → Value.okWide Try.prog W .any base t v := hval0
  have hW' := hW
  obtain ⟨p, q, hA0, hV, rfl, hfz, hnd⟩ := hW
  have hA : DataW.TrodAll enc Try.prog W 0 (fun _ => true) true Try.f9.params.toList args.toList ds p := hA0
  rw [Try.params9] at hA hval hsz
  obtain ⟨v0, vs0, d0, ds0, p0, q0, hargs, rfl, rfl, h0, r0⟩ := trodAll_cons hA
  obtain ⟨rfl, rfl, rfl⟩ := trodAll_nil r0
  obtain rfl : args = #[v0] := by cases args; simp_all
  obtain ⟨rfl, rfl⟩ := trodVars_none hV
  obtain ⟨c0_0, c0_1, y0_0, y0_1, m0, rfl, rfl, rfl, hy0_0, hy0_1⟩ := open_agg2 Try.underlying23 (by kernel_rfl) (by kernel_rfl) (hval 0 23 v0 rfl rfl) h0
  obtain ⟨a0_0, e0_0, rfl, wa0⟩ := DataW.trod_int Try.underlying3 hy0_0
  obtain ⟨a0_1, e0_1, rfl, ws0⟩ := DataW.trod_string Try.underlying9 hy0_1
  simp only [List.cons.injEq, and_true] at e0_0 e0_1
  subst e0_0 e0_1
  clear hA0 hval0 hsz0 hsz
  obtain ⟨k, hP⟩ := Pure.FnExactEmptyTriangles a0_0 a0_1 wa0 ws0
  refine (PX.laws_FnExactEmptyTriangles.calls k a0_0 a0_1 true W hP rfl).mono fun e W' ⟨he, bel⟩ => ?_
  subst he
  exact ⟨_, rfl, _, _, _, [], _, [], hW', trodAll_mk1 (shut_bool Try.underlying4 _), (trodAll_cons_mk (shut_agg2 Try.underlying23 (by kernel_rfl) (by kernel_rfl) ⟨_, trod_int_mk 0 Try.underlying3 wa0⟩ ⟨_, str_mk Try.underlying9 ws0⟩) trodAll_mk0), rfl, bel.frame _, fun h => by cases h⟩
theorem over : Rows.fnExactEmptyTrianglesRow.holds Try.pinned (OpenSpec.ofChange Rows.fnExactEmptyTrianglesSpec) :=
  OpenClaim.holds_of_wide 9 Try.f9 rfl rfl rfl rfl rfl rfl rfl ⟨rfl, rfl, rfl, rfl, rfl⟩ rfl rfl rfl rfl rfl (by kernel_rfl) Try.func9 (by kernel_rfl)
    (of_decide_eq_true (by kernel_rfl)) (by unfold Func.isWrapper; first | (rw [if_pos (by decide +kernel)]; kernel_rfl) | (rw [if_neg (by decide +kernel)]; exact ⟨rfl, rfl⟩))
    (fun os started H enc _ => lifted os started H enc)
theorem proved : Rows.FnExactEmptyTrianglesSaid := over
#print axioms proved
end Go.Proofs.Ytgnghhelalablaa.fnExactEmptyTriangles
namespace Go.Proofs.Ytgnghhelalablaa
/-- The row, under a short name, for the claim. -/
theorem fnExactEmptyTriangles_holds : Rows.FnExactEmptyTrianglesSaid := fnExactEmptyTriangles.proved
end Go.Proofs.Ytgnghhelalablaa
