/- FnExactHullSize returns true for all arguments and leaves them as they were. No condition. -/
import Derived.Test.YtgnghhelalablaaProg
import Derived.Test.YtgnghhelalablaaRows
import Derived.WalkKit
import Derived.ProofKit
import Derived.OpenShut
import Derived.ShutString
import Derived.ChangeOld
import Derived.Below
import Derived.SizedLaws
import Derived.Lib.SmallJoins
import Derived.ChangeSame
import Derived.Test.YtgnghhelalablaaV1
import Derived.Test.YtgnghhelalablaaBbxvvbi1
import Derived.Test.YtgnghhelalablaaBbxvvbi2
import Derived.Test.YtgnghhelalablaaBdjgadd1
import Derived.Test.YtgnghhelalablaaBbxvvbi4
set_option linter.unusedVariables false
set_option linter.unusedSimpArgs false
namespace Go.Proofs.Ytgnghhelalablaa.PX
open Go.RowKit Go.Proofs.Ytgnghhelalablaa.G Go.Proofs.YtgnghhelalablaaW.PrintWords Go.Proofs.YtgnghhelalablaaW.PrintLast Go.Proofs.YtgnghhelalablaaW.PrintMore
attribute [local go_sem] max2_int min2_int max_two min_two max_three min_three max_four min_four   -- for this text's walks alone
set_option linter.unusedVariables false
set_option linter.unusedSimpArgs false
/-! ### laws_FnExactHullSize: function 12 -/
def laws_FnExactHullSize.f (k : Nat) (a0_0 : Int) (a0_1 : ByteArray) : Option (Bool) := (laws_szSigns.f a0_0 a0_1 1048576).bind fun t569 => (if t569 < 0 then (some true) else ((laws_toSigns.f a0_0 a0_1).bind fun bt570 => ((spec_HullSize.f k bt570.1 bt570.2).bind fun t572 => ((laws_toSigns.f a0_0 a0_1).bind fun bt573 => ((impl_HullSize.f k bt573.1 bt573.2).bind fun t575 => (if t575 = t572 then (some true) else (some false)))))))
theorem laws_FnExactHullSize.mono : ∀ a0 a1 k, LeO (laws_FnExactHullSize.f k a0 a1) (laws_FnExactHullSize.f (k + 1) a0 a1) := by
 intro a0 a1 k
 unfold laws_FnExactHullSize.f
 repeat' first
   | (with_reducible exact impl_HullSize.mono _ _ _)
   | (with_reducible exact spec_HullSize.mono _ _ _)
   | (with_reducible exact LeO.refl _)
   | (with_reducible exact LeO.none _)
   | (with_reducible refine LeO.ite ?_ ?_)
   | (with_reducible refine LeO.bind ?_ (fun _ => ?_))
   | exact impl_HullSize.mono _ _ _
   | exact spec_HullSize.mono _ _ _
   | exact LeO.none _
   | refine LeO.ite ?_ ?_
   | refine LeO.bind ?_ (fun _ => ?_)
set_option maxHeartbeats 8000000 in
set_option maxRecDepth 100000 in
theorem laws_FnExactHullSize.calls (k : Nat) (a0_0 : Int) (a0_1 : ByteArray) (r : Bool) (w : World) (h : laws_FnExactHullSize.f k a0_0 a0_1 = some r) (hr_ : r = true) :
  Calls Try.prog 12 #[.agg #[.int .i64 a0_0, .string a0_1]] w fun e w' => e = .returned (.bool r) ∧ Below w.heap.size w w' := by
 have hu23 := Try.underlying23
 have HB := Aside0.mk (Below.refl w.heap.size w)
 have H : ((laws_szSigns.f a0_0 a0_1 1048576).bind fun t569 => (if t569 < 0 then (some true) else ((laws_toSigns.f a0_0 a0_1).bind fun bt570 => ((spec_HullSize.f k bt570.1 bt570.2).bind fun t572 => ((laws_toSigns.f a0_0 a0_1).bind fun bt573 => ((impl_HullSize.f k bt573.1 bt573.2).bind fun t575 => (if t575 = t572 then (some true) else (some false)))))))) = some r := h
 clear h
 replace H := Option.bind_eq_some_iff.mp H
 obtain ⟨t569, A20, H⟩ := H
 replace H : (if t569 < 0 then (some true) else ((laws_toSigns.f a0_0 a0_1).bind fun bt570 => ((spec_HullSize.f k bt570.1 bt570.2).bind fun t572 => ((laws_toSigns.f a0_0 a0_1).bind fun bt573 => ((impl_HullSize.f k bt573.1 bt573.2).bind fun t575 => (if t575 = t572 then (some true) else (some false))))))) = some r := H
 have A2 := Aside0.mk A20
 clear A20
 by_cases c3 : t569 < 0
 ·rw [if_pos c3] at H
  have c3b0 : decide (t569 < 0) = true := decide_eq_true c3
  clear c3
  obtain rfl := Option.some.inj H
  go_enter Try.func12, Try.ntmps12
  go_wp2_with (first | ((with_reducible refine gate_dst (N := 1) rfl ?_); refine box_event ?hg (N := 1) ?hd (cs := #[.int .i64 a0_0, .string a0_1]) (t := 23) ?hr ?_; (case hd => rfl); (case hg => rfl); (case hr => first | (go_simp; done) | (go_simp; rfl)); intro gb568 hg w4 hbox hb; have BK568 := Aside0.mk (hbox); have GW568 := Aside0.mk ((by rw [hg]; exact (below_size zB) : w.heap.size ≤ gb568)); have GE568 := Aside0.mk ((by rw [hg]; exact (below_size zB) : w.heap.size ≤ gb568)); replace HB := Aside0.mk (below_step zB hb); clear hb hbox hg; have hcz5_0 : w4.cell? ⟨gb568, 0, none⟩ = some (.int .i64 a0_0) := (blk_cell BK568.out 0).trans rfl; have hcz5_1 : w4.cell? ⟨gb568, 1, none⟩ = some (.string a0_1) := (blk_cell BK568.out 1).trans rfl; have hfz5_0 := blk_frozen BK568.out 0; have hfz5_1 := blk_frozen BK568.out 1) | ((with_reducible refine gate_callee (f := 15) rfl ?_); refine goesL_ (some 8) rfl rfl Try.func15 (by kernel_rfl) rfl #[.agg #[.int .i64 a0_0, .string a0_1], .int .i64 1048576] rfl zM ?_; (with_reducible refine (laws_szSigns.calls a0_0 a0_1 1048576 t569 _ A2.out).mono ?_); rintro e w6 ⟨rfl, hb⟩; refine ⟨_, rfl, ?_⟩; replace BK568 := Aside0.mk (blk_below (g := gb568) (o := .cells #[.int .i64 a0_0, .string a0_1] 23 (0, 0)) (zK BK568.out) hb); replace HB := Aside0.mk (below_step (zG GE568.out) hb); (try clear hb)))
  go_ret
  exact ⟨zE, zG GE568.out⟩
 ·rw [if_neg c3] at H
  have c3b0 : decide (t569 < 0) = false := decide_eq_false c3
  clear c3
  replace H := Option.bind_eq_some_iff.mp H
  obtain ⟨⟨t570, t571⟩, A70, H⟩ := H
  replace H : ((spec_HullSize.f k t570 t571).bind fun t572 => ((laws_toSigns.f a0_0 a0_1).bind fun bt573 => ((impl_HullSize.f k bt573.1 bt573.2).bind fun t575 => (if t575 = t572 then (some true) else (some false))))) = some r := H
  have A7 := Aside0.mk A70
  clear A70
  replace H := Option.bind_eq_some_iff.mp H
  obtain ⟨t572, A80, H⟩ := H
  replace H : ((laws_toSigns.f a0_0 a0_1).bind fun bt573 => ((impl_HullSize.f k bt573.1 bt573.2).bind fun t575 => (if t575 = t572 then (some true) else (some false)))) = some r := H
  have A8 := Aside0.mk A80
  clear A80
  replace H := Option.bind_eq_some_iff.mp H
  obtain ⟨⟨t573, t574⟩, A90, H⟩ := H
  replace H : ((impl_HullSize.f k t573 t574).bind fun t575 => (if t575 = t572 then (some true) else (some false))) = some r := H
  have A9 := Aside0.mk A90
  clear A90
  replace H := Option.bind_eq_some_iff.mp H
  obtain ⟨t575, A100, H⟩ := H
  replace H : (if t575 = t572 then (some true) else (some false)) = some r := H
  have A10 := Aside0.mk A100
  clear A100
  by_cases c11 : t575 = t572
  ·rw [if_pos c11] at H
   have c11b0 : (t575 == t572) = true := beq_iff_eq.mpr c11
   have c11b1 : (t575 != t572) = false := bne_eq_false_iff_eq.mpr c11
   clear c11
   obtain rfl := Option.some.inj H
   go_enter Try.func12, Try.ntmps12
   go_wp2_with (first | ((with_reducible refine gate_dst (N := 1) rfl ?_); refine box_event ?hg (N := 1) ?hd (cs := #[.int .i64 a0_0, .string a0_1]) (t := 23) ?hr ?_; (case hd => rfl); (case hg => rfl); (case hr => first | (go_simp; done) | (go_simp; rfl)); intro gb568 hg w12 hbox hb; have BK568 := Aside0.mk (hbox); have GW568 := Aside0.mk ((by rw [hg]; exact (below_size zB) : w.heap.size ≤ gb568)); have GE568 := Aside0.mk ((by rw [hg]; exact (below_size zB) : w.heap.size ≤ gb568)); replace HB := Aside0.mk (below_step zB hb); clear hb hbox hg; have hcz13_0 : w12.cell? ⟨gb568, 0, none⟩ = some (.int .i64 a0_0) := (blk_cell BK568.out 0).trans rfl; have hcz13_1 : w12.cell? ⟨gb568, 1, none⟩ = some (.string a0_1) := (blk_cell BK568.out 1).trans rfl; have hfz13_0 := blk_frozen BK568.out 0; have hfz13_1 := blk_frozen BK568.out 1) | ((with_reducible refine gate_callee (f := 15) rfl ?_); refine goesL_ (some 8) rfl rfl Try.func15 (by kernel_rfl) rfl #[.agg #[.int .i64 a0_0, .string a0_1], .int .i64 1048576] rfl zM ?_; (with_reducible refine (laws_szSigns.calls a0_0 a0_1 1048576 t569 _ A2.out).mono ?_); rintro e w14 ⟨rfl, hb⟩; refine ⟨_, rfl, ?_⟩; replace BK568 := Aside0.mk (blk_below (g := gb568) (o := .cells #[.int .i64 a0_0, .string a0_1] 23 (0, 0)) (zK BK568.out) hb); replace HB := Aside0.mk (below_step (zG GE568.out) hb); (try clear hb); have hcz15_0 : w14.cell? ⟨gb568, 0, none⟩ = some (.int .i64 a0_0) := (blk_cell BK568.out 0).trans rfl; have hcz15_1 : w14.cell? ⟨gb568, 1, none⟩ = some (.string a0_1) := (blk_cell BK568.out 1).trans rfl; have hfz15_0 := blk_frozen BK568.out 0; have hfz15_1 := blk_frozen BK568.out 1) | ((with_reducible refine gate_callee (f := 17) rfl ?_); refine goesL_ (some 12) rfl rfl Try.func17 (by kernel_rfl) rfl #[.agg #[.int .i64 a0_0, .string a0_1]] rfl zM ?_; (with_reducible refine (laws_toSigns.calls a0_0 a0_1 t570 t571 _ A7.out).mono ?_); rintro e w16 ⟨rfl, hb⟩; refine ⟨_, rfl, ?_⟩; replace BK568 := Aside0.mk (blk_below (g := gb568) (o := .cells #[.int .i64 a0_0, .string a0_1] 23 (0, 0)) (zK BK568.out) hb); replace HB := Aside0.mk (below_step (zG GE568.out) hb); (try clear hb)) | ((with_reducible refine gate_callee (f := 38) rfl ?_); refine goesL_ (some 13) rfl rfl Try.func38 (by kernel_rfl) rfl #[.agg #[.int .i64 t570, .string t571]] rfl zM ?_; (with_reducible refine (spec_HullSize.calls k t570 t571 t572 _ A8.out).mono ?_); rintro e w17 ⟨rfl, hb⟩; refine ⟨_, rfl, ?_⟩; replace BK568 := Aside0.mk (blk_below (g := gb568) (o := .cells #[.int .i64 a0_0, .string a0_1] 23 (0, 0)) (zK BK568.out) hb); replace HB := Aside0.mk (below_step (zG GE568.out) hb); (try clear hb); have hcz18_0 : w17.cell? ⟨gb568, 0, none⟩ = some (.int .i64 a0_0) := (blk_cell BK568.out 0).trans rfl; have hcz18_1 : w17.cell? ⟨gb568, 1, none⟩ = some (.string a0_1) := (blk_cell BK568.out 1).trans rfl; have hfz18_0 := blk_frozen BK568.out 0; have hfz18_1 := blk_frozen BK568.out 1) | ((with_reducible refine gate_callee (f := 17) rfl ?_); refine goesL_ (some 15) rfl rfl Try.func17 (by kernel_rfl) rfl #[.agg #[.int .i64 a0_0, .string a0_1]] rfl zM ?_; (with_reducible refine (laws_toSigns.calls a0_0 a0_1 t573 t574 _ A9.out).mono ?_); rintro e w19 ⟨rfl, hb⟩; refine ⟨_, rfl, ?_⟩; replace BK568 := Aside0.mk (blk_below (g := gb568) (o := .cells #[.int .i64 a0_0, .string a0_1] 23 (0, 0)) (zK BK568.out) hb); replace HB := Aside0.mk (below_step (zG GE568.out) hb); (try clear hb)) | ((with_reducible refine gate_callee (f := 39) rfl ?_); refine goesL_ (some 16) rfl rfl Try.func39 (by kernel_rfl) rfl #[.agg #[.int .i64 t573, .string t574]] rfl zM ?_; (with_reducible refine (impl_HullSize.calls k t573 t574 t575 _ A10.out).mono ?_); rintro e w20 ⟨rfl, hb⟩; refine ⟨_, rfl, ?_⟩; replace BK568 := Aside0.mk (blk_below (g := gb568) (o := .cells #[.int .i64 a0_0, .string a0_1] 23 (0, 0)) (zK BK568.out) hb); replace HB := Aside0.mk (below_step (zG GE568.out) hb); (try clear hb)))
   go_ret
   exact ⟨zE, zG GE568.out⟩
  ·rw [if_neg c11] at H
   have c11b0 : (t575 == t572) = false := beq_eq_false_iff_ne.mpr c11
   have c11b1 : (t575 != t572) = true := bne_iff_ne.mpr c11
   obtain rfl := Option.some.inj H
   cases hr_
end Go.Proofs.Ytgnghhelalablaa.PX
namespace Go.Proofs.Ytgnghhelalablaa.Pure
open Go.RowKit Go.Proofs.YtgnghhelalablaaW.PrintWords Go.Proofs.Ytgnghhelalablaa.PX Go.Proofs.Ytgnghhelalablaa.M
theorem FnExactHullSize (n : Int) (t : ByteArray) (_ : (Lit.int .i64 n).wf = true) (hs : t.size ≤ 9223372036854775807) :
    ∃ k, laws_FnExactHullSize.f k n t = some true := by
  refine Ev.rounds (r := true) ?_
  unfold laws_FnExactHullSize.f
  obtain ⟨r, hr⟩ := sz_signs n t
  refine ev_call hr ?_
  by_cases h : r < 0
  · exact ev_pos h (Ev.now _)
  · exact ev_neg h (ev_call (a := (n, t)) rfl (Ev.bind (spec_hullSize n t hs) (ev_call (a := (n, t)) rfl (Ev.bind (impl_hullSize n t hs) (ev_pos rfl (Ev.now _))))))
end Go.Proofs.Ytgnghhelalablaa.Pure
namespace Go.Proofs.Ytgnghhelalablaa.fnExactHullSize
open Go.ChangeShapes Go.WideShapes Go.ChangeAt Go.RowKit Go.Joins
open Go.ChangeMaps (open_string shut_string)
set_option linter.unusedVariables false
theorem own : ownKnob Try.prog.godebug = none := by kernel_rfl
theorem str_mk {H : Type} {enc : TypeId × Value → H} {P : Program} {w : World} {base : Nat} {spare : Nat → Bool} {held : Bool} {t : TypeId} {s : ByteArray} (ht : P.underlying t = some .string) (hs : s.size ≤ maxLen) : DataW.trod enc P w base spare held 1 t [.string s] = some (.lit (.string s.data.toList), []) := by
  simp [DataW.trod, ht, hs]
set_option maxRecDepth 100000 in
theorem lifted (os : Os) (started : os.Started) (H : Type) (enc : TypeId × Value → H) :
    ReturnsInHanded {} Try.checked os 12 .any (Rows.fnExactHullSizeSpec.pre6 enc Try.prog Try.f12 Rows.fnExactHullSizeRow.domain false) (Rows.fnExactHullSizeSpec.post enc Try.prog Try.f12 false true false false) := by
  refine returnsInHanded_of_change_sized (C := Try.checked) own started (by kernel_rfl) Try.func12
    (ChangeSpec.witness6 (enc := enc) (C := Try.checked) false ⟨#[], #[.agg #[.int .i64 0, .string ByteArray.empty]], []⟩ 8 (by kernel_rfl) (by kernel_rfl) (by kernel_rfl) (by kernel_rfl)) ?_
  intro W base args ds gs before hval0 hW hcnd hsz0 _
  have hsz : (DataW.weightsEach Try.prog (Try.f12.params.toList ++ Rows.fnExactHullSizeSpec.plain.varTypes Try.prog) (ds ++ gs)).all (· ≤ reachBytes) = true := hsz0
  have hval : ∀ (j : Nat) t v, Try.f12.params[j]? = some t → args[j]? = some v → Value.okWide Try.prog W .any base t v := hval0
  have hW' := hW
  obtain ⟨p, q, hA0, hV, rfl, hfz, hnd⟩ := hW
  have hA : DataW.TrodAll enc Try.prog W 0 (fun _ => true) true Try.f12.params.toList args.toList ds p := hA0
  rw [Try.params12] at hA hval hsz
  obtain ⟨v0, vs0, d0, ds0, p0, q0, hargs, rfl, rfl, h0, r0⟩ := trodAll_cons hA
  obtain ⟨rfl, rfl, rfl⟩ := trodAll_nil r0
  obtain rfl : args = #[v0] := by cases args; simp_all
  obtain ⟨rfl, rfl⟩ := trodVars_none hV
  obtain ⟨c0_0, c0_1, y0_0, y0_1, m0, rfl, rfl, rfl, hy0_0, hy0_1⟩ := open_agg2 Try.underlying23 (by kernel_rfl) (by kernel_rfl) (hval 0 23 v0 rfl rfl) h0
  obtain ⟨a0_0, e0_0, rfl, wa0⟩ := DataW.trod_int Try.underlying3 hy0_0
  obtain ⟨a0_1, e0_1, rfl, ws0⟩ := DataW.trod_string Try.underlying9 hy0_1
  simp only [List.cons.injEq, and_true] at e0_0 e0_1
  subst e0_0 e0_1
  clear hA0 hval0 hsz0 hsz
  obtain ⟨k, hP⟩ := Pure.FnExactHullSize a0_0 a0_1 wa0 ws0
  refine (PX.laws_FnExactHullSize.calls k a0_0 a0_1 true W hP rfl).mono fun e W' ⟨he, bel⟩ => ?_
  subst he
  exact ⟨_, rfl, _, _, _, [], _, [], hW', trodAll_mk1 (shut_bool Try.underlying4 _), (trodAll_cons_mk (shut_agg2 Try.underlying23 (by kernel_rfl) (by kernel_rfl) ⟨_, trod_int_mk 0 Try.underlying3 wa0⟩ ⟨_, str_mk Try.underlying9 ws0⟩) trodAll_mk0), rfl, bel.frame _, fun h => by cases h⟩
theorem over : Rows.fnExactHullSizeRow.holds Try.pinned (OpenSpec.ofChange Rows.fnExactHullSizeSpec) :=
  OpenClaim.holds_of_wide 12 Try.f12 rfl rfl rfl rfl rfl rfl rfl ⟨rfl, rfl, rfl, rfl, rfl⟩ rfl rfl rfl rfl rfl (by kernel_rfl) Try.func12 (by kernel_rfl)
    (of_decide_eq_true (by kernel_rfl)) (by unfold Func.isWrapper; first | (rw [if_pos (by decide +kernel)]; kernel_rfl) | (rw [if_neg (by decide +kernel)]; exact ⟨rfl, rfl⟩))
    (fun os started H enc _ => lifted os started H enc)
theorem proved : Rows.FnExactHullSizeSaid := over
#print axioms proved
end Go.Proofs.Ytgnghhelalablaa.fnExactHullSize
namespace Go.Proofs.Ytgnghhelalablaa
/-- The row, under a short name, for the claim. -/
theorem fnExactHullSize_holds : Rows.FnExactHullSizeSaid := fnExactHullSize.proved
end Go.Proofs.Ytgnghhelalablaa
