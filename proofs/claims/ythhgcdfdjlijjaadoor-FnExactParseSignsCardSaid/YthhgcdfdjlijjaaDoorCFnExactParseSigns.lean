/- FnExactParseSigns returns true for all arguments and leaves them as they were. No condition. -/
import Derived.Test.YthhgcdfdjlijjaaDoorProg
import Derived.Test.YthhgcdfdjlijjaaDoorRows
import Derived.Test.YthhgcdfdjlijjaaDoorTie
import Derived.Test.YthhgcdfdjlijjaaDoorCards
import Derived.SevenTiedAt
import Derived.WalkKit
import Derived.ProofKit
import Derived.OpenShut
import Derived.ShutString
import Derived.ChangeOld
import Derived.Below
import Derived.SizedLaws
import Derived.Lib.SmallJoins
import Derived.ChangeSame
import Derived.Test.YthhgcdfdjlijjaaDoorV1
import Derived.Test.YthhgcdfdjlijjaaDoorBiuhxfu1
set_option linter.unusedVariables false
set_option linter.unusedSimpArgs false
namespace Go.Proofs.YthhgcdfdjlijjaaDoor.PX
open Go.RowKit Go.Proofs.YthhgcdfdjlijjaaDoor.G Go.Proofs.YthhgcdfdjlijjaaDoorW.PrintWords Go.Proofs.YthhgcdfdjlijjaaDoorW.PrintLast Go.Proofs.YthhgcdfdjlijjaaDoorW.PrintMore
attribute [local go_sem] max2_int min2_int max_two min_two max_three min_three max_four min_four   -- for this text's walks alone
set_option linter.unusedVariables false
set_option linter.unusedSimpArgs false
/-! ### laws_eqSigns: function 31 -/
def laws_eqSigns.f (a0_0 : Int) (a0_1 : ByteArray) (a1_0 : Int) (a1_1 : ByteArray) : Option (Bool) := if a0_0 = a1_0 then (if a0_1.toList = a1_1.toList then (some true) else (some false)) else (some false)
set_option maxHeartbeats 8000000 in
set_option maxRecDepth 100000 in
theorem laws_eqSigns.calls (a0_0 : Int) (a0_1 : ByteArray) (a1_0 : Int) (a1_1 : ByteArray) (r : Bool) (w : World) (h : laws_eqSigns.f a0_0 a0_1 a1_0 a1_1 = some r) :
  Calls Tryd.prog 31 #[.agg #[.int .i64 a0_0, .string a0_1], .agg #[.int .i64 a1_0, .string a1_1]] w fun e w' => e = .returned (.bool r) ∧ Below w.heap.size w w' := by
 have hu28 := Tryd.underlying28
 have HB := Aside0.mk (Below.refl w.heap.size w)
 have H : (if a0_0 = a1_0 then (if a0_1.toList = a1_1.toList then (some true) else (some false)) else (some false)) = some r := h
 clear h
 by_cases c3 : a0_0 = a1_0
 ·rw [if_pos c3] at H
  have c3b0 : (a0_0 == a1_0) = true := beq_iff_eq.mpr c3
  have c3b1 : (a0_0 != a1_0) = false := bne_eq_false_iff_eq.mpr c3
  clear c3
  by_cases c4 : a0_1.toList = a1_1.toList
  ·rw [if_pos c4] at H
   have c4b0 : (a0_1.toList == a1_1.toList) = true := beq_iff_eq.mpr c4
   have c4b1 : (a0_1.toList != a1_1.toList) = false := bne_eq_false_iff_eq.mpr c4
   clear c4
   obtain rfl := Option.some.inj H
   go_enter Tryd.func31, Tryd.ntmps31
   go_wp2_with (first | ((with_reducible refine gate_dst (N := 2) rfl ?_); refine zBx (N := 2) #[.int .i64 a0_0, .string a0_1] 28 ?_; intro gb403 hg w5 hbox hb; have BK403 := Aside0.mk (hbox); have GW403 := zS hg; have GE403 := zS hg; replace HB := zX hb; clear hb hbox hg) | ((with_reducible refine gate_dst (N := 3) rfl ?_); refine zBx (N := 3) #[.int .i64 a1_0, .string a1_1] 28 ?_; intro gb404 hg w6 hbox hb; have BK404 := Aside0.mk (hbox); have GW404 := zSg hg (zG GE403.out); have GE404 := zSg hg (zG GE403.out); have NB403_404 := zL hg BK403.out; have NB404_403 := zLg hg BK403.out; replace BK403 := zV BK403.out hb; replace HB := zX1 GE403.out hb; clear hb hbox hg; have hnb7 := NB403_404.out; have hnc7 := NB404_403.out; obtain ⟨hcz8_0, hcz8_1, hfz8_0, hfz8_1⟩ := zq2 BK403.out; obtain ⟨hcz9_0, hcz9_1, hfz9_0, hfz9_1⟩ := zq2 BK404.out))
   go_ret
   exact ⟨zE, zG2 GE403.out GE404.out⟩
  rw [if_neg c4] at H
  have c4b0 : (a0_1.toList == a1_1.toList) = false := beq_eq_false_iff_ne.mpr c4
  have c4b1 : (a0_1.toList != a1_1.toList) = true := bne_iff_ne.mpr c4
  obtain rfl := Option.some.inj H
  go_enter Tryd.func31, Tryd.ntmps31
  go_wp2_with (first | ((with_reducible refine gate_dst (N := 2) rfl ?_); refine zBx (N := 2) #[.int .i64 a0_0, .string a0_1] 28 ?_; intro gb403 hg w10 hbox hb; have BK403 := Aside0.mk (hbox); have GW403 := zS hg; have GE403 := zS hg; replace HB := zX hb; clear hb hbox hg) | ((with_reducible refine gate_dst (N := 3) rfl ?_); refine zBx (N := 3) #[.int .i64 a1_0, .string a1_1] 28 ?_; intro gb404 hg w11 hbox hb; have BK404 := Aside0.mk (hbox); have GW404 := zSg hg (zG GE403.out); have GE404 := zSg hg (zG GE403.out); have NB403_404 := zL hg BK403.out; have NB404_403 := zLg hg BK403.out; replace BK403 := zV BK403.out hb; replace HB := zX1 GE403.out hb; clear hb hbox hg; have hnb12 := NB403_404.out; have hnc12 := NB404_403.out; obtain ⟨hcz13_0, hcz13_1, hfz13_0, hfz13_1⟩ := zq2 BK403.out; obtain ⟨hcz14_0, hcz14_1, hfz14_0, hfz14_1⟩ := zq2 BK404.out))
  go_ret
  exact ⟨zE, zG2 GE403.out GE404.out⟩
 rw [if_neg c3] at H
 have c3b0 : (a0_0 == a1_0) = false := beq_eq_false_iff_ne.mpr c3
 have c3b1 : (a0_0 != a1_0) = true := bne_iff_ne.mpr c3
 obtain rfl := Option.some.inj H
 go_enter Tryd.func31, Tryd.ntmps31
 go_wp2_with (first | ((with_reducible refine gate_dst (N := 2) rfl ?_); refine zBx (N := 2) #[.int .i64 a0_0, .string a0_1] 28 ?_; intro gb403 hg w15 hbox hb; have BK403 := Aside0.mk (hbox); have GW403 := zS hg; have GE403 := zS hg; replace HB := zX hb; clear hb hbox hg) | ((with_reducible refine gate_dst (N := 3) rfl ?_); refine zBx (N := 3) #[.int .i64 a1_0, .string a1_1] 28 ?_; intro gb404 hg w16 hbox hb; have BK404 := Aside0.mk (hbox); have GW404 := zSg hg (zG GE403.out); have GE404 := zSg hg (zG GE403.out); have NB403_404 := zL hg BK403.out; have NB404_403 := zLg hg BK403.out; replace BK403 := zV BK403.out hb; replace HB := zX1 GE403.out hb; clear hb hbox hg; have hnb17 := NB403_404.out; have hnc17 := NB404_403.out; obtain ⟨hcz18_0, hcz18_1, hfz18_0, hfz18_1⟩ := zq2 BK403.out; obtain ⟨hcz19_0, hcz19_1, hfz19_0, hfz19_1⟩ := zq2 BK404.out))
 go_ret
 exact ⟨zE, zG2 GE403.out GE404.out⟩
/-! ### laws_FnExactParseSigns: function 9 -/
def laws_FnExactParseSigns.f (k : Nat) (a0 : ByteArray) : Option (Bool) := if (a0.size : Int) > 1048576 then (some true) else ((spec_ParseSigns.f k a0).bind fun bt405 => ((impl_ParseSigns.f k a0).bind fun bt409 => ((laws_eqSigns.f bt409.1 bt409.2.1 bt405.1 bt405.2.1).bind fun t413 => (if t413 = true then (if (bt409.2.2 != bt405.2.2) = true then (some false) else (some true)) else (some false)))))
theorem zl90_0 {p q p0 : Prop} (g : p) (g0 : p0) (h : p → p0 → q := by intro zg_ z0_; repeat (first | (with_reducible first | exact zg_ | apply below_alloc | apply pw_below_drewN | apply below_drew1 | refine below_set ?_ z0_) | exact zg_)) : q := h g g0
set_option maxHeartbeats 8000000 in
set_option maxRecDepth 100000 in
theorem laws_FnExactParseSigns.calls (k : Nat) (a0 : ByteArray) (r : Bool) (w : World) (h : laws_FnExactParseSigns.f k a0 = some r) (hr_ : r = true) (hT : T2 w) :
  Calls Tryd.prog 9 #[.string a0] w fun e w' => e = .returned (.bool r) ∧ Below w.heap.size w w' := by
 have HT := Aside0.mk hT
 clear hT
 have hu28 := Tryd.underlying28
 have HB := Aside0.mk (Below.refl w.heap.size w)
 have H : (if (a0.size : Int) > 1048576 then (some true) else ((spec_ParseSigns.f k a0).bind fun bt405 => ((impl_ParseSigns.f k a0).bind fun bt409 => ((laws_eqSigns.f bt409.1 bt409.2.1 bt405.1 bt405.2.1).bind fun t413 => (if t413 = true then (if (bt409.2.2 != bt405.2.2) = true then (some false) else (some true)) else (some false)))))) = some r := h
 clear h
 by_cases c2 : (a0.size : Int) > 1048576
 ·rw [if_pos c2] at H
  have c2b0 : decide (1048576 < (a0.size : Int)) = true := decide_eq_true c2
  have c2b1 : decide (1048576 < a0.size) = true := decide_eq_true (by omega)
  clear c2
  obtain rfl := Option.some.inj H
  go_enter Tryd.func9, Tryd.ntmps9
  go_wp2
  go_ret
  exact ⟨zE, zB⟩
 rw [if_neg c2] at H
 have c2b0 : decide (1048576 < (a0.size : Int)) = false := decide_eq_false c2
 have c2b1 : decide (1048576 < a0.size) = false := decide_eq_false (by omega)
 clear c2
 obtain ⟨⟨t405, t406, t407⟩, A3, H⟩ := zO H
 dsimp only at H
 obtain ⟨⟨t409, t410, t411⟩, A4, H⟩ := zO H
 dsimp only at H
 obtain ⟨t413, A5, H⟩ := zO H
 by_cases c6 : t413 = true
 ·subst c6
  replace H := (if_pos rfl).symm.trans H
  by_cases c7 : (t411 != t407) = true
  ·rw [if_pos c7] at H
   have c7b0 : (t411 != t407) = true := c7
   (try (have c7b1 : decide (t411 = t407) = false := by simpa using c7))
   (try (have c7b2 : (t411 == t407) = false := by simpa using c7))
   (try (have c7b3 : ¬ (t411 = t407) := by simpa using c7))
   clear c7
   obtain rfl := Option.some.inj H
   cases hr_
  rw [if_neg c7] at H
  have c7b0 : (t411 != t407) = false := by simpa using c7
  (try (have c7b1 : decide (t411 = t407) = true := by simpa using c7))
  (try (have c7b2 : (t411 == t407) = true := by simpa using c7))
  clear c7
  obtain rfl := Option.some.inj H
  go_enter Tryd.func9, Tryd.ntmps9
  go_wp2_with (first | ((with_reducible refine gate_callee (f := 29) rfl ?_); refine zD (some 12) Tryd.func29 #[.string a0] ?_; (with_reducible refine (spec_ParseSigns.calls k a0 t405 t406 t407 _ A3.out).mono ?_); rintro e w17 ⟨rfl, hb⟩; refine ⟨_, rfl, ?_⟩; replace HB := zX hb; (try clear hb)) | ((with_reducible refine gate_dst (N := 3) rfl ?_); refine zBx (N := 3) #[.int .i64 0, .string (⟨#[]⟩ : ByteArray)] 28 ?_; intro gb408 hg w18 hbox hb; have BK408 := Aside0.mk (hbox); have GW408 := zS hg; have GE408 := zS hg; replace HB := zX hb; clear hb hbox hg; obtain ⟨hcz19_0, hcz19_1, hfz19_0, hfz19_1⟩ := zq2 BK408.out) | ((with_reducible refine gate_callee (f := 30) rfl ?_); refine zD (some 17) Tryd.func30 #[.string a0] ?_; (with_reducible refine (impl_ParseSigns.calls k a0 t409 t410 t411 _ A4.out (HT.out.below ?sideT)).mono ?_); (case sideT => exact (zl90_0 HB.out GE408.out)); rintro e w20 ⟨rfl, hb⟩; refine ⟨_, rfl, ?_⟩; replace BK408 := Aside0.mk (blk_below (g := gb408) (o := .cells #[.int .i64 t405, .string t406] 28 (0, 0)) (zk0 BK408.out) hb); replace HB := zX1 GE408.out hb; (try clear hb)) | ((with_reducible refine gate_dst (N := 5) rfl ?_); refine zBx (N := 5) #[.int .i64 0, .string (⟨#[]⟩ : ByteArray)] 28 ?_; intro gb412 hg w21 hbox hb; have BK412 := Aside0.mk (hbox); have GW412 := zSg hg (zG GE408.out); have GE412 := zSg hg (zG GE408.out); have NB408_412 := zL hg BK408.out; have NB412_408 := zLg hg BK408.out; replace BK408 := zV BK408.out hb; replace HB := zX1 GE408.out hb; clear hb hbox hg; have hnb22 := NB412_408.out; have hnc22 := NB408_412.out; obtain ⟨hcz23_0, hcz23_1, hfz23_0, hfz23_1⟩ := zq2 BK412.out; obtain ⟨hcz24_0, hcz24_1, hfz24_0, hfz24_1⟩ := zq2 BK408.out) | ((with_reducible refine gate_callee (f := 31) rfl ?_); refine zD (some 22) Tryd.func31 #[.agg #[.int .i64 t409, .string t410], .agg #[.int .i64 t405, .string t406]] ?_; (with_reducible refine (laws_eqSigns.calls t409 t410 t405 t406 true _ A5.out).mono ?_); rintro e w25 ⟨rfl, hb⟩; refine ⟨_, rfl, ?_⟩; replace BK408 := Aside0.mk (blk_below (g := gb408) (o := .cells #[.int .i64 t405, .string t406] 28 (0, 0)) (zk2 BK408.out NB408_412.out NB408_412.out) hb); replace BK412 := Aside0.mk (blk_below (g := gb412) (o := .cells #[.int .i64 t409, .string t410] 28 (0, 0)) (zk0 BK412.out) hb); replace HB := Aside0.mk (below_step (zG2 GE408.out GE412.out) hb); (try clear hb)))
  go_ret
  exact ⟨zE, zG2 GE408.out GE412.out⟩
 replace c6 := Bool.eq_false_iff.mpr c6
 subst c6
 replace H := (if_neg zFf).symm.trans H
 obtain rfl := Option.some.inj H
 cases hr_
end Go.Proofs.YthhgcdfdjlijjaaDoor.PX
namespace Go.Proofs.YthhgcdfdjlijjaaDoor.Pure
open Go.RowKit Go.Proofs.YthhgcdfdjlijjaaDoorW.PrintWords Go.Proofs.YthhgcdfdjlijjaaDoor.PX Go.Proofs.YthhgcdfdjlijjaaDoor.M Go.Proofs.YthhgcdfdjlijjaaDoor.G
theorem FnExactParseSigns (s : ByteArray) (_ : s.size ≤ 140737488351232) : ∃ k, laws_FnExactParseSigns.f k s = some true := by
  refine Ev.rounds (r := true) ?_
  unfold laws_FnExactParseSigns.f
  by_cases h : (s.size : Int) > 1048576
  · exact ev_pos h (Ev.now _)
  · have e : laws_eqSigns.f (sigA s).1 (sigA s).2.1 (sigA s).1 (sigA s).2.1 = some true := by unfold laws_eqSigns.f; rw [if_pos rfl, if_pos rfl]
    exact ev_neg h (Ev.bind (spec_sig s (by omega)) (Ev.bind (impl_sig s (by omega)) (ev_call e (ev_pos rfl (ev_neg (by simp) (Ev.now _))))))
end Go.Proofs.YthhgcdfdjlijjaaDoor.Pure
namespace Go.Proofs.YthhgcdfdjlijjaaDoor.fnExactParseSigns
open Go.ChangeShapes Go.WideShapes Go.ChangeAt Go.RowKit Go.Joins
open Go.ChangeMaps (open_string shut_string)
set_option linter.unusedVariables false
theorem own : ownKnob Tryd.prog.godebug = none := by kernel_rfl
theorem str_mk {H : Type} {enc : TypeId × Value → H} {P : Program} {w : World} {base : Nat} {spare : Nat → Bool} {held : Bool} {t : TypeId} {s : ByteArray} (ht : P.underlying t = some .string) (hs : s.size ≤ maxLen) : DataW.trod enc P w base spare held 1 t [.string s] = some (.lit (.string s.data.toList), []) := by
  simp [DataW.trod, ht, hs]
set_option maxRecDepth 100000 in
theorem lifted (os : Os) (started : os.Started) (H : Type) (enc : TypeId × Value → H) :
    ReturnsInHanded {} Tryd.checked os 9 .any (fun w args => (Rows.fnExactParseSignsSpec.pre enc Tryd.prog Tryd.f9 Rows.fnExactParseSignsRow.domain false w args ∧ laidMetH Tryd.prog G.l5 w) ∧ sizedMet enc Tryd.prog Tryd.f9 (OpenSpec.ofChange Rows.fnExactParseSignsSpec) false w args) (Rows.fnExactParseSignsSpec.post enc Tryd.prog Tryd.f9 false true false false) := by
  refine returnsInHanded_of_change_and (C := Tryd.checked) (X := fun w _ => laidMetH Tryd.prog G.l5 w) (fun _ _ _ hh h => h.of_heap hh) own started (by kernel_rfl) Tryd.func9
    (ChangeSpec.witness_shaped (enc := enc) (C := Tryd.checked) (os := os) (X := fun w _ => laidMetH Tryd.prog G.l5 w) false (World.doorLaid Tryd.prog 62 os) #[.string ByteArray.empty] 8 rfl (World.shaped_of_RefB (by kernel_rfl) (by kernel_rfl)) (by kernel_rfl) (by kernel_rfl) (by kernel_rfl) (G.met5 os _)) ?_
  intro W base args ds gs before hval0 hW hcnd hsz0 hL _
  have hsz : (DataW.weightsEach Tryd.prog (Tryd.f9.params.toList ++ Rows.fnExactParseSignsSpec.plain.varTypes Tryd.prog) (ds ++ gs)).all (· ≤ reachBytes) = true := hsz0
  have hval : ∀ (j : Nat) t v, Tryd.f9.params[j]? = some t → args[j]? = some v → Value.okWide Tryd.prog W .any base t v := hval0
  have hW' := hW
  obtain ⟨p, q, hA0, hV, rfl, hfz, hnd⟩ := hW
  have hA : DataW.TrodAll enc Tryd.prog W 0 (fun _ => true) true Tryd.f9.params.toList args.toList ds p := hA0
  rw [Tryd.params9] at hA hval hsz
  obtain ⟨v0, vs0, d0, ds0, p0, q0, hargs, rfl, rfl, h0, r0⟩ := trodAll_cons hA
  obtain ⟨rfl, rfl, rfl⟩ := trodAll_nil r0
  obtain rfl : args = #[v0] := by cases args; simp_all
  obtain ⟨rfl, rfl⟩ := trodVars_none hV
  obtain ⟨a0, rfl, rfl, rfl, y0⟩ := open_string Tryd.underlying9 (hval 0 9 v0 rfl rfl) h0
  have w0 : a0.size ≤ 140737488351232 := by
    have z := sized_string hsz (j := 0) (t := 9) rfl rfl
    rw [Array.length_toList] at z
    exact z
  clear hA0 hval0 hsz0 hsz
  obtain ⟨k, hP⟩ := Pure.FnExactParseSigns a0 w0
  refine (PX.laws_FnExactParseSigns.calls k a0 true W hP rfl (G.laid5_T2 hL)).mono fun e W' ⟨he, bel⟩ => ?_
  subst he
  exact ⟨_, rfl, _, _, _, [], _, [], hW', trodAll_mk1 (shut_bool Tryd.underlying4 _), (trodAll_cons_mk (shut_string Tryd.underlying9 y0) trodAll_mk0), rfl, bel.frame _, fun h => by cases h⟩
theorem over : Rows.fnExactParseSignsRow.holds Tryd.pinned (OpenSpec.ofChange Rows.fnExactParseSignsSpec) :=
  OpenClaim.holds_of_wide 9 Tryd.f9 rfl rfl rfl rfl rfl rfl rfl ⟨rfl, rfl, rfl, rfl, rfl⟩ rfl rfl rfl rfl rfl (by kernel_rfl) Tryd.func9 (by kernel_rfl)
    (of_decide_eq_true (by kernel_rfl)) (by unfold Func.isWrapper; first | (rw [if_pos (by decide +kernel)]; kernel_rfl) | (rw [if_neg (by decide +kernel)]; exact ⟨rfl, rfl⟩))
    (fun os started H enc _ => lifted os started H enc)
theorem proved : Rows.FnExactParseSignsCardSaid :=
  Claim7.holds_tied_plain_at .later [] [.data, .data, .data, .sentinel, .sentinel] true (true, "b6297fe4dff1945e15340171e309d32cd1111b5a543af04a2fb5a0138c81a0d9") true over (fun _ h => by cases h) (by kernel_rfl) (fun _ h => by cases h) fnExactParseSigns_row_tie rfl ⟨rfl, rfl⟩ (by kernel_rfl) rfl
    (fun f fn hf hfn => by
      obtain rfl : f = 9 := Option.some.inj (hf.symm.trans (show Tryd.prog.funcNamed "loop.example/g03104/laws.FnExactParseSigns" = some 9 by kernel_rfl))
      obtain rfl : fn = Tryd.f9 := (Option.some.inj (Tryd.func9.symm.trans hfn)).symm
      exact ⟨by kernel_rfl, fun j t ht => by
        have hm : t ∈ Tryd.f9.params.toList := Array.mem_toList_iff.2 (Array.mem_of_getElem? ht)
        have hall : (Tryd.f9.params.toList.all fun u => !Tryd.prog.wantsStandIn u) = true := by kernel_rfl
        exact (show Tryd.prog.wantsStandIn t = false by simpa using List.all_eq_true.1 hall t hm)⟩)
    (by kernel_rfl)
#print axioms proved
end Go.Proofs.YthhgcdfdjlijjaaDoor.fnExactParseSigns
namespace Go.Proofs.YthhgcdfdjlijjaaDoor
theorem fnExactParseSigns_holds : Rows.FnExactParseSignsCardSaid := fnExactParseSigns.proved
end Go.Proofs.YthhgcdfdjlijjaaDoor
