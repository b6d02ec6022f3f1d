/- FnExactParseNumber returns true for all arguments and leaves them as they were. No condition. -/
import Derived.Test.YthhgcdfdjlijjaaDoorProg
import Derived.Test.YthhgcdfdjlijjaaDoorRows
import Derived.Test.YthhgcdfdjlijjaaDoorTie
import Derived.Test.YthhgcdfdjlijjaaDoorCards
import Derived.SevenTiedAt
import Derived.WalkKit
import Derived.ProofKit
import Derived.OpenShut
import Derived.ShutString
import Derived.ChangeOld
import Derived.Below
import Derived.SizedLaws
import Derived.Lib.SmallJoins
import Derived.ChangeSame
import Derived.Test.YthhgcdfdjlijjaaDoorV1
import Derived.Test.YthhgcdfdjlijjaaDoorBexgqmu1
import Derived.Test.YthhgcdfdjlijjaaDoorBkvibfp1
set_option linter.unusedVariables false
set_option linter.unusedSimpArgs false
namespace Go.Proofs.YthhgcdfdjlijjaaDoor.PX
open Go.RowKit Go.Proofs.YthhgcdfdjlijjaaDoor.G Go.Proofs.YthhgcdfdjlijjaaDoorW.PrintWords Go.Proofs.YthhgcdfdjlijjaaDoorW.PrintLast Go.Proofs.YthhgcdfdjlijjaaDoorW.PrintMore
attribute [local go_sem] max2_int min2_int max_two min_two max_three min_three max_four min_four   -- for this text's walks alone
set_option linter.unusedVariables false
set_option linter.unusedSimpArgs false
/-! ### laws_FnExactParseNumber: function 7 -/
def laws_FnExactParseNumber.f (k : Nat) (a0 : ByteArray) : Option (Bool) := if (a0.size : Int) > 1048576 then (some true) else ((spec_ParseNumber.f k a0).bind fun bt283 => ((impl_ParseNumber.f a0).bind fun bt285 => (if bt285.1 = bt283.1 then (if (bt285.2 != bt283.2) = true then (some false) else (some true)) else (some false))))
theorem zl73_0 {p q : Prop} (g : p) (h : p → q := by intro zg_; repeat (first | (with_reducible first | exact zg_ | apply below_alloc | apply pw_below_drewN | apply below_drew1) | exact zg_)) : q := h g
set_option maxHeartbeats 8000000 in
set_option maxRecDepth 100000 in
theorem laws_FnExactParseNumber.calls (k : Nat) (a0 : ByteArray) (r : Bool) (w : World) (h : laws_FnExactParseNumber.f k a0 = some r) (hr_ : r = true) (hT : T2 w) :
  Calls Tryd.prog 7 #[.string a0] w fun e w' => e = .returned (.bool r) ∧ Below w.heap.size w w' := by
 have HT := Aside0.mk hT
 clear hT
 have HB := Aside0.mk (Below.refl w.heap.size w)
 have H : (if (a0.size : Int) > 1048576 then (some true) else ((spec_ParseNumber.f k a0).bind fun bt283 => ((impl_ParseNumber.f a0).bind fun bt285 => (if bt285.1 = bt283.1 then (if (bt285.2 != bt283.2) = true then (some false) else (some true)) else (some false))))) = some r := h
 clear h
 by_cases c2 : (a0.size : Int) > 1048576
 ·rw [if_pos c2] at H
  have c2b0 : decide (1048576 < (a0.size : Int)) = true := decide_eq_true c2
  have c2b1 : decide (1048576 < a0.size) = true := decide_eq_true (by omega)
  clear c2
  obtain rfl := Option.some.inj H
  go_enter Tryd.func7, Tryd.ntmps7
  go_wp2
  go_ret
  exact ⟨zE, zB⟩
 rw [if_neg c2] at H
 have c2b0 : decide (1048576 < (a0.size : Int)) = false := decide_eq_false c2
 have c2b1 : decide (1048576 < a0.size) = false := decide_eq_false (by omega)
 clear c2
 obtain ⟨⟨t283, t284⟩, A3, H⟩ := zO H
 dsimp only at H
 obtain ⟨⟨t285, t286⟩, A4, H⟩ := zO H
 dsimp only at H
 by_cases c5 : t285 = t283
 ·rw [if_pos c5] at H
  have c5b0 : (t285 == t283) = true := beq_iff_eq.mpr c5
  have c5b1 : (t285 != t283) = false := bne_eq_false_iff_eq.mpr c5
  clear c5
  by_cases c6 : (t286 != t284) = true
  ·rw [if_pos c6] at H
   have c6b0 : (t286 != t284) = true := c6
   (try (have c6b1 : decide (t286 = t284) = false := by simpa using c6))
   (try (have c6b2 : (t286 == t284) = false := by simpa using c6))
   (try (have c6b3 : ¬ (t286 = t284) := by simpa using c6))
   clear c6
   obtain rfl := Option.some.inj H
   cases hr_
  rw [if_neg c6] at H
  have c6b0 : (t286 != t284) = false := by simpa using c6
  (try (have c6b1 : decide (t286 = t284) = true := by simpa using c6))
  (try (have c6b2 : (t286 == t284) = true := by simpa using c6))
  clear c6
  obtain rfl := Option.some.inj H
  go_enter Tryd.func7, Tryd.ntmps7
  go_wp2_with (first | ((with_reducible refine gate_callee (f := 24) rfl ?_); refine zD (some 12) Tryd.func24 #[.string a0] ?_; (with_reducible refine (spec_ParseNumber.calls k a0 t283 t284 _ A3.out).mono ?_); rintro e w9 ⟨rfl, hb⟩; refine ⟨_, rfl, ?_⟩; replace HB := zX hb; (try clear hb)) | ((with_reducible refine gate_callee (f := 25) rfl ?_); refine zD (some 17) Tryd.func25 #[.string a0] ?_; (with_reducible refine (impl_ParseNumber.calls a0 t285 t286 _ A4.out (HT.out.below ?sideT)).mono ?_); (case sideT => exact (zl73_0 HB.out)); rintro e w10 ⟨rfl, hb⟩; refine ⟨_, rfl, ?_⟩; replace HB := zX hb; (try clear hb)))
  go_ret
  exact ⟨zE, zB⟩
 rw [if_neg c5] at H
 have c5b0 : (t285 == t283) = false := beq_eq_false_iff_ne.mpr c5
 have c5b1 : (t285 != t283) = true := bne_iff_ne.mpr c5
 obtain rfl := Option.some.inj H
 cases hr_
end Go.Proofs.YthhgcdfdjlijjaaDoor.PX
namespace Go.Proofs.YthhgcdfdjlijjaaDoor.Pure
open Go.RowKit Go.Proofs.YthhgcdfdjlijjaaDoorW.PrintWords Go.Proofs.YthhgcdfdjlijjaaDoor.PX Go.Proofs.YthhgcdfdjlijjaaDoor.M Go.Proofs.YthhgcdfdjlijjaaDoor.G
theorem FnExactParseNumber (s : ByteArray) (_ : s.size ≤ 140737488351232) : ∃ k, laws_FnExactParseNumber.f k s = some true := by
  refine Ev.rounds (r := true) ?_
  unfold laws_FnExactParseNumber.f
  by_cases h : (s.size : Int) > 1048576
  · exact ev_pos h (Ev.now _)
  · exact ev_neg h (Ev.bind (spec_num s (by omega)) (ev_call (impl_num s (by omega)) (ev_pos rfl (ev_neg (by simp) (Ev.now _)))))
end Go.Proofs.YthhgcdfdjlijjaaDoor.Pure
namespace Go.Proofs.YthhgcdfdjlijjaaDoor.fnExactParseNumber
open Go.ChangeShapes Go.WideShapes Go.ChangeAt Go.RowKit Go.Joins
open Go.ChangeMaps (open_string shut_string)
set_option linter.unusedVariables false
theorem own : ownKnob Tryd.prog.godebug = none := by kernel_rfl
theorem str_mk {H : Type} {enc : TypeId × Value → H} {P : Program} {w : World} {base : Nat} {spare : Nat → Bool} {held : Bool} {t : TypeId} {s : ByteArray} (ht : P.underlying t = some .string) (hs : s.size ≤ maxLen) : DataW.trod enc P w base spare held 1 t [.string s] = some (.lit (.string s.data.toList), []) := by
  simp [DataW.trod, ht, hs]
set_option maxRecDepth 100000 in
theorem lifted (os : Os) (started : os.Started) (H : Type) (enc : TypeId × Value → H) :
    ReturnsInHanded {} Tryd.checked os 7 .any (fun w args => (Rows.fnExactParseNumberSpec.pre enc Tryd.prog Tryd.f7 Rows.fnExactParseNumberRow.domain false w args ∧ laidMetH Tryd.prog G.l5 w) ∧ sizedMet enc Tryd.prog Tryd.f7 (OpenSpec.ofChange Rows.fnExactParseNumberSpec) false w args) (Rows.fnExactParseNumberSpec.post enc Tryd.prog Tryd.f7 false true false false) := by
  refine returnsInHanded_of_change_and (C := Tryd.checked) (X := fun w _ => laidMetH Tryd.prog G.l5 w) (fun _ _ _ hh h => h.of_heap hh) own started (by kernel_rfl) Tryd.func7
    (ChangeSpec.witness_shaped (enc := enc) (C := Tryd.checked) (os := os) (X := fun w _ => laidMetH Tryd.prog G.l5 w) false (World.doorLaid Tryd.prog 62 os) #[.string ByteArray.empty] 8 rfl (World.shaped_of_RefB (by kernel_rfl) (by kernel_rfl)) (by kernel_rfl) (by kernel_rfl) (by kernel_rfl) (G.met5 os _)) ?_
  intro W base args ds gs before hval0 hW hcnd hsz0 hL _
  have hsz : (DataW.weightsEach Tryd.prog (Tryd.f7.params.toList ++ Rows.fnExactParseNumberSpec.plain.varTypes Tryd.prog) (ds ++ gs)).all (· ≤ reachBytes) = true := hsz0
  have hval : ∀ (j : Nat) t v, Tryd.f7.params[j]? = some t → args[j]? = some v → Value.okWide Tryd.prog W .any base t v := hval0
  have hW' := hW
  obtain ⟨p, q, hA0, hV, rfl, hfz, hnd⟩ := hW
  have hA : DataW.TrodAll enc Tryd.prog W 0 (fun _ => true) true Tryd.f7.params.toList args.toList ds p := hA0
  rw [Tryd.params7] at hA hval hsz
  obtain ⟨v0, vs0, d0, ds0, p0, q0, hargs, rfl, rfl, h0, r0⟩ := trodAll_cons hA
  obtain ⟨rfl, rfl, rfl⟩ := trodAll_nil r0
  obtain rfl : args = #[v0] := by cases args; simp_all
  obtain ⟨rfl, rfl⟩ := trodVars_none hV
  obtain ⟨a0, rfl, rfl, rfl, y0⟩ := open_string Tryd.underlying9 (hval 0 9 v0 rfl rfl) h0
  have w0 : a0.size ≤ 140737488351232 := by
    have z := sized_string hsz (j := 0) (t := 9) rfl rfl
    rw [Array.length_toList] at z
    exact z
  clear hA0 hval0 hsz0 hsz
  obtain ⟨k, hP⟩ := Pure.FnExactParseNumber a0 w0
  refine (PX.laws_FnExactParseNumber.calls k a0 true W hP rfl (G.laid5_T2 hL)).mono fun e W' ⟨he, bel⟩ => ?_
  subst he
  exact ⟨_, rfl, _, _, _, [], _, [], hW', trodAll_mk1 (shut_bool Tryd.underlying4 _), (trodAll_cons_mk (shut_string Tryd.underlying9 y0) trodAll_mk0), rfl, bel.frame _, fun h => by cases h⟩
theorem over : Rows.fnExactParseNumberRow.holds Tryd.pinned (OpenSpec.ofChange Rows.fnExactParseNumberSpec) :=
  OpenClaim.holds_of_wide 7 Tryd.f7 rfl rfl rfl rfl rfl rfl rfl ⟨rfl, rfl, rfl, rfl, rfl⟩ rfl rfl rfl rfl rfl (by kernel_rfl) Tryd.func7 (by kernel_rfl)
    (of_decide_eq_true (by kernel_rfl)) (by unfold Func.isWrapper; first | (rw [if_pos (by decide +kernel)]; kernel_rfl) | (rw [if_neg (by decide +kernel)]; exact ⟨rfl, rfl⟩))
    (fun os started H enc _ => lifted os started H enc)
theorem proved : Rows.FnExactParseNumberCardSaid :=
  Claim7.holds_tied_plain_at .later [] [.data, .data, .data, .sentinel, .sentinel] true (true, "b6297fe4dff1945e15340171e309d32cd1111b5a543af04a2fb5a0138c81a0d9") true over (fun _ h => by cases h) (by kernel_rfl) (fun _ h => by cases h) fnExactParseNumber_row_tie rfl ⟨rfl, rfl⟩ (by kernel_rfl) rfl
    (fun f fn hf hfn => by
      obtain rfl : f = 7 := Option.some.inj (hf.symm.trans (show Tryd.prog.funcNamed "loop.example/g03104/laws.FnExactParseNumber" = some 7 by kernel_rfl))
      obtain rfl : fn = Tryd.f7 := (Option.some.inj (Tryd.func7.symm.trans hfn)).symm
      exact ⟨by kernel_rfl, fun j t ht => by
        have hm : t ∈ Tryd.f7.params.toList := Array.mem_toList_iff.2 (Array.mem_of_getElem? ht)
        have hall : (Tryd.f7.params.toList.all fun u => !Tryd.prog.wantsStandIn u) = true := by kernel_rfl
        exact (show Tryd.prog.wantsStandIn t = false by simpa using List.all_eq_true.1 hall t hm)⟩)
    (by kernel_rfl)
#print axioms proved
end Go.Proofs.YthhgcdfdjlijjaaDoor.fnExactParseNumber
namespace Go.Proofs.YthhgcdfdjlijjaaDoor
theorem fnExactParseNumber_holds : Rows.FnExactParseNumberCardSaid := fnExactParseNumber.proved
end Go.Proofs.YthhgcdfdjlijjaaDoor
