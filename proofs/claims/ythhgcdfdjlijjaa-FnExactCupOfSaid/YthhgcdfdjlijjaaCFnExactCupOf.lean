/- FnExactCupOf returns true for all arguments and leaves them as they were. No condition. -/
import Derived.Test.YthhgcdfdjlijjaaProg
import Derived.Test.YthhgcdfdjlijjaaRows
import Derived.WalkKit
import Derived.ProofKit
import Derived.OpenShut
import Derived.ShutString
import Derived.ChangeOld
import Derived.Below
import Derived.SizedLaws
import Derived.Lib.SmallJoins
import Derived.ChangeSame
import Derived.Test.YthhgcdfdjlijjaaV1
import Derived.Test.YthhgcdfdjlijjaaBqmoycm1
import Derived.Test.YthhgcdfdjlijjaaBqmoycm2
set_option linter.unusedVariables false
set_option linter.unusedSimpArgs false
namespace Go.Proofs.Ythhgcdfdjlijjaa.PX
open Go.RowKit Go.Proofs.Ythhgcdfdjlijjaa.G Go.Proofs.YthhgcdfdjlijjaaW.PrintWords Go.Proofs.YthhgcdfdjlijjaaW.PrintLast Go.Proofs.YthhgcdfdjlijjaaW.PrintMore
attribute [local go_sem] max2_int min2_int max_two min_two max_three min_three max_four min_four   -- for this text's walks alone
set_option linter.unusedVariables false
set_option linter.unusedSimpArgs false
/-! ### laws_FnExactCupOf: function 5 -/
def laws_FnExactCupOf.f (k : Nat) (a0_0 : Int) (a0_1 : ByteArray) : Option (Bool) := (laws_szSigns.f a0_0 a0_1 1048576).bind fun t347 => (if t347 < 0 then (some true) else ((laws_toSigns.f a0_0 a0_1).bind fun bt348 => ((spec_CupOf.f k bt348.1 bt348.2).bind fun t350 => ((laws_toSigns.f a0_0 a0_1).bind fun bt353 => ((impl_CupOf.f k bt353.1 bt353.2).bind fun t355 => ((laws_eqIntS.f k t355 t350).bind fun t358 => (if t358 = true then ((laws_markIntS.f k t355 1).bind fun bt359 => ((laws_heldIntS.f k bt359.2 1).bind fun t361 => (if t361 < 0 then (some false) else (if t361 = bt359.1 then ((laws_toSigns.f a0_0 a0_1).bind fun bt362 => ((impl_CupOf.f k bt362.1 bt362.2).bind fun t364 => ((laws_eqIntS.f k t364 t350).bind fun t367 => (if t367 = true then ((laws_heldIntS.f k bt359.2 1).bind fun t368 => (if t368 < 0 then (some false) else (if t368 = bt359.1 then (some true) else (some false)))) else (some false))))) else (some false))))) else (some false))))))))
theorem zl65_0 {p q p0 : Prop} (g : p) (g0 : p0) (h : p → p0 → q := by intro zg_ z0_; repeat (first | (with_reducible first | exact zg_ | apply below_alloc | apply pw_below_drewN | apply below_drew1 | refine below_set ?_ z0_) | exact zg_)) : q := h g g0
set_option maxHeartbeats 8000000 in
set_option maxRecDepth 100000 in
theorem laws_FnExactCupOf.calls (k : Nat) (a0_0 : Int) (a0_1 : ByteArray) (r : Bool) (w : World) (h : laws_FnExactCupOf.f k a0_0 a0_1 = some r) (hr_ : r = true) :
  Calls Try.prog 5 #[.agg #[.int .i64 a0_0, .string a0_1]] w fun e w' => e = .returned (.bool r) ∧ Below w.heap.size w w' := by
 have hu31 := Try.underlying31
 have HB := Aside0.mk (Below.refl w.heap.size w)
 have H : ((laws_szSigns.f a0_0 a0_1 1048576).bind fun t347 => (if t347 < 0 then (some true) else ((laws_toSigns.f a0_0 a0_1).bind fun bt348 => ((spec_CupOf.f k bt348.1 bt348.2).bind fun t350 => ((laws_toSigns.f a0_0 a0_1).bind fun bt353 => ((impl_CupOf.f k bt353.1 bt353.2).bind fun t355 => ((laws_eqIntS.f k t355 t350).bind fun t358 => (if t358 = true then ((laws_markIntS.f k t355 1).bind fun bt359 => ((laws_heldIntS.f k bt359.2 1).bind fun t361 => (if t361 < 0 then (some false) else (if t361 = bt359.1 then ((laws_toSigns.f a0_0 a0_1).bind fun bt362 => ((impl_CupOf.f k bt362.1 bt362.2).bind fun t364 => ((laws_eqIntS.f k t364 t350).bind fun t367 => (if t367 = true then ((laws_heldIntS.f k bt359.2 1).bind fun t368 => (if t368 < 0 then (some false) else (if t368 = bt359.1 then (some true) else (some false)))) else (some false))))) else (some false))))) else (some false))))))))) = some r := h
 clear h
 obtain ⟨t347, A2, H⟩ := zO H
 by_cases c3 : t347 < 0
 ·rw [if_pos c3] at H
  have c3b0 := decide_eq_true c3
  clear c3
  obtain rfl := Option.some.inj H
  go_enter Try.func5, Try.ntmps5
  go_wp2_with (first | ((with_reducible refine gate_dst (N := 1) rfl ?_); refine zBx (N := 1) #[.int .i64 a0_0, .string a0_1] 31 ?_; intro gb346 hg w4 hbox hb; have BK346 := Aside0.mk (hbox); have GW346 := zS hg; have GE346 := zS hg; replace HB := zX hb; clear hb hbox hg; obtain ⟨hcz5_0, hcz5_1, hfz5_0, hfz5_1⟩ := zq2 BK346.out) | ((with_reducible refine gate_callee (f := 13) rfl ?_); refine zD (some 11) Try.func13 #[.agg #[.int .i64 a0_0, .string a0_1], .int .i64 1048576] ?_; (with_reducible refine (laws_szSigns.calls a0_0 a0_1 1048576 t347 _ A2.out).mono ?_); rintro e w6 ⟨rfl, hb⟩; refine ⟨_, rfl, ?_⟩; replace BK346 := zV BK346.out hb; replace HB := zX1 GE346.out hb; (try clear hb)))
  go_ret
  exact ⟨zE, zG GE346.out⟩
 rw [if_neg c3] at H
 have c3b0 := decide_eq_false c3
 clear c3
 obtain ⟨⟨t348, t349⟩, A7, H⟩ := zO H
 dsimp only at H
 obtain ⟨t350, A8, H⟩ := zO H
 obtain ⟨⟨t353, t354⟩, A9, H⟩ := zO H
 dsimp only at H
 obtain ⟨t355, A10, H⟩ := zO H
 obtain ⟨t358, A11, H⟩ := zO H
 by_cases c12 : t358 = true
 ·subst c12
  replace H := (if_pos rfl).symm.trans H
  obtain ⟨⟨t359, t360⟩, A13, H⟩ := zO H
  dsimp only at H
  obtain ⟨t361, A14, H⟩ := zO H
  by_cases c15 : t361 < 0
  ·rw [if_pos c15] at H
   have c15b0 := decide_eq_true c15
   clear c15
   obtain rfl := Option.some.inj H
   cases hr_
  rw [if_neg c15] at H
  have c15b0 := decide_eq_false c15
  clear c15
  by_cases c28 : t361 = t359
  ·rw [if_pos c28] at H
   have c28b0 := beq_iff_eq.mpr c28
   have c28b1 := bne_eq_false_iff_eq.mpr c28
   clear c28
   obtain ⟨⟨t362, t363⟩, A29, H⟩ := zO H
   dsimp only at H
   obtain ⟨t364, A30, H⟩ := zO H
   obtain ⟨t367, A31, H⟩ := zO H
   by_cases c32 : t367 = true
   ·subst c32
    replace H := (if_pos rfl).symm.trans H
    obtain ⟨t368, A33, H⟩ := zO H
    by_cases c34 : t368 < 0
    ·rw [if_pos c34] at H
     have c34b0 := decide_eq_true c34
     clear c34
     obtain rfl := Option.some.inj H
     cases hr_
    rw [if_neg c34] at H
    have c34b0 := decide_eq_false c34
    clear c34
    by_cases c51 : t368 = t359
    ·rw [if_pos c51] at H
     have c51b0 := beq_iff_eq.mpr c51
     have c51b1 := bne_eq_false_iff_eq.mpr c51
     clear c51
     obtain rfl := Option.some.inj H
     go_enter Try.func5, Try.ntmps5
     go_wp2_with (first | ((with_reducible refine gate_dst (N := 1) rfl ?_); refine zBx (N := 1) #[.int .i64 a0_0, .string a0_1] 31 ?_; intro gb346 hg w52 hbox hb; have BK346 := Aside0.mk (hbox); have GW346 := zS hg; have GE346 := zS hg; replace HB := zX hb; clear hb hbox hg; obtain ⟨hcz53_0, hcz53_1, hfz53_0, hfz53_1⟩ := zq2 BK346.out) | ((with_reducible refine gate_callee (f := 13) rfl ?_); refine zD (some 11) Try.func13 #[.agg #[.int .i64 a0_0, .string a0_1], .int .i64 1048576] ?_; (with_reducible refine (laws_szSigns.calls a0_0 a0_1 1048576 t347 _ A2.out).mono ?_); rintro e w54 ⟨rfl, hb⟩; refine ⟨_, rfl, ?_⟩; replace BK346 := zV BK346.out hb; replace HB := zX1 GE346.out hb; (try clear hb); obtain ⟨hcz55_0, hcz55_1, hfz55_0, hfz55_1⟩ := zq2 BK346.out) | ((with_reducible refine gate_callee (f := 15) rfl ?_); refine zD (some 15) Try.func15 #[.agg #[.int .i64 a0_0, .string a0_1]] ?_; (with_reducible refine (laws_toSigns.calls a0_0 a0_1 t348 t349 _ A7.out).mono ?_); rintro e w56 ⟨rfl, hb⟩; refine ⟨_, rfl, ?_⟩; replace BK346 := zV BK346.out hb; replace HB := zX1 GE346.out hb; (try clear hb)) | ((with_reducible refine gate_callee (f := 20) rfl ?_); refine zD (some 16) Try.func20 #[.agg #[.int .i64 t348, .string t349]] ?_; (with_reducible refine (spec_CupOf.calls k t348 t349 t350 _ A8.out).mono ?_); rintro e w57 ⟨v351, rfl, ho0, hb⟩; refine ⟨_, rfl, ?_⟩; have HO352 := Aside0.mk (Kd.V_lower (Kd.V_mono (ok' := fun k_ => k_ ≠ gb346) ho0 (fun k_ hk_ => (Kd.freshB (g := gb346) (o := .cells #[.int .i64 a0_0, .string a0_1] 31 (0, 0)) (zK BK346.out) k_ hk_))) (below_size (zG GE346.out))); replace BK346 := zV BK346.out hb; replace HB := zX1 GE346.out hb; (try clear hb); (try clear ho0); obtain ⟨hcz58_0, hcz58_1, hfz58_0, hfz58_1⟩ := zq2 BK346.out) | ((with_reducible refine gate_callee (f := 15) rfl ?_); refine zD (some 18) Try.func15 #[.agg #[.int .i64 a0_0, .string a0_1]] ?_; (with_reducible refine (laws_toSigns.calls a0_0 a0_1 t353 t354 _ A9.out).mono ?_); rintro e w59 ⟨rfl, hb⟩; refine ⟨_, rfl, ?_⟩; replace HO352 := Aside0.mk (Kd.V_below (by (with_reducible repeat (first | apply Kd.V_alloc | apply Kd.V_drewN | apply Kd.V_drew)); exact HO352.out) hb); replace BK346 := zV BK346.out hb; replace HB := zX1 GE346.out hb; (try clear hb)) | ((with_reducible refine gate_callee (f := 21) rfl ?_); refine zD (some 19) Try.func21 #[.agg #[.int .i64 t353, .string t354]] ?_; (with_reducible refine (impl_CupOf.calls k t353 t354 t355 _ A10.out).mono ?_); rintro e w60 ⟨v356, rfl, ho0, hb⟩; refine ⟨_, rfl, ?_⟩; replace HO352 := Aside0.mk (Kd.V_elder' (by (with_reducible repeat (first | apply Kd.V_alloc | apply Kd.V_drewN | apply Kd.V_drew)); exact HO352.out) (Kd.R_base ho0) hb); have HO357 := Aside0.mk (Kd.R_lower ho0 (below_size (zG GE346.out))); replace BK346 := zV BK346.out hb; replace HB := zX1 GE346.out hb; (try clear hb); (try clear ho0); obtain ⟨Ao61, co61, eo61⟩ := Kd.R_slice HO357.out; subst eo61; obtain ⟨Ao62, co62, eo62⟩ := Kd.V_slice HO352.out; subst eo62) | ((with_reducible refine gate_callee (f := 17) rfl ?_); refine zD (some 22) Try.func17 #[.slice Ao61 t355.length co61, .slice Ao62 t350.length co62] ?_; (with_reducible refine (laws_eqIntS.calls k _ _ t355 _ _ t350 true _ ?side1 ?side2 ?side3 ?side4 A11.out).mono ?_); (case side1 => repeat (first | exact (Kd.R_reads' HO357.out).2.2 | (with_reducible refine Kd.C_alloc ?_ _) | (with_reducible refine Kd.C_drewN ?_ _) | (with_reducible refine Kd.C_drew ?_))); (case side2 => exact (Kd.R_reads' HO357.out).2.1); (case side3 => repeat (first | exact (Kd.V_reads' HO352.out).2.2 | (with_reducible refine Kd.C_alloc ?_ _) | (with_reducible refine Kd.C_drewN ?_ _) | (with_reducible refine Kd.C_drew ?_))); (case side4 => exact (Kd.V_reads' HO352.out).2.1); rintro e w' ⟨rfl, ⟨nd, rfl⟩⟩; refine ⟨_, rfl, ?_⟩) | ((with_reducible refine gate_callee (f := 18) rfl ?_); refine zD (some 26) Try.func18 #[.slice Ao61 t355.length co61, .int .i64 1] ?_; (with_reducible refine (laws_markIntS.calls k (fun k_ => some k_ = (.slice Ao61 t355.length co61 : Value).ownBlock) (.slice Ao61 t355.length co61) t355 1 t359 t360 w _ ?side1 ?side2 A13.out).mono ?_); (case side1 => exact (zl65_0 HB.out GE346.out)); (case side2 => exact Kd.R_tight rfl HO357.out); rintro e w63 ⟨rfl, hy0, hb, hkp⟩; refine ⟨_, rfl, ?_⟩; replace BK346 := Aside0.mk (blk_kept (zK BK346.out) hkp (fun hs_ => (fun e_ => (Kd.R_ne HO357.out BK346.out (by decide)) e_) hs_)); replace HO352 := Aside0.mk (Kd.V_mono (ok' := fun k_ => some k_ ≠ (.slice Ao61 t355.length co61 : Value).ownBlock ∧ k_ ≠ gb346) (Kd.V_keptB (HO352.out) hkp (fun k_ hk_ hs_ => (hk_.2) hs_)) (fun k_ hk_ => ⟨hk_.1.2, hk_.1.1⟩)); replace HO357 := Aside0.mk (Kd.R_reok rfl hy0 (fun k_ e_ => HO357.out.1 k_ e_)); replace HB := Aside0.mk (hb); (try clear hb); (try clear hkp); (try clear hy0)) | ((with_reducible refine gate_callee (f := 19) rfl ?_); refine goesL_ (some 29) rfl rfl Try.func19 (by kernel_rfl) rfl #[.slice Ao61 t360.length co61, .int .i64 1] rfl (by (try simp only [List.map_toArray, List.map_cons, List.map_nil]); first | done | (rw [show t360.length = t355.length from (Kd.R_reads' HO357.out).1.symm] <;> rfl) | rfl | (simp only [List.length_drop, List.length_take]; rfl)) ?_; (with_reducible refine (laws_heldIntS.calls k _ _ t360 1 t361 _ ?side1 ?side2 A14.out).mono ?_); (case side1 => repeat (first | exact (Kd.R_reads' HO357.out).2.2 | (with_reducible refine Kd.C_alloc ?_ _) | (with_reducible refine Kd.C_drewN ?_ _) | (with_reducible refine Kd.C_drew ?_))); (case side2 => rw [show t360.length = t355.length from (Kd.R_reads' HO357.out).1.symm]; exact (Kd.R_reads' HO357.out).2.1); rintro e w' ⟨rfl, ⟨nd, rfl⟩⟩; refine ⟨_, rfl, ?_⟩; obtain ⟨hcz64_0, hcz64_1, hfz64_0, hfz64_1⟩ := zq2 BK346.out) | ((with_reducible refine gate_callee (f := 15) rfl ?_); refine zD (some 36) Try.func15 #[.agg #[.int .i64 a0_0, .string a0_1]] ?_; (with_reducible refine (laws_toSigns.calls a0_0 a0_1 t362 t363 _ A29.out).mono ?_); rintro e w65 ⟨rfl, hb⟩; refine ⟨_, rfl, ?_⟩; replace HO352 := Aside0.mk (Kd.V_below (by (with_reducible repeat (first | apply Kd.V_alloc | apply Kd.V_drewN | apply Kd.V_drew)); exact HO352.out) hb); replace HO357 := zW HO357.out hb; replace BK346 := zV BK346.out hb; replace HB := zX1 GE346.out hb; (try clear hb)) | ((with_reducible refine gate_callee (f := 21) rfl ?_); refine zD (some 37) Try.func21 #[.agg #[.int .i64 t362, .string t363]] ?_; (with_reducible refine (impl_CupOf.calls k t362 t363 t364 _ A30.out).mono ?_); rintro e w66 ⟨v365, rfl, ho0, hb⟩; refine ⟨_, rfl, ?_⟩; replace HO352 := Aside0.mk (Kd.V_elder' (by (with_reducible repeat (first | apply Kd.V_alloc | apply Kd.V_drewN | apply Kd.V_drew)); exact HO352.out) (Kd.R_base ho0) hb); have HO366 := Aside0.mk (Kd.R_lower (Kd.R_new' ho0 (Kd.R_lt (zR HO357.out))) (below_size (zG GE346.out))); replace HO357 := Aside0.mk (Kd.R_elder' (zR HO357.out) (Kd.R_base ho0) hb); replace BK346 := zV BK346.out hb; replace HB := zX1 GE346.out hb; (try clear hb); (try clear ho0); obtain ⟨Ao67, co67, eo67⟩ := Kd.R_slice HO366.out; subst eo67) | ((with_reducible refine gate_callee (f := 17) rfl ?_); refine zD (some 40) Try.func17 #[.slice Ao67 t364.length co67, .slice Ao62 t350.length co62] ?_; (with_reducible refine (laws_eqIntS.calls k _ _ t364 _ _ t350 true _ ?side1 ?side2 ?side3 ?side4 A31.out).mono ?_); (case side1 => repeat (first | exact (Kd.R_reads' HO366.out).2.2 | (with_reducible refine Kd.C_alloc ?_ _) | (with_reducible refine Kd.C_drewN ?_ _) | (with_reducible refine Kd.C_drew ?_))); (case side2 => exact (Kd.R_reads' HO366.out).2.1); (case side3 => repeat (first | exact (Kd.V_reads' HO352.out).2.2 | (with_reducible refine Kd.C_alloc ?_ _) | (with_reducible refine Kd.C_drewN ?_ _) | (with_reducible refine Kd.C_drew ?_))); (case side4 => exact (Kd.V_reads' HO352.out).2.1); rintro e w' ⟨rfl, ⟨nd, rfl⟩⟩; refine ⟨_, rfl, ?_⟩) | ((with_reducible refine gate_callee (f := 19) rfl ?_); refine goesL_ (some 44) rfl rfl Try.func19 (by kernel_rfl) rfl #[.slice Ao61 t360.length co61, .int .i64 1] rfl (by (try simp only [List.map_toArray, List.map_cons, List.map_nil]); first | done | (rw [show t360.length = t355.length from (Kd.R_reads' HO357.out).1.symm] <;> rfl) | rfl | (simp only [List.length_drop, List.length_take]; rfl)) ?_; (with_reducible refine (laws_heldIntS.calls k _ _ t360 1 t368 _ ?side1 ?side2 A33.out).mono ?_); (case side1 => repeat (first | exact (Kd.R_reads' HO357.out).2.2 | (with_reducible refine Kd.C_alloc ?_ _) | (with_reducible refine Kd.C_drewN ?_ _) | (with_reducible refine Kd.C_drew ?_))); (case side2 => rw [show t360.length = t355.length from (Kd.R_reads' HO357.out).1.symm]; exact (Kd.R_reads' HO357.out).2.1); rintro e w' ⟨rfl, ⟨nd, rfl⟩⟩; refine ⟨_, rfl, ?_⟩))
     go_ret
     exact ⟨zE, zG GE346.out⟩
    rw [if_neg c51] at H
    have c51b0 := beq_eq_false_iff_ne.mpr c51
    have c51b1 := bne_iff_ne.mpr c51
    obtain rfl := Option.some.inj H
    cases hr_
   replace c32 := Bool.eq_false_iff.mpr c32
   subst c32
   replace H := (if_neg zFf).symm.trans H
   obtain rfl := Option.some.inj H
   cases hr_
  rw [if_neg c28] at H
  have c28b0 := beq_eq_false_iff_ne.mpr c28
  have c28b1 := bne_iff_ne.mpr c28
  obtain rfl := Option.some.inj H
  cases hr_
 replace c12 := Bool.eq_false_iff.mpr c12
 subst c12
 replace H := (if_neg zFf).symm.trans H
 obtain rfl := Option.some.inj H
 cases hr_
end Go.Proofs.Ythhgcdfdjlijjaa.PX
namespace Go.Proofs.Ythhgcdfdjlijjaa.Pure
open Go.RowKit Go.Proofs.YthhgcdfdjlijjaaW.PrintWords Go.Proofs.Ythhgcdfdjlijjaa.PX Go.Proofs.Ythhgcdfdjlijjaa.M
theorem FnExactCupOf (n : Int) (t : ByteArray) (_ : (Lit.int .i64 n).wf = true) (hs : t.size ≤ 9223372036854775807) :
  ∃ k, laws_FnExactCupOf.f k n t = some true := by
 refine Ev.rounds (r := true) ?_
 unfold laws_FnExactCupOf.f
 obtain ⟨r, hr⟩ := sz_signs n t
 refine ev_call hr ?_
 by_cases h : r < 0
 ·exact ev_pos h (Ev.now _)
 obtain ⟨V, hl, him, hsp⟩ := cup_both (n := n) hs
 refine ev_neg h (ev_call (a := (n, t)) rfl (Ev.bind hsp (ev_call (a := (n, t)) rfl (Ev.bind him (Ev.bind (eqIntS_self _ (by omega)) (ev_pos rfl ?_))))))
 refine Ev.bind (mark_ev _ (by omega)) (Ev.bind (held_ev _ (by omega)) (ev_neg (by omega) (ev_pos rfl ?_)))
 refine ev_call (a := (n, t)) rfl (Ev.bind him (Ev.bind (eqIntS_self _ (by omega)) (ev_pos rfl ?_)))
 exact Ev.bind (held_ev _ (by omega)) (ev_neg (by omega) (ev_pos rfl (Ev.now _)))
end Go.Proofs.Ythhgcdfdjlijjaa.Pure
namespace Go.Proofs.Ythhgcdfdjlijjaa.fnExactCupOf
open Go.ChangeShapes Go.WideShapes Go.ChangeAt Go.RowKit Go.Joins
open Go.ChangeMaps (open_string shut_string)
set_option linter.unusedVariables false
theorem own : ownKnob Try.prog.godebug = none := by kernel_rfl
theorem str_mk {H : Type} {enc : TypeId × Value → H} {P : Program} {w : World} {base : Nat} {spare : Nat → Bool} {held : Bool} {t : TypeId} {s : ByteArray} (ht : P.underlying t = some .string) (hs : s.size ≤ maxLen) : DataW.trod enc P w base spare held 1 t [.string s] = some (.lit (.string s.data.toList), []) := by
 simp [DataW.trod, ht, hs]
set_option maxRecDepth 100000 in
theorem lifted (os : Os) (started : os.Started) (H : Type) (enc : TypeId × Value → H) :
  ReturnsInHanded {} Try.checked os 5 .any (Rows.fnExactCupOfSpec.pre6 enc Try.prog Try.f5 Rows.fnExactCupOfRow.domain false) (Rows.fnExactCupOfSpec.post enc Try.prog Try.f5 false true false false) := by
 refine returnsInHanded_of_change_sized (C := Try.checked) own started (by kernel_rfl) Try.func5
  (ChangeSpec.witness6 (enc := enc) (C := Try.checked) false ⟨#[], #[.agg #[.int .i64 0, .string ByteArray.empty]], []⟩ 8 (by kernel_rfl) (by kernel_rfl) (by kernel_rfl) (by kernel_rfl)) ?_
 intro W base args ds gs before hval0 hW hcnd hsz0 _
 have hsz : (DataW.weightsEach Try.prog (Try.f5.params.toList ++ Rows.fnExactCupOfSpec.plain.varTypes Try.prog) (ds ++ gs)).all (· ≤ reachBytes) = true := hsz0
 have hval : ∀ (j : Nat) t v, Try.f5.params[j]? = some t → args[j]? = some v → Value.okWide Try.prog W .any base t v := hval0
 have hW' := hW
 obtain ⟨p, q, hA0, hV, rfl, hfz, hnd⟩ := hW
 have hA : DataW.TrodAll enc Try.prog W 0 (fun _ => true) true Try.f5.params.toList args.toList ds p := hA0
 rw [Try.params5] at hA hval hsz
 obtain ⟨v0, vs0, d0, ds0, p0, q0, hargs, rfl, rfl, h0, r0⟩ := trodAll_cons hA
 obtain ⟨rfl, rfl, rfl⟩ := trodAll_nil r0
 obtain rfl : args = #[v0] := by cases args; simp_all
 obtain ⟨rfl, rfl⟩ := trodVars_none hV
 obtain ⟨c0_0, c0_1, y0_0, y0_1, m0, rfl, rfl, rfl, hy0_0, hy0_1⟩ := open_agg2 Try.underlying31 (by kernel_rfl) (by kernel_rfl) (hval 0 31 v0 rfl rfl) h0
 obtain ⟨a0_0, e0_0, rfl, wa0⟩ := DataW.trod_int Try.underlying3 hy0_0
 obtain ⟨a0_1, e0_1, rfl, ws0⟩ := DataW.trod_string Try.underlying9 hy0_1
 simp only [List.cons.injEq, and_true] at e0_0 e0_1
 subst e0_0 e0_1
 clear hA0 hval0 hsz0 hsz
 obtain ⟨k, hP⟩ := Pure.FnExactCupOf a0_0 a0_1 wa0 ws0
 refine (PX.laws_FnExactCupOf.calls k a0_0 a0_1 true W hP rfl).mono fun e W' ⟨he, bel⟩ => ?_
 subst he
 exact ⟨_, rfl, _, _, _, [], _, [], hW', trodAll_mk1 (shut_bool Try.underlying4 _), (trodAll_cons_mk (shut_agg2 Try.underlying31 (by kernel_rfl) (by kernel_rfl) ⟨_, trod_int_mk 0 Try.underlying3 wa0⟩ ⟨_, str_mk Try.underlying9 ws0⟩) trodAll_mk0), rfl, bel.frame _, fun h => by cases h⟩
theorem over : Rows.fnExactCupOfRow.holds Try.pinned (OpenSpec.ofChange Rows.fnExactCupOfSpec) :=
 OpenClaim.holds_of_wide 5 Try.f5 rfl rfl rfl rfl rfl rfl rfl ⟨rfl, rfl, rfl, rfl, rfl⟩ rfl rfl rfl rfl rfl (by kernel_rfl) Try.func5 (by kernel_rfl)
  (of_decide_eq_true (by kernel_rfl)) (by unfold Func.isWrapper; first | (rw [if_pos (by decide +kernel)]; kernel_rfl) | (rw [if_neg (by decide +kernel)]; exact ⟨rfl, rfl⟩))
  (fun os started H enc _ => lifted os started H enc)
theorem proved : Rows.FnExactCupOfSaid := over
#print axioms proved
end Go.Proofs.Ythhgcdfdjlijjaa.fnExactCupOf
namespace Go.Proofs.Ythhgcdfdjlijjaa
theorem fnExactCupOf_holds : Rows.FnExactCupOfSaid := fnExactCupOf.proved
end Go.Proofs.Ythhgcdfdjlijjaa
