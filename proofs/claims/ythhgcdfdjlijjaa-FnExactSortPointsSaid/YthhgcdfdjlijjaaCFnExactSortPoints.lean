/- FnExactSortPoints returns true for all arguments and leaves them as they were. No condition. -/
import Derived.Test.YthhgcdfdjlijjaaProg
import Derived.OpenShut
import Derived.Test.YthhgcdfdjlijjaaRows
import Derived.WalkKit
import Derived.ProofKit
import Derived.ShutString
import Derived.ChangeOld
import Derived.Below
import Derived.SizedLaws
import Derived.Lib.SmallJoins
import Derived.ChangeSame
import Derived.Deep.SlicePairs
import Derived.Test.YthhgcdfdjlijjaaV1
import Derived.Test.YthhgcdfdjlijjaaBwfhzji1
set_option linter.unusedVariables false
set_option linter.unusedSimpArgs false
namespace Go.Proofs.Ythhgcdfdjlijjaa.PX
open Go.RowKit Go.Proofs.Ythhgcdfdjlijjaa.G Go.Proofs.YthhgcdfdjlijjaaW.PrintWords Go.Proofs.YthhgcdfdjlijjaaW.PrintLast Go.Proofs.YthhgcdfdjlijjaaW.PrintMore
attribute [local go_sem] max2_int min2_int max_two min_two max_three min_three max_four min_four   -- for this text's walks alone
set_option linter.unusedVariables false
set_option linter.unusedSimpArgs false
/-! ### laws_FnExactSortPoints: function 3 -/
noncomputable def laws_FnExactSortPoints.j0 : Nat → List (S45) → List (S43) → List (S43) → Bool → Option (Bool)
 | 0, _, _, _, _ => none
 | k + 1, x0, x4, x6, x42 => if x42 = true then (some false) else ((laws_markPointS.f k x6 1).bind fun bt233 => ((laws_heldPointS.f k bt233.2 1).bind fun t235 => (if t235 < 0 then (some false) else (if t235 = bt233.1 then ((laws_toPointS.f k x0).bind fun t236 => ((impl_SortPoints.f t236).bind fun t239 => ((laws_eqPointS.f k t239 x4).bind fun t242 => (if t242 = true then ((laws_heldPointS.f k bt233.2 1).bind fun t243 => (if t243 < 0 then (some false) else (if t243 = bt233.1 then (some true) else (some false)))) else (some false))))) else (some false)))))
noncomputable def laws_FnExactSortPoints.f (k : Nat) (l0 : List (S45)) : Option (Bool) := (laws_szPointS.f l0 1048576).bind fun t212 => (if t212 < 0 then (some true) else ((laws_toPointS.f k l0).bind fun t213 => ((spec_SortPoints.f k t213).bind fun t216 => ((laws_toPointS.f k l0).bind fun t219 => ((impl_SortPoints.f t219).bind fun t222 => ((laws_eqPointS.f k t222 t216).bind fun t225 => (if t225 = true then ((laws_toPointS.f k l0).bind fun t226 => ((laws_eqPointS.f k t219 t226).bind fun t229 => (if t229 = true then ((laws_markPointS.f k t219 1).bind fun bt230 => (if bt230.1 < 0 then (laws_FnExactSortPoints.j0 k l0 t216 t222 true) else ((laws_eqPointS.f k t222 t216).bind fun t232 => (laws_FnExactSortPoints.j0 k l0 t216 t222 (!t232))))) else (some false)))) else (some false))))))))
theorem laws_FnExactSortPoints.j0_no (k : Nat) (y0 : List (S45)) (y1 : List (S43)) (y2 : List (S43)) (r : Bool) (h_ : r = true) : ¬ laws_FnExactSortPoints.j0 k y0 y1 y2 true = some r := by
 subst h_
 cases k <;> simp [laws_FnExactSortPoints.j0]
theorem zl43_0 {p q : Prop} (g : p) (h : p → q := by intro zg_; repeat (first | (with_reducible first | exact zg_ | apply below_alloc | apply pw_below_drewN | apply below_drew1) | exact zg_)) : q := h g
set_option maxHeartbeats 8000000 in
set_option maxRecDepth 100000 in
theorem laws_FnExactSortPoints.calls (k : Nat) (A0 : Option Addr) (c0 : Nat) (l0 : List (S45)) (r : Bool) (w : World) (hr0 : Kd.C k45 w A0 l0.length l0) (hc0 : l0.length ≤ c0) (h : laws_FnExactSortPoints.f k l0 = some r) (hr_ : r = true) :
  Calls Try.prog 3 #[.slice A0 l0.length c0] w fun e w' => e = .returned (.bool r) ∧ Below w.heap.size w w' := by
 have HR0 := Aside0.mk hr0
 have HC0 := Aside0.mk hc0
 clear hr0 hc0
 have HB := Aside0.mk (Below.refl w.heap.size w)
 have H : ((laws_szPointS.f l0 1048576).bind fun t212 => (if t212 < 0 then (some true) else ((laws_toPointS.f k l0).bind fun t213 => ((spec_SortPoints.f k t213).bind fun t216 => ((laws_toPointS.f k l0).bind fun t219 => ((impl_SortPoints.f t219).bind fun t222 => ((laws_eqPointS.f k t222 t216).bind fun t225 => (if t225 = true then ((laws_toPointS.f k l0).bind fun t226 => ((laws_eqPointS.f k t219 t226).bind fun t229 => (if t229 = true then ((laws_markPointS.f k t219 1).bind fun bt230 => (if bt230.1 < 0 then (laws_FnExactSortPoints.j0 k l0 t216 t222 true) else ((laws_eqPointS.f k t222 t216).bind fun t232 => (laws_FnExactSortPoints.j0 k l0 t216 t222 (!t232))))) else (some false)))) else (some false))))))))) = some r := h
 clear h
 obtain ⟨t212, A2, H⟩ := zO H
 by_cases c3 : t212 < 0
 ·rw [if_pos c3] at H
  have c3b0 := decide_eq_true c3
  clear c3
  obtain rfl := Option.some.inj H
  go_enter Try.func3, Try.ntmps3
  go_wp2_with (first | ((with_reducible refine gate_callee (f := 6) rfl ?_); refine zD (some 13) Try.func6 #[.slice A0 l0.length c0, .int .i64 1048576] ?_; (with_reducible refine (laws_szPointS.calls _ _ l0 1048576 t212 _ ?side1 ?side2 A2.out).mono ?_); (case side1 => repeat (first | exact HR0.out | (with_reducible refine Kd.C_alloc ?_ _) | (with_reducible refine Kd.C_drewN ?_ _) | (with_reducible refine Kd.C_drew ?_))); (case side2 => exact HC0.out); rintro e w' ⟨rfl, ⟨nd, rfl⟩⟩; refine ⟨_, rfl, ?_⟩))
  go_ret
  exact ⟨zE, zB⟩
 rw [if_neg c3] at H
 have c3b0 := decide_eq_false c3
 clear c3
 obtain ⟨t213, A4, H⟩ := zO H
 obtain ⟨t216, A5, H⟩ := zO H
 obtain ⟨t219, A6, H⟩ := zO H
 obtain ⟨t222, A7, H⟩ := zO H
 obtain ⟨t225, A8, H⟩ := zO H
 by_cases c9 : t225 = true
 ·subst c9
  replace H := (if_pos rfl).symm.trans H
  obtain ⟨t226, A10, H⟩ := zO H
  obtain ⟨t229, A11, H⟩ := zO H
  by_cases c12 : t229 = true
  ·subst c12
   replace H := (if_pos rfl).symm.trans H
   obtain ⟨⟨t230, t231⟩, A13, H⟩ := zO H
   dsimp only at H
   have HC14 := Aside0.mk H
   clear H
   go_enter Try.func3, Try.ntmps3
   go_upto_region 14 with (first | ((with_reducible refine gate_callee (f := 6) rfl ?_); refine zD (some 13) Try.func6 #[.slice A0 l0.length c0, .int .i64 1048576] ?_; (with_reducible refine (laws_szPointS.calls _ _ l0 1048576 t212 _ ?side1 ?side2 A2.out).mono ?_); (case side1 => repeat (first | exact HR0.out | (with_reducible refine Kd.C_alloc ?_ _) | (with_reducible refine Kd.C_drewN ?_ _) | (with_reducible refine Kd.C_drew ?_))); (case side2 => exact HC0.out); rintro e w' ⟨rfl, ⟨nd, rfl⟩⟩; refine ⟨_, rfl, ?_⟩) | ((with_reducible refine gate_callee (f := 8) rfl ?_); refine zD (some 17) Try.func8 #[.slice A0 l0.length c0] ?_; (with_reducible refine (laws_toPointS.calls k _ _ l0 t213 _ ?side1 ?side2 A4.out).mono ?_); (case side1 => repeat (first | exact HR0.out | (with_reducible refine Kd.C_alloc ?_ _) | (with_reducible refine Kd.C_drewN ?_ _) | (with_reducible refine Kd.C_drew ?_))); (case side2 => exact HC0.out); rintro e w15 ⟨v214, rfl, ho0, hb⟩; refine ⟨_, rfl, ?_⟩; have HO215 := Aside0.mk (Kd.R_lower ho0 (below_size zB)); replace HB := zX hb; (try clear hb); (try clear ho0); obtain ⟨Ao16, co16, eo16⟩ := Kd.R_slice HO215.out; subst eo16) | ((with_reducible refine gate_callee (f := 7) rfl ?_); refine zD (some 18) Try.func7 #[.slice Ao16 t213.length co16] ?_; (with_reducible refine (spec_SortPoints.calls k _ _ t213 t216 _ ?side1 ?side2 A5.out).mono ?_); (case side1 => repeat (first | exact (Kd.R_reads' HO215.out).2.2 | (with_reducible refine Kd.C_alloc ?_ _) | (with_reducible refine Kd.C_drewN ?_ _) | (with_reducible refine Kd.C_drew ?_))); (case side2 => exact (Kd.R_reads' HO215.out).2.1); rintro e w17 ⟨v217, rfl, ho0, hb⟩; refine ⟨_, rfl, ?_⟩; have HO218 := Aside0.mk (Kd.R_lower (Kd.R_new' ho0 (Kd.R_lt (zR HO215.out))) (below_size zB)); replace HO215 := Aside0.mk (Kd.R_elder' (zR HO215.out) (Kd.R_base ho0) hb); replace HB := zX hb; (try clear hb); (try clear ho0)) | ((with_reducible refine gate_callee (f := 8) rfl ?_); refine zD (some 20) Try.func8 #[.slice A0 l0.length c0] ?_; (with_reducible refine (laws_toPointS.calls k _ _ l0 t219 _ ?side1 ?side2 A6.out).mono ?_); (case side1 => repeat (first | exact (Kd.C_below HR0.out HB.out) | (with_reducible refine Kd.C_alloc ?_ _) | (with_reducible refine Kd.C_drewN ?_ _) | (with_reducible refine Kd.C_drew ?_))); (case side2 => exact HC0.out); rintro e w18 ⟨v220, rfl, ho0, hb⟩; refine ⟨_, rfl, ?_⟩; have HO221 := Aside0.mk (Kd.R_lower (Kd.R_new' (Kd.R_new' ho0 (Kd.R_lt (zR HO215.out))) (Kd.R_lt (zR HO218.out))) (below_size zB)); replace HO215 := Aside0.mk (Kd.R_elder' (zR HO215.out) (Kd.R_base ho0) hb); replace HO218 := Aside0.mk (Kd.R_elder' (zR HO218.out) (Kd.R_base ho0) hb); replace HB := zX hb; (try clear hb); (try clear ho0); obtain ⟨Ao19, co19, eo19⟩ := Kd.R_slice HO221.out; subst eo19) | ((with_reducible refine gate_callee (f := 9) rfl ?_); refine zD (some 22) Try.func9 #[.slice Ao19 t219.length co19] ?_; (with_reducible refine (impl_SortPoints.calls _ _ t219 t222 _ ?side1 ?side2 A7.out).mono ?_); (case side1 => repeat (first | exact (Kd.R_reads' HO221.out).2.2 | (with_reducible refine Kd.C_alloc ?_ _) | (with_reducible refine Kd.C_drewN ?_ _) | (with_reducible refine Kd.C_drew ?_))); (case side2 => exact (Kd.R_reads' HO221.out).2.1); rintro e w20 ⟨v223, rfl, ho0, hb⟩; refine ⟨_, rfl, ?_⟩; have HO224 := Aside0.mk (Kd.R_lower (Kd.R_new' (Kd.R_new' (Kd.R_new' ho0 (Kd.R_lt (zR HO215.out))) (Kd.R_lt (zR HO218.out))) (Kd.R_lt (zR HO221.out))) (below_size zB)); replace HO215 := Aside0.mk (Kd.R_elder' (zR HO215.out) (Kd.R_base ho0) hb); replace HO218 := Aside0.mk (Kd.R_elder' (zR HO218.out) (Kd.R_base ho0) hb); replace HO221 := Aside0.mk (Kd.R_elder' (zR HO221.out) (Kd.R_base ho0) hb); replace HB := zX hb; (try clear hb); (try clear ho0); obtain ⟨Ao21, co21, eo21⟩ := Kd.R_slice HO224.out; subst eo21; obtain ⟨Ao22, co22, eo22⟩ := Kd.R_slice HO218.out; subst eo22) | ((with_reducible refine gate_callee (f := 10) rfl ?_); refine zD (some 25) Try.func10 #[.slice Ao21 t222.length co21, .slice Ao22 t216.length co22] ?_; (with_reducible refine (laws_eqPointS.calls k _ _ t222 _ _ t216 true _ ?side1 ?side2 ?side3 ?side4 A8.out).mono ?_); (case side1 => repeat (first | exact (Kd.R_reads' HO224.out).2.2 | (with_reducible refine Kd.C_alloc ?_ _) | (with_reducible refine Kd.C_drewN ?_ _) | (with_reducible refine Kd.C_drew ?_))); (case side2 => exact (Kd.R_reads' HO224.out).2.1); (case side3 => repeat (first | exact (Kd.R_reads' HO218.out).2.2 | (with_reducible refine Kd.C_alloc ?_ _) | (with_reducible refine Kd.C_drewN ?_ _) | (with_reducible refine Kd.C_drew ?_))); (case side4 => exact (Kd.R_reads' HO218.out).2.1); rintro e w23 ⟨rfl, hb⟩; refine ⟨_, rfl, ?_⟩; replace HO215 := zW HO215.out hb; replace HO218 := zW HO218.out hb; replace HO221 := zW HO221.out hb; replace HO224 := zW HO224.out hb; replace HB := zX hb; (try clear hb)) | ((with_reducible refine gate_callee (f := 8) rfl ?_); refine zD (some 29) Try.func8 #[.slice A0 l0.length c0] ?_; (with_reducible refine (laws_toPointS.calls k _ _ l0 t226 _ ?side1 ?side2 A10.out).mono ?_); (case side1 => repeat (first | exact (Kd.C_below HR0.out HB.out) | (with_reducible refine Kd.C_alloc ?_ _) | (with_reducible refine Kd.C_drewN ?_ _) | (with_reducible refine Kd.C_drew ?_))); (case side2 => exact HC0.out); rintro e w24 ⟨v227, rfl, ho0, hb⟩; refine ⟨_, rfl, ?_⟩; have HO228 := Aside0.mk (Kd.R_lower (Kd.R_new' (Kd.R_new' (Kd.R_new' (Kd.R_new' ho0 (Kd.R_lt (zR HO215.out))) (Kd.R_lt (zR HO218.out))) (Kd.R_lt (zR HO221.out))) (Kd.R_lt (zR HO224.out))) (below_size zB)); replace HO215 := Aside0.mk (Kd.R_elder' (zR HO215.out) (Kd.R_base ho0) hb); replace HO218 := Aside0.mk (Kd.R_elder' (zR HO218.out) (Kd.R_base ho0) hb); replace HO221 := Aside0.mk (Kd.R_elder' (zR HO221.out) (Kd.R_base ho0) hb); replace HO224 := Aside0.mk (Kd.R_elder' (zR HO224.out) (Kd.R_base ho0) hb); replace HB := zX hb; (try clear hb); (try clear ho0); obtain ⟨Ao25, co25, eo25⟩ := Kd.R_slice HO228.out; subst eo25) | ((with_reducible refine gate_callee (f := 10) rfl ?_); refine zD (some 30) Try.func10 #[.slice Ao19 t219.length co19, .slice Ao25 t226.length co25] ?_; (with_reducible refine (laws_eqPointS.calls k _ _ t219 _ _ t226 true _ ?side1 ?side2 ?side3 ?side4 A11.out).mono ?_); (case side1 => repeat (first | exact (Kd.R_reads' HO221.out).2.2 | (with_reducible refine Kd.C_alloc ?_ _) | (with_reducible refine Kd.C_drewN ?_ _) | (with_reducible refine Kd.C_drew ?_))); (case side2 => exact (Kd.R_reads' HO221.out).2.1); (case side3 => repeat (first | exact (Kd.R_reads' HO228.out).2.2 | (with_reducible refine Kd.C_alloc ?_ _) | (with_reducible refine Kd.C_drewN ?_ _) | (with_reducible refine Kd.C_drew ?_))); (case side4 => exact (Kd.R_reads' HO228.out).2.1); rintro e w26 ⟨rfl, hb⟩; refine ⟨_, rfl, ?_⟩; replace HO215 := zW HO215.out hb; replace HO218 := zW HO218.out hb; replace HO221 := zW HO221.out hb; replace HO224 := zW HO224.out hb; replace HO228 := zW HO228.out hb; replace HB := zX hb; (try clear hb)) | ((with_reducible refine gate_callee (f := 11) rfl ?_); refine zD (some 34) Try.func11 #[.slice Ao19 t219.length co19, .int .i64 1] ?_; (with_reducible refine (laws_markPointS.calls k (fun k_ => some k_ = (.slice Ao19 t219.length co19 : Value).ownBlock) (.slice Ao19 t219.length co19) t219 1 t230 t231 w _ ?side1 ?side2 A13.out).mono ?_); (case side1 => exact (zl43_0 HB.out)); (case side2 => exact Kd.R_tight rfl HO221.out); rintro e w27 ⟨rfl, hy0, hb, hkp⟩; refine ⟨_, rfl, ?_⟩; replace HO215 := Aside0.mk (Kd.R_mono (ok' := fun k_ => some k_ ≠ (.slice Ao22 t216.length co22 : Value).ownBlock ∧ some k_ ≠ (.slice Ao19 t219.length co19 : Value).ownBlock ∧ some k_ ≠ (.slice Ao21 t222.length co21 : Value).ownBlock ∧ some k_ ≠ (.slice Ao25 t226.length co25 : Value).ownBlock) (Kd.R_keptB (HO215.out) hkp (fun k_ hk_ hs_ => (hk_.1.1.2) hs_)) (fun k_ hk_ => ⟨hk_.1.1.1.1.2, hk_.1.1.1.2, hk_.1.1.2, hk_.1.2⟩)); replace HO218 := Aside0.mk (Kd.R_mono (ok' := fun k_ => some k_ ≠ (.slice Ao16 t213.length co16 : Value).ownBlock ∧ some k_ ≠ (.slice Ao19 t219.length co19 : Value).ownBlock ∧ some k_ ≠ (.slice Ao21 t222.length co21 : Value).ownBlock ∧ some k_ ≠ (.slice Ao25 t226.length co25 : Value).ownBlock) (Kd.R_keptB (HO218.out) hkp (fun k_ hk_ hs_ => (hk_.1.1.2) hs_)) (fun k_ hk_ => ⟨hk_.1.1.1.1.2, hk_.1.1.1.2, hk_.1.1.2, hk_.1.2⟩)); replace HO221 := Aside0.mk (Kd.R_reok rfl hy0 (fun k_ e_ => HO221.out.1 k_ e_)); replace HO224 := Aside0.mk (Kd.R_mono (ok' := fun k_ => some k_ ≠ (.slice Ao16 t213.length co16 : Value).ownBlock ∧ some k_ ≠ (.slice Ao22 t216.length co22 : Value).ownBlock ∧ some k_ ≠ (.slice Ao19 t219.length co19 : Value).ownBlock ∧ some k_ ≠ (.slice Ao25 t226.length co25 : Value).ownBlock) (Kd.R_keptB (HO224.out) hkp (fun k_ hk_ hs_ => (hk_.1.2) hs_)) (fun k_ hk_ => ⟨hk_.1.1.1.1.2, hk_.1.1.1.2, hk_.1.1.2, hk_.1.2⟩)); replace HO228 := Aside0.mk (Kd.R_mono (ok' := fun k_ => some k_ ≠ (.slice Ao16 t213.length co16 : Value).ownBlock ∧ some k_ ≠ (.slice Ao22 t216.length co22 : Value).ownBlock ∧ some k_ ≠ (.slice Ao19 t219.length co19 : Value).ownBlock ∧ some k_ ≠ (.slice Ao21 t222.length co21 : Value).ownBlock) (Kd.R_keptB (HO228.out) hkp (fun k_ hk_ hs_ => (hk_.1.2) hs_)) (fun k_ hk_ => ⟨hk_.1.1.1.1.2, hk_.1.1.1.2, hk_.1.1.2, hk_.1.2⟩)); replace HB := Aside0.mk (hb); (try clear hb); (try clear hkp); (try clear hy0)))
   (try simp only [Act.put, List.setIfInBounds_toArray, List.set_cons_zero, List.set_cons_succ])
   go_cut [42] (fun v42 wc => ∃ (kq : Nat) (x42_13 : Bool), v42 = .bool x42_13 ∧ Aside0 (laws_FnExactSortPoints.j0 kq l0 t216 t222 x42_13 = some r) ∧ Aside0 (kq ≤ k) ∧ Aside0 (Kd.R k43 43 wc w.heap.size (fun k_ => some k_ ≠ ((.slice Ao21 t222.length co21) : Value).ownBlock) (.slice Ao22 t216.length co22) t216) ∧ Aside0 (Kd.R k43 43 wc w.heap.size (fun k_ => some k_ ≠ ((.slice Ao22 t216.length co22) : Value).ownBlock) (.slice Ao21 t222.length co21) t222) ∧ Aside0 (Below w.heap.size w wc))
   case first =>
    have H := HC14.out
    clear HC14
    by_cases c28 : t230 < 0
    ·rw [if_pos c28] at H
     exact absurd H (laws_FnExactSortPoints.j0_no _ _ _ _ _ hr_)
    rw [if_neg c28] at H
    have c28b0 := decide_eq_false c28
    clear c28
    (first | rw [c28b0] | (simp only [i64_w, i32_w]; rw [c28b0]) | skip)
    obtain ⟨t232, A29, H⟩ := zO H
    have H' := Aside0.mk H; clear H
    go_wp2_with (first | (go_at_call 10; (with_reducible refine (laws_eqPointS.calls k _ _ t222 _ _ t216 t232 _ ?side1 ?side2 ?side3 ?side4 A29.out).mono ?_); (case side1 => repeat (first | exact (Kd.R_reads' HO224.out).2.2 | (with_reducible refine Kd.C_alloc ?_ _) | (with_reducible refine Kd.C_drewN ?_ _) | (with_reducible refine Kd.C_drew ?_))); (case side2 => exact (Kd.R_reads' HO224.out).2.1); (case side3 => repeat (first | exact (Kd.R_reads' HO218.out).2.2 | (with_reducible refine Kd.C_alloc ?_ _) | (with_reducible refine Kd.C_drewN ?_ _) | (with_reducible refine Kd.C_drew ?_))); (case side4 => exact (Kd.R_reads' HO218.out).2.1); rintro e w30 ⟨rfl, hb⟩; replace HO215 := zW HO215.out hb; replace HO218 := zW HO218.out hb; replace HO221 := zW HO221.out hb; replace HO224 := zW HO224.out hb; replace HO228 := zW HO228.out hb; replace HB := zX hb; (try clear hb); (try clear hb2); (try clear hk); (try clear hi)))
    go_meet
    case rel => exact ⟨_, (!t232), zF, H', ⟨by first | omega | exact Nat.le_refl _⟩, ⟨by (with_reducible repeat (first | apply Kd.R_alloc | apply Kd.R_drewN | apply Kd.R_drew)); exact Kd.R_mono HO218.out (fun _ hk => hk.2.2.1)⟩, ⟨by (with_reducible repeat (first | apply Kd.R_alloc | apply Kd.R_drewN | apply Kd.R_drew)); exact Kd.R_mono HO224.out (fun _ hk => hk.2.1)⟩, ⟨zB⟩⟩
   case rest =>
   clear HC14
   try clear c3
   try clear c3b0
   try clear c9
   try clear c12
   obtain ⟨kq, x42_13, rfl, HA, HJ13, HO_4, HO_6, HB⟩ := hcut
   cases kq with
   | zero => exact absurd HA.out (by simp [laws_FnExactSortPoints.j0])
   | succ kj13 =>
   have H := HA.out
   clear HA
   simp only [laws_FnExactSortPoints.j0] at H
   by_cases c31 : x42_13 = true
   ·subst c31
    replace H := (if_pos rfl).symm.trans H
    obtain rfl := Option.some.inj H
    cases hr_
   replace c31 := Bool.eq_false_iff.mpr c31
   subst c31
   replace H := (if_neg zFf).symm.trans H
   obtain ⟨⟨t233, t234⟩, A32, H⟩ := zO H
   dsimp only at H
   obtain ⟨t235, A33, H⟩ := zO H
   by_cases c34 : t235 < 0
   ·rw [if_pos c34] at H
    have c34b0 := decide_eq_true c34
    clear c34
    obtain rfl := Option.some.inj H
    cases hr_
   rw [if_neg c34] at H
   have c34b0 := decide_eq_false c34
   clear c34
   by_cases c36 : t235 = t233
   ·rw [if_pos c36] at H
    have c36b0 := beq_iff_eq.mpr c36
    have c36b1 := bne_eq_false_iff_eq.mpr c36
    clear c36
    obtain ⟨t236, A37, H⟩ := zO H
    obtain ⟨t239, A38, H⟩ := zO H
    obtain ⟨t242, A39, H⟩ := zO H
    by_cases c40 : t242 = true
    ·subst c40
     replace H := (if_pos rfl).symm.trans H
     obtain ⟨t243, A41, H⟩ := zO H
     by_cases c42 : t243 < 0
     ·rw [if_pos c42] at H
      have c42b0 := decide_eq_true c42
      clear c42
      obtain rfl := Option.some.inj H
      cases hr_
     rw [if_neg c42] at H
     have c42b0 := decide_eq_false c42
     clear c42
     by_cases c49 : t243 = t233
     ·rw [if_pos c49] at H
      have c49b0 := beq_iff_eq.mpr c49
      have c49b1 := bne_eq_false_iff_eq.mpr c49
      clear c49
      obtain rfl := Option.some.inj H
      go_wp2_with (first | ((with_reducible refine gate_callee (f := 11) rfl ?_); refine zD (some 45) Try.func11 #[.slice Ao21 t222.length co21, .int .i64 1] ?_; (with_reducible refine (laws_markPointS.calls kj13 (fun k_ => some k_ = (.slice Ao21 t222.length co21 : Value).ownBlock) (.slice Ao21 t222.length co21) t222 1 t233 t234 w _ ?side1 ?side2 A32.out).mono ?_); (case side1 => exact (zl43_0 HB.out)); (case side2 => exact Kd.R_tight rfl HO_6.out); rintro e w50 ⟨rfl, hy0, hb, hkp⟩; refine ⟨_, rfl, ?_⟩; replace HO_4 := Aside0.mk (Kd.R_mono (ok' := fun k_ => some k_ ≠ (.slice Ao21 t222.length co21 : Value).ownBlock) (Kd.R_keptB (HO_4.out) hkp (fun k_ hk_ hs_ => (hk_) hs_)) (fun k_ hk_ => hk_.1)); replace HO_6 := Aside0.mk (Kd.R_reok rfl hy0 (fun k_ e_ => HO_6.out.1 k_ e_)); replace HB := Aside0.mk (hb); (try clear hb); (try clear hkp); (try clear hy0)) | ((with_reducible refine gate_callee (f := 12) rfl ?_); refine goesL_ (some 48) rfl rfl Try.func12 (by kernel_rfl) rfl #[.slice Ao21 t234.length co21, .int .i64 1] rfl (by (try simp only [List.map_toArray, List.map_cons, List.map_nil]); first | done | (rw [show t234.length = t222.length from (Kd.R_reads' HO_6.out).1.symm] <;> rfl) | rfl | (simp only [List.length_drop, List.length_take]; rfl)) ?_; (with_reducible refine (laws_heldPointS.calls kj13 _ _ t234 1 t235 _ ?side1 ?side2 A33.out).mono ?_); (case side1 => repeat (first | exact (Kd.R_reads' HO_6.out).2.2 | (with_reducible refine Kd.C_alloc ?_ _) | (with_reducible refine Kd.C_drewN ?_ _) | (with_reducible refine Kd.C_drew ?_))); (case side2 => rw [show t234.length = t222.length from (Kd.R_reads' HO_6.out).1.symm]; exact (Kd.R_reads' HO_6.out).2.1); rintro e w' ⟨rfl, ⟨nd, rfl⟩⟩; refine ⟨_, rfl, ?_⟩) | ((with_reducible refine gate_callee (f := 8) rfl ?_); refine zD (some 55) Try.func8 #[.slice A0 l0.length c0] ?_; (with_reducible refine (laws_toPointS.calls kj13 _ _ l0 t236 _ ?side1 ?side2 A37.out).mono ?_); (case side1 => repeat (first | exact (Kd.C_below HR0.out zB) | (with_reducible refine Kd.C_alloc ?_ _) | (with_reducible refine Kd.C_drewN ?_ _) | (with_reducible refine Kd.C_drew ?_))); (case side2 => exact HC0.out); rintro e w51 ⟨v237, rfl, ho0, hb⟩; refine ⟨_, rfl, ?_⟩; have HO238 := Aside0.mk (Kd.R_lower (Kd.R_new' (Kd.R_new' ho0 (Kd.R_lt (zR HO_4.out))) (Kd.R_lt (zR HO_6.out))) (below_size zB)); replace HO_4 := Aside0.mk (Kd.R_elder' (zR HO_4.out) (Kd.R_base ho0) hb); replace HO_6 := Aside0.mk (Kd.R_elder' (zR HO_6.out) (Kd.R_base ho0) hb); replace HB := zX hb; (try clear hb); (try clear ho0); obtain ⟨Ao52, co52, eo52⟩ := Kd.R_slice HO238.out; subst eo52) | ((with_reducible refine gate_callee (f := 9) rfl ?_); refine zD (some 56) Try.func9 #[.slice Ao52 t236.length co52] ?_; (with_reducible refine (impl_SortPoints.calls _ _ t236 t239 _ ?side1 ?side2 A38.out).mono ?_); (case side1 => repeat (first | exact (Kd.R_reads' HO238.out).2.2 | (with_reducible refine Kd.C_alloc ?_ _) | (with_reducible refine Kd.C_drewN ?_ _) | (with_reducible refine Kd.C_drew ?_))); (case side2 => exact (Kd.R_reads' HO238.out).2.1); rintro e w53 ⟨v240, rfl, ho0, hb⟩; refine ⟨_, rfl, ?_⟩; have HO241 := Aside0.mk (Kd.R_lower (Kd.R_new' (Kd.R_new' (Kd.R_new' ho0 (Kd.R_lt (zR HO_4.out))) (Kd.R_lt (zR HO_6.out))) (Kd.R_lt (zR HO238.out))) (below_size zB)); replace HO_4 := Aside0.mk (Kd.R_elder' (zR HO_4.out) (Kd.R_base ho0) hb); replace HO_6 := Aside0.mk (Kd.R_elder' (zR HO_6.out) (Kd.R_base ho0) hb); replace HO238 := Aside0.mk (Kd.R_elder' (zR HO238.out) (Kd.R_base ho0) hb); replace HB := zX hb; (try clear hb); (try clear ho0); obtain ⟨Ao54, co54, eo54⟩ := Kd.R_slice HO241.out; subst eo54) | ((with_reducible refine gate_callee (f := 10) rfl ?_); refine zD (some 59) Try.func10 #[.slice Ao54 t239.length co54, .slice Ao22 t216.length co22] ?_; (with_reducible refine (laws_eqPointS.calls kj13 _ _ t239 _ _ t216 true _ ?side1 ?side2 ?side3 ?side4 A39.out).mono ?_); (case side1 => repeat (first | exact (Kd.R_reads' HO241.out).2.2 | (with_reducible refine Kd.C_alloc ?_ _) | (with_reducible refine Kd.C_drewN ?_ _) | (with_reducible refine Kd.C_drew ?_))); (case side2 => exact (Kd.R_reads' HO241.out).2.1); (case side3 => repeat (first | exact (Kd.R_reads' HO_4.out).2.2 | (with_reducible refine Kd.C_alloc ?_ _) | (with_reducible refine Kd.C_drewN ?_ _) | (with_reducible refine Kd.C_drew ?_))); (case side4 => exact (Kd.R_reads' HO_4.out).2.1); rintro e w55 ⟨rfl, hb⟩; refine ⟨_, rfl, ?_⟩; replace HO_4 := zW HO_4.out hb; replace HO_6 := zW HO_6.out hb; replace HO238 := zW HO238.out hb; replace HO241 := zW HO241.out hb; replace HB := zX hb; (try clear hb)) | ((with_reducible refine gate_callee (f := 12) rfl ?_); refine goesL_ (some 63) rfl rfl Try.func12 (by kernel_rfl) rfl #[.slice Ao21 t234.length co21, .int .i64 1] rfl (by (try simp only [List.map_toArray, List.map_cons, List.map_nil]); first | done | (rw [show t234.length = t222.length from (Kd.R_reads' HO_6.out).1.symm] <;> rfl) | rfl | (simp only [List.length_drop, List.length_take]; rfl)) ?_; (with_reducible refine (laws_heldPointS.calls kj13 _ _ t234 1 t243 _ ?side1 ?side2 A41.out).mono ?_); (case side1 => repeat (first | exact (Kd.R_reads' HO_6.out).2.2 | (with_reducible refine Kd.C_alloc ?_ _) | (with_reducible refine Kd.C_drewN ?_ _) | (with_reducible refine Kd.C_drew ?_))); (case side2 => rw [show t234.length = t222.length from (Kd.R_reads' HO_6.out).1.symm]; exact (Kd.R_reads' HO_6.out).2.1); rintro e w' ⟨rfl, ⟨nd, rfl⟩⟩; refine ⟨_, rfl, ?_⟩))
      go_ret
      exact ⟨zE, zB⟩
     rw [if_neg c49] at H
     have c49b0 := beq_eq_false_iff_ne.mpr c49
     have c49b1 := bne_iff_ne.mpr c49
     obtain rfl := Option.some.inj H
     cases hr_
    replace c40 := Bool.eq_false_iff.mpr c40
    subst c40
    replace H := (if_neg zFf).symm.trans H
    obtain rfl := Option.some.inj H
    cases hr_
   rw [if_neg c36] at H
   have c36b0 := beq_eq_false_iff_ne.mpr c36
   have c36b1 := bne_iff_ne.mpr c36
   obtain rfl := Option.some.inj H
   cases hr_
  replace c12 := Bool.eq_false_iff.mpr c12
  subst c12
  replace H := (if_neg zFf).symm.trans H
  obtain rfl := Option.some.inj H
  cases hr_
 replace c9 := Bool.eq_false_iff.mpr c9
 subst c9
 replace H := (if_neg zFf).symm.trans H
 obtain rfl := Option.some.inj H
 cases hr_
end Go.Proofs.Ythhgcdfdjlijjaa.PX
namespace Go.Proofs.Ythhgcdfdjlijjaa.M
open Go.RowKit Go.Proofs.YthhgcdfdjlijjaaW.PrintWords
section
variable {α β : Type} {r : α} {r' : β}
theorem ev_pos {c : Prop} [Decidable c] {a b : Nat → Option α} (h : c) (k : Ev a r) : Ev (fun n => if c then a n else b n) r := Ev.congr (fun _ => if_pos h) k
theorem ev_neg {c : Prop} [Decidable c] {a b : Nat → Option α} (h : ¬ c) (k : Ev b r) : Ev (fun n => if c then a n else b n) r := Ev.congr (fun _ => if_neg h) k
theorem ev_call {x : Option α} {a : α} {f : Nat → α → Option β} (h : x = some a) (k : Ev (fun n => f n a) r') : Ev (fun n => x.bind (f n)) r' := Ev.congr (fun n => by rw [h]; rfl) k
theorem ev_cast {g : Nat → Option α} {a b : α} (h : Ev g a) (e : a = b) : Ev g b := e ▸ h
theorem ev_step {g : Nat → Option α} (k : Ev (fun n => g (n + 1)) r) : Ev g r := Ev.step (fun _ => rfl) k
end
theorem wrap_id {x : Int} (h0 : -9223372036854775808 ≤ x) (h1 : x ≤ 9223372036854775807) : wrap64 x = x := by unfold wrap64; omega
end Go.Proofs.Ythhgcdfdjlijjaa.M
namespace Go.Proofs.Ythhgcdfdjlijjaa.M
open Go.RowKit Go.Proofs.YthhgcdfdjlijjaaW.PrintWords Go.Proofs.Ythhgcdfdjlijjaa.PX
abbrev IP := S43
theorem rdIP {l : List IP} {i : Nat} (h : i < l.length) : rd_T43 l (i : Int) = l[i] := by
 unfold rd_T43
 rw [Int.toNat_natCast, List.getD_eq_getElem?_getD, List.getElem?_eq_getElem h]
 rfl
abbrev LP := S45
def toPt (p : LP) : IP := ⟨p.f0, p.f1⟩
theorem rdLP {l : List LP} {i : Nat} (h : i < l.length) : rd_T45 l (i : Int) = l[i] := by
 unfold rd_T45
 rw [Int.toNat_natCast, List.getD_eq_getElem?_getD, List.getElem?_eq_getElem h]
 rfl
theorem toPts_loop (l : List LP) (hl : l.length ≤ 10000000) (d : Nat) : ∀ i : Nat, i + d = l.length → Ev (fun k => laws_toPointS.l0 k l ((l.map toPt).take i ++ List.replicate d z43) (i : Int)) (l.map toPt) := by
 induction d with
 | zero =>
  intro i hi
  refine ev_step ?_
  simp only [laws_toPointS.l0]
  refine ev_neg (by omega) (ev_cast (Ev.now _) ?_)
  rw [List.replicate_zero, List.append_nil, List.take_of_length_le (by rw [List.length_map]; omega)]
 | succ d ih =>
  intro i hi
  have hlt : i < l.length := by omega
  have hl' : i < (l.map toPt).length := by rw [List.length_map]; omega
  refine ev_step ?_
  simp only [laws_toPointS.l0]
  refine ev_pos (by omega) (ev_pos (by omega) (ev_call rfl (ev_pos ?_ ?_)))
  ·rw [List.length_append, List.length_take, List.length_replicate, List.length_map]; omega
  ·rw [rdLP hlt, wrap_id (x := (i : Int) + 1) (by omega) (by omega)]
   have e : ((l.map toPt).take i ++ List.replicate (d + 1) z43).set (i : Int).toNat (⟨l[i].f0, l[i].f1⟩ : IP) = (l.map toPt).take (i + 1) ++ List.replicate d z43 := by
    rw [Int.toNat_natCast, List.set_append_right _ _ (by rw [List.length_take]; omega), List.length_take, List.length_map, show i - min i l.length = 0 by omega, List.replicate_succ, List.set_cons_zero, List.take_add_one, List.getElem?_eq_getElem hl', List.getElem_map, List.append_assoc]
    rfl
   have g := ih (i + 1) (by omega)
   rw [← e] at g
   exact g
theorem toPts_ev (l : List LP) (hl : l.length ≤ 10000000) : Ev (fun k => laws_toPointS.f k l) (l.map toPt) := by
 unfold laws_toPointS.f
 rw [Int.toNat_natCast]
 have := toPts_loop l hl l.length 0 (by omega)
 rw [List.take_zero, List.nil_append] at this
 exact ev_pos (by omega) (ev_pos (by omega) this)
theorem szPts (l : List LP) (m : Int) : ∃ r, laws_szPointS.f l m = some r := by
 unfold laws_szPointS.f
 split <;> exact ⟨_, rfl⟩
theorem szPts_le (l : List LP) (m r : Int) (hm : m ≤ 1048576) (h0 : 0 ≤ m) (hl : l.length ≤ 9223372036854775807) (h : laws_szPointS.f l m = some r) (hr : ¬ r < 0) : l.length ≤ 1048576 ∧ r ≤ 1048576 ∧ 0 ≤ r := by
 unfold laws_szPointS.f at h
 rw [wrap_id (by omega) (by omega)] at h
 split at h
 ·cases h; omega
 ·cases h; omega
theorem eqPts_loop (l : List IP) (hl : l.length ≤ 10000000) (d : Nat) : ∀ i : Nat, i + d = l.length → Ev (fun k => laws_eqPointS.l0 k l l (i : Int)) true := by
 induction d with
 | zero =>
  intro i hi
  refine ev_step ?_
  simp only [laws_eqPointS.l0]
  exact ev_neg (by omega) (Ev.now _)
 | succ d ih =>
  intro i hi
  refine ev_step ?_
  simp only [laws_eqPointS.l0]
  refine ev_pos (by omega) (ev_pos (by omega) (ev_pos (by omega) (ev_call (a := true) ?_ (ev_pos rfl ?_))))
  ·unfold laws_eqPoint.f
   rw [if_pos rfl, if_pos rfl]
  ·rw [wrap_id (by omega) (by omega)]
   exact ih (i + 1) (by omega)
theorem eqPts_self (l : List IP) (hl : l.length ≤ 10000000) : Ev (fun k => laws_eqPointS.f k l l) true := by
 unfold laws_eqPointS.f
 exact ev_pos rfl (eqPts_loop l hl l.length 0 (by omega))
end Go.Proofs.Ythhgcdfdjlijjaa.M
namespace Go.Proofs.Ythhgcdfdjlijjaa.M
open Go.RowKit Go.Proofs.YthhgcdfdjlijjaaW.PrintWords Go.Proofs.Ythhgcdfdjlijjaa.PX Go.Proofs.Ythhgcdfdjlijjaa.G
def marksP (n : Nat) : List IP := (List.range n).map fun (i : Nat) => (⟨((2 * i + 1 : Nat) : Int), ((2 * i + 2 : Nat) : Int)⟩ : IP)
theorem marksP_length (n : Nat) : (marksP n).length = n := by simp [marksP]
theorem marksP_succ (n : Nat) : marksP (n + 1) = marksP n ++ [(⟨((2 * n + 1 : Nat) : Int), ((2 * n + 2 : Nat) : Int)⟩ : IP)] := by simp [marksP, List.range_succ]
theorem set_mid {α : Type} (p : List α) (y v : α) (s : List α) : (p ++ y :: s).set p.length v = p ++ v :: s := by
 rw [List.set_append_right _ _ (Nat.le_refl _), Nat.sub_self, List.set_cons_zero]
theorem rd_mid (p : List IP) (y : IP) (s : List IP) : rd_T43 (p ++ y :: s) (p.length : Int) = y := by
 rw [rdIP (by rw [List.length_append, List.length_cons]; omega), List.getElem_append_right (Nat.le_refl _)]
 simp
theorem markP_loop (d : Nat) : ∀ (i : Nat) (suf : List IP), suf.length = d → i + d ≤ 10000000 → Ev (fun k => laws_markPointS.l0 k (marksP i ++ suf) ((2 * i + 1 : Nat) : Int) (i : Int)) (((2 * (i + d) + 1 : Nat) : Int), marksP (i + d)) := by
 induction d with
 | zero =>
  intro i suf hs hb
  obtain rfl : suf = [] := List.eq_nil_of_length_eq_zero hs
  refine ev_step ?_
  simp only [laws_markPointS.l0, List.length_append, marksP_length, List.length_nil]
  refine ev_neg (by omega) (ev_cast (Ev.now _) ?_)
  rw [List.append_nil]
  rfl
 | succ d ih =>
  intro i suf hs hb
  cases suf with
  | nil => cases hs
  | cons y ys =>
   rw [List.length_cons] at hs
   refine ev_step ?_
   simp only [laws_markPointS.l0, List.length_append, marksP_length, List.length_cons]
   refine ev_pos (by omega) (ev_pos (by omega) (ev_call rfl ?_))
   have hi : (i : Int).toNat = (marksP i).length := by rw [marksP_length]; rfl
   have hi' : (i : Int) = ((marksP i).length : Int) := by rw [marksP_length]
   rw [hi, set_mid, show rd_T43 (marksP i ++ (⟨((2 * i + 1 : Nat) : Int), (rd_T43 (marksP i ++ y :: ys) (i : Int)).f1⟩ : IP) :: ys) (i : Int) = (⟨((2 * i + 1 : Nat) : Int), (rd_T43 (marksP i ++ y :: ys) (i : Int)).f1⟩ : IP) from by
    have := rd_mid (marksP i) (⟨((2 * i + 1 : Nat) : Int), (rd_T43 (marksP i ++ y :: ys) (i : Int)).f1⟩ : IP) ys
    rw [← hi'] at this
    exact this, set_mid]
   rw [wrap_id (x := ((2 * i + 1 : Nat) : Int) + 1) (by omega) (by omega), wrap_id (x := ((2 * i + 1 : Nat) : Int) + 1 + 1) (by omega) (by omega), wrap_id (x := (i : Int) + 1) (by omega) (by omega)]
   have e : marksP i ++ (⟨((2 * i + 1 : Nat) : Int), ((2 * i + 1 : Nat) : Int) + 1⟩ : IP) :: ys = marksP (i + 1) ++ ys := by
    rw [marksP_succ, List.append_assoc]
    rfl
   rw [show i + (d + 1) = (i + 1) + d by omega, show ((2 * i + 1 : Nat) : Int) + 1 + 1 = ((2 * (i + 1) + 1 : Nat) : Int) by omega]
   have := ih (i + 1) ys (by omega) (by omega)
   rw [← e] at this
   exact this
theorem markP_ev (l : List IP) (hl : l.length ≤ 10000000) : Ev (fun k => laws_markPointS.f k l 1) (((2 * l.length + 1 : Nat) : Int), marksP l.length) := by
 unfold laws_markPointS.f
 have := markP_loop l.length 0 l rfl (by omega)
 exact ev_cast this (by rw [Nat.zero_add])
theorem heldP_loop (n : Nat) (hn : n ≤ 10000000) (d : Nat) : ∀ i : Nat, i + d = n → Ev (fun k => laws_heldPointS.l0 k (marksP n) ((2 * i + 1 : Nat) : Int) (i : Int)) ((2 * n + 1 : Nat) : Int) := by
 induction d with
 | zero =>
  intro i hi
  refine ev_step ?_
  simp only [laws_heldPointS.l0, marksP_length]
  refine ev_neg (by omega) (ev_cast (Ev.now _) ?_)
  omega
 | succ d ih =>
  intro i hi
  have e : rd_T43 (marksP n) (i : Int) = (⟨((2 * i + 1 : Nat) : Int), ((2 * i + 2 : Nat) : Int)⟩ : IP) := by
   rw [rdIP (by rw [marksP_length]; omega)]
   simp [marksP]
  refine ev_step ?_
  simp only [laws_heldPointS.l0, marksP_length, e]
  refine ev_pos (by omega) (ev_pos (by omega) (ev_pos (by first | rfl | trivial) ?_))
  rw [wrap_id (x := ((2 * i + 1 : Nat) : Int) + 1) (by omega) (by omega), wrap_id (x := ((2 * i + 1 : Nat) : Int) + 1 + 1) (by omega) (by omega), wrap_id (x := (i : Int) + 1) (by omega) (by omega)]
  refine ev_pos (by omega) ?_
  rw [show ((2 * i + 1 : Nat) : Int) + 1 + 1 = ((2 * (i + 1) + 1 : Nat) : Int) by omega]
  exact ih (i + 1) (by omega)
theorem heldP_ev (n : Nat) (hn : n ≤ 10000000) : Ev (fun k => laws_heldPointS.f k (marksP n) 1) ((2 * n + 1 : Nat) : Int) := by
 unfold laws_heldPointS.f
 exact heldP_loop n hn n 0 (by omega)
end Go.Proofs.Ythhgcdfdjlijjaa.M
namespace Go.Proofs.Ythhgcdfdjlijjaa.M
open Go.RowKit Go.Proofs.YthhgcdfdjlijjaaW.PrintWords
section
variable {σ τ ρ α β : Type}
def Goes (z : Except ρ σ) (K : σ → Nat → Option ρ) (g : Nat → Option ρ) : Prop :=
 match z with
 | .error v => Ev g v
 | .ok s => ∀ r, Ev (K s) r → Ev g r
variable {z : Except ρ σ} {K : σ → Nat → Option ρ}
theorem Goes.ok (s : σ) : Goes (.ok s) K (K s) := fun _ h => h
theorem Goes.error {g : Nat → Option ρ} {v : ρ} (h : Ev g v) : Goes (.error v) K g := h
theorem Goes.ret (v : ρ) : Goes (.error v) K (fun _ => some v) := Ev.now v
theorem Goes.map {g g' : Nat → Option ρ} (hg : ∀ r, Ev g' r → Ev g r) (h : Goes z K g') : Goes z K g := by
 cases z with
 | error v => exact hg _ h
 | ok s => exact fun r hr => hg _ (h r hr)
theorem Goes.step {g : Nat → Option ρ} (h : Goes z K (fun k => g (k + 1))) : Goes z K g := Goes.map (fun _ => ev_step) h
theorem Goes.pos {c : Prop} [Decidable c] {a b : Nat → Option ρ} (hc : c) (h : Goes z K a) : Goes z K (fun k => if c then a k else b k) := Goes.map (fun _ => ev_pos hc) h
theorem Goes.neg {c : Prop} [Decidable c] {a b : Nat → Option ρ} (hc : ¬ c) (h : Goes z K b) : Goes z K (fun k => if c then a k else b k) := Goes.map (fun _ => ev_neg hc) h
theorem Goes.call {x : Option α} {a : α} {f : Nat → α → Option ρ} (hx : x = some a) (h : Goes z K (fun k => f k a)) : Goes z K (fun k => x.bind (f k)) := Goes.map (fun _ => ev_call hx) h
theorem Goes.bind {y : Except ρ τ} {f : τ → Except ρ σ} {K' : τ → Nat → Option ρ} {g : Nat → Option ρ} (h : Goes y K' g) (h' : ∀ s, Goes (f s) K (K' s)) : Goes (y >>= f) K g := by
 cases y with
 | error v => exact h
 | ok s => exact Goes.map (h ·) (h' s)
theorem Goes.cast {z' : Except ρ σ} {g : Nat → Option ρ} (h : Goes z K g) (e : z = z') : Goes z' K g := e ▸ h
theorem Goes.out {g : Nat → Option ρ} {r : ρ} (h : Goes z K g) (he : ∀ v, z = .error v → v = r) (ho : ∀ s, z = .ok s → Ev (K s) r) : Ev g r := by
 cases z with
 | error v => exact he v rfl ▸ h
 | ok s => exact h r (ho s rfl)
theorem loop_up {lo n : Nat} {L : Int → σ → Nat → Option ρ} (dec : σ → Nat → Except ρ σ) (hf : ∀ s, Goes (.ok s) K (L (n : Int) s))
  (hb : ∀ i, lo ≤ i → i < n → ∀ s, Goes (dec s i) (fun s => L ((i + 1 : Nat) : Int) s) (L (i : Int) s)) (hlo : lo ≤ n) (s : σ) : Goes ((List.range' lo (n - lo)).foldlM dec s) K (L (lo : Int) s) := by
 have key : ∀ d i, lo ≤ i → i + d = n → ∀ s, Goes ((List.range' i d).foldlM dec s) K (L (i : Int) s) := by
  intro d
  induction d with
  | zero =>
   intro i _ hi s
   obtain rfl : i = n := by omega
   exact hf s
  | succ d ih =>
   intro i hl hi s
   rw [List.range'_succ, List.foldlM_cons]
   exact Goes.bind (hb i hl (by omega) s) (fun s => ih (i + 1) (by omega) (by omega) s)
 exact key (n - lo) lo (Nat.le_refl _) (by omega) s
theorem loop_up' {lo n : Nat} {L : Int → σ → Nat → Option ρ} (I : Nat → σ → Prop) (dec : σ → Nat → Except ρ σ) (hf : ∀ s, I n s → Goes (.ok s) K (L (n : Int) s))
  (hb : ∀ i, lo ≤ i → i < n → ∀ s, I i s → Goes (dec s i) (fun s => L ((i + 1 : Nat) : Int) s) (L (i : Int) s)) (hi : ∀ i, lo ≤ i → i < n → ∀ s, I i s → ∀ s', dec s i = .ok s' → I (i + 1) s') (hlo : lo ≤ n) (s : σ) (hs : I lo s) :
  Goes ((List.range' lo (n - lo)).foldlM dec s) K (L (lo : Int) s) := by
 have key : ∀ d i, lo ≤ i → i + d = n → ∀ s, I i s → Goes ((List.range' i d).foldlM dec s) K (L (i : Int) s) := by
  intro d
  induction d with
  | zero =>
   intro i _ hid s hs
   obtain rfl : i = n := by omega
   exact hf s hs
  | succ d ih =>
   intro i hl hid s hs
   rw [List.range'_succ, List.foldlM_cons]
   have h := hb i hl (by omega) s hs
   have h' := hi i hl (by omega) s hs
   cases hd : dec s i with
   | error v => rw [hd] at h; exact h
   | ok s' =>
    rw [hd] at h
    exact Goes.map (h ·) (ih (i + 1) (by omega) (by omega) s' (h' s' hd))
 exact key (n - lo) lo (Nat.le_refl _) (by omega) s hs
theorem foldlM_find (c : α → Bool) (v : α → ρ) (l : List α) : l.foldlM (fun (_ : Unit) a => if c a then (.error (v a) : Except ρ Unit) else .ok ()) () = match l.find? c with | some a => .error (v a) | none => .ok () := by
 induction l with
 | nil => rfl
 | cons x l ih =>
  rw [List.foldlM_cons, List.find?_cons]
  cases hx : c x with
  | true => rfl
  | false => exact ih
theorem foldlM_any (c : α → Bool) (v : ρ) (l : List α) : l.foldlM (fun (_ : Unit) a => if c a then (.error v : Except ρ Unit) else .ok ()) () = if l.any c then .error v else .ok () := by
 rw [foldlM_find c (fun _ => v) l]
 cases h : l.find? c with
 | none =>
  have : l.any c = false := by simpa using h
  rw [this]; rfl
 | some a =>
  have : l.any c = true := List.any_eq_true.2 ⟨a, List.mem_of_find?_eq_some h, List.find?_some h⟩
  rw [this]; rfl
end
theorem foldlM_index {σ ρ α : Type} (d : α) (f : σ → α → Except ρ σ) (l : List α) (s : σ) : (List.range' 0 (l.length - 0)).foldlM (fun s i => f s (l.getD i d)) s = l.foldlM f s := by
 have key : ∀ (l' pre : List α) (s : σ), pre ++ l' = l → (List.range' pre.length l'.length).foldlM (fun s i => f s (l.getD i d)) s = l'.foldlM f s := by
  intro l'
  induction l' with
  | nil => intro pre s _; rfl
  | cons x l' ih =>
   intro pre s h
   have hx : l.getD pre.length d = x := by
    rw [← h, List.getD_eq_getElem?_getD, List.getElem?_append_right (Nat.le_refl _), Nat.sub_self]
    rfl
   rw [List.length_cons, List.range'_succ, List.foldlM_cons, List.foldlM_cons, hx]
   congr 1
   funext s
   have := ih (pre ++ [x]) s (by rw [← h, List.append_assoc]; rfl)
   rw [List.length_append] at this
   exact this
 rw [Nat.sub_zero]
 exact key l [] s rfl
def upFrom (n a : Nat) : List Nat := List.range' (a + 1) (n - (a + 1))
def tripsL (n : Nat) : List (Nat × Nat × Nat) := (List.range' 0 n).flatMap fun a => (upFrom n a).flatMap fun b => (upFrom n b).map fun c => (a, b, c)
theorem mem_upFrom {n a b : Nat} (h : b ∈ upFrom n a) : a < b ∧ b < n := by
 simp only [upFrom, List.mem_range'_1] at h
 omega
theorem mem_trips {n a b c : Nat} (h : (a, b, c) ∈ tripsL n) : a < b ∧ b < c ∧ c < n := by
 simp only [tripsL, List.mem_flatMap, List.mem_map, Prod.mk.injEq] at h
 obtain ⟨x, _, y, hy, z, hz, rfl, rfl, rfl⟩ := h
 have := mem_upFrom hy
 have := mem_upFrom hz
 omega
theorem trips_mem {n a b c : Nat} (h1 : a < b) (h2 : b < c) (h3 : c < n) : (a, b, c) ∈ tripsL n := by
 simp only [tripsL, List.mem_flatMap, List.mem_map, Prod.mk.injEq, upFrom, List.mem_range'_1]
 exact ⟨a, by omega, b, by omega, c, by omega, rfl, rfl, rfl⟩
section
variable {σ ρ : Type} {n : Nat} {K : σ → Nat → Option ρ}
end
end Go.Proofs.Ythhgcdfdjlijjaa.M
namespace Go.Proofs.Ythhgcdfdjlijjaa.M
open Go.RowKit Go.Proofs.YthhgcdfdjlijjaaW.PrintWords Go.Proofs.Ythhgcdfdjlijjaa.PX
def tripN (n : Nat) : List S59 := (List.range n).flatMap fun (i : Nat) => (List.range n).flatMap fun (j : Nat) => (List.range n).flatMap fun (k : Nat) => if i < j ∧ j < k then [(⟨(i : Int), (j : Int), (k : Int)⟩ : S59)] else []
theorem triples_closed : (impl_triplesOf.f 200 3 = some (tripN 3) ∧ impl_triplesOf.f 200 4 = some (tripN 4) ∧ impl_triplesOf.f 200 5 = some (tripN 5)) ∧ impl_triplesOf.f 200 6 = some (tripN 6) ∧ impl_triplesOf.f 200 7 = some (tripN 7) := by
 refine ⟨⟨?_, ?_, ?_⟩, ?_, ?_⟩ <;> kernel_rfl
theorem five {n : Nat} (h0 : 3 ≤ n) (h1 : n ≤ 7) {p : Nat → Prop} (a : p 3) (b : p 4) (c : p 5) (d : p 6) (e : p 7) : p n := by
 have : n = 3 ∨ n = 4 ∨ n = 5 ∨ n = 6 ∨ n = 7 := by omega
 rcases this with rfl | rfl | rfl | rfl | rfl <;> assumption
theorem triples_ev {n : Nat} (h0 : 3 ≤ n) (h1 : n ≤ 7) : Ev (fun k => impl_triplesOf.f k (n : Int)) (tripN n) := by
 obtain ⟨⟨h3, h4, h5⟩, h6, h7⟩ := triples_closed
 refine five (p := fun n => Ev (fun k => impl_triplesOf.f k (n : Int)) (tripN n)) h0 h1 ?_ ?_ ?_ ?_ ?_
 ·exact Ev.of (impl_triplesOf.mono 3) h3
 ·exact Ev.of (impl_triplesOf.mono 4) h4
 ·exact Ev.of (impl_triplesOf.mono 5) h5
 ·exact Ev.of (impl_triplesOf.mono 6) h6
 ·exact Ev.of (impl_triplesOf.mono 7) h7
theorem tripN_L {n : Nat} (h0 : 3 ≤ n) (h1 : n ≤ 7) : tripN n = (tripsL n).map fun q => ⟨(q.1 : Int), (q.2.1 : Int), (q.2.2 : Int)⟩ := by
 refine five (p := fun n => tripN n = (tripsL n).map fun q => ⟨(q.1 : Int), (q.2.1 : Int), (q.2.2 : Int)⟩) h0 h1 ?_ ?_ ?_ ?_ ?_ <;> kernel_rfl
theorem trips_small : ∀ n, n ≤ 7 → (tripsL n).length ≤ 35 := by decide +kernel
theorem trip_len {n : Nat} (h0 : 3 ≤ n) (h1 : n ≤ 7) : (tripN n).length ≤ 35 := by
 rw [tripN_L h0 h1, List.length_map]
 exact trips_small n h1
theorem rd_trip {ts : List S59} {i : Nat} (h : i < ts.length) : rd_T59 ts (i : Int) = ts[i] := by
 unfold rd_T59
 rw [Int.toNat_natCast, List.getD_eq_getElem?_getD, List.getElem?_eq_getElem h]
 rfl
theorem trip_pos {n p : Nat} (h0 : 3 ≤ n) (h1 : n ≤ 7) (hp : p < (tripN n).length) : ∃ a b c : Nat, (tripN n)[p] = ⟨(a : Int), (b : Int), (c : Int)⟩ ∧ a < b ∧ b < c ∧ c < n := by
 have e := tripN_L h0 h1
 have hm : (tripN n)[p] ∈ (tripsL n).map fun q => (⟨(q.1 : Int), (q.2.1 : Int), (q.2.2 : Int)⟩ : S59) := by rw [← e]; exact List.getElem_mem _
 obtain ⟨⟨a, b, c⟩, hq, he⟩ := List.mem_map.1 hm
 obtain ⟨h2, h3, h4⟩ := mem_trips hq
 exact ⟨a, b, c, he.symm, h2, h3, h4⟩
end Go.Proofs.Ythhgcdfdjlijjaa.M
namespace Go.Proofs.Ythhgcdfdjlijjaa.M
open Go.RowKit Go.Proofs.YthhgcdfdjlijjaaW.PrintWords Go.Proofs.Ythhgcdfdjlijjaa.PX Go.Proofs.Ythhgcdfdjlijjaa.G
def nearP (most : Int) (p : IP) : Bool := (decide (-most ≤ p.f0) && decide (p.f0 ≤ most)) && (decide (-most ≤ p.f1) && decide (p.f1 ≤ most))
def areaP (a b c : IP) : Int := (b.f0 - a.f0) * (c.f1 - a.f1) - (b.f1 - a.f1) * (c.f0 - a.f0)
def sgnI (x : Int) : Int := if x < 0 then -1 else if x > 0 then 1 else 0
theorem nearP_iff {most : Int} {p : IP} : nearP most p = true ↔ (-most ≤ p.f0 ∧ p.f0 ≤ most) ∧ (-most ≤ p.f1 ∧ p.f1 ≤ most) := by
 unfold nearP
 simp only [Bool.and_eq_true, decide_eq_true_eq]
theorem nearIdx_any (most : Int) (l : List IP) : ∀ (d i : Nat), i + d = l.length → decide (0 ≤ nearIdx most l d (i : Int)) = (l.drop i).any fun p => farQ p.f0 most || farQ p.f1 most := by
 intro d
 induction d with
 | zero =>
  intro i hi
  rw [List.drop_of_length_le (by omega)]
  rfl
 | succ d ih =>
  intro i hi
  rw [nearIdx, List.drop_eq_getElem_cons (by omega), List.any_cons, rdIP (by omega)]
  cases g : (farQ (l[i]'(by omega)).f0 most || farQ (l[i]'(by omega)).f1 most) with
  | true =>
   rw [if_pos rfl, Bool.true_or]
   exact decide_eq_true (by omega)
  | false =>
   rw [if_neg (by decide), Bool.false_or]
   exact ih (i + 1) (by omega)
theorem impl_near (most : Int) (h0 : 0 ≤ most) (h1 : most ≤ 1000000) (l : List IP) : impl_areNear.f most l = some (l.all (nearP most)) := by
 unfold impl_areNear.f
 have h := nearIdx_any most l l.length 0 (by omega)
 rw [List.drop_zero] at h
 have h' : decide (0 ≤ nearIdx most l l.length 0) = l.any fun p => farQ p.f0 most || farQ p.f1 most := h
 rw [h', List.not_any_eq_all_not]
 congr 2
 funext p
 unfold farQ nearP
 rw [wrap_id (by omega) (by omega), Bool.eq_iff_iff]
 simp
theorem spec_fits (p : IP) (most : Int) (h0 : 0 ≤ most) (h1 : most ≤ 1000000) : spec_l2Fits.f p.f0 p.f1 most = some (nearP most p) := by
 have one : ∀ x : Int, spec_l1In.f x (-most) most = some (decide (-most ≤ x) && decide (x ≤ most)) := by
  intro x
  unfold spec_l1In.f
  by_cases h : x ≥ -most
  ·rw [if_pos h, decide_eq_true (show -most ≤ x from h), Bool.true_and]
  ·rw [if_neg h, decide_eq_false (show ¬ -most ≤ x from h), Bool.false_and]
 unfold spec_l2Fits.f nearP
 rw [wrap_id (by omega) (by omega), one, one]
 cases decide (-most ≤ p.f0) && decide (p.f0 ≤ most) <;> rfl
theorem mul_bd {x y : Int} (h1 : -2000 ≤ x) (h2 : x ≤ 2000) (h3 : -2000 ≤ y) (h4 : y ≤ 2000) : -4000000 ≤ x * y ∧ x * y ≤ 4000000 := by
 have h := Int.natAbs_mul x y
 have h' : x.natAbs * y.natAbs ≤ 2000 * 2000 := Nat.mul_le_mul (by omega) (by omega)
 omega
theorem area_ok {a b c : IP} (ha : nearP 1000 a = true) (hb : nearP 1000 b = true) (hc : nearP 1000 c = true) :
  wrap64 ((wrap64 ((wrap64 (b.f0 - a.f0)) * (wrap64 (c.f1 - a.f1)))) - (wrap64 ((wrap64 (b.f1 - a.f1)) * (wrap64 (c.f0 - a.f0))))) = areaP a b c ∧ -8000000 ≤ areaP a b c ∧ areaP a b c ≤ 8000000 := by
 obtain ⟨⟨a1, a2⟩, a3, a4⟩ := nearP_iff.1 ha
 obtain ⟨⟨b1, b2⟩, b3, b4⟩ := nearP_iff.1 hb
 obtain ⟨⟨c1, c2⟩, c3, c4⟩ := nearP_iff.1 hc
 have m1 := mul_bd (x := b.f0 - a.f0) (y := c.f1 - a.f1) (by omega) (by omega) (by omega) (by omega)
 have m2 := mul_bd (x := b.f1 - a.f1) (y := c.f0 - a.f0) (by omega) (by omega) (by omega) (by omega)
 rw [wrap_id (x := b.f0 - a.f0) (by omega) (by omega), wrap_id (x := c.f1 - a.f1) (by omega) (by omega), wrap_id (x := b.f1 - a.f1) (by omega) (by omega), wrap_id (x := c.f0 - a.f0) (by omega) (by omega)]
 rw [wrap_id (x := (b.f0 - a.f0) * (c.f1 - a.f1)) (by omega) (by omega), wrap_id (x := (b.f1 - a.f1) * (c.f0 - a.f0)) (by omega) (by omega)]
 unfold areaP
 exact ⟨wrap_id (by omega) (by omega), by omega, by omega⟩
def near3 (a b c : IP) : Bool := nearP 1000 a && (nearP 1000 b && nearP 1000 c)
theorem near3_iff {a b c : IP} : near3 a b c = true ↔ nearP 1000 a = true ∧ nearP 1000 b = true ∧ nearP 1000 c = true := by
 unfold near3
 simp only [Bool.and_eq_true]
theorem spec_area {a b c : IP} (h : near3 a b c = true) : spec_l2Area.f a.f0 a.f1 b.f0 b.f1 c.f0 c.f1 = some (areaP a b c) := by
 obtain ⟨ha, hb, hc⟩ := near3_iff.1 h
 unfold spec_l2Area.f
 rw [(area_ok ha hb hc).1]
theorem impl_area {a b c : IP} (h : near3 a b c = true) : impl_area.f a.f0 a.f1 b.f0 b.f1 c.f0 c.f1 = some (areaP a b c) := by
 obtain ⟨ha, hb, hc⟩ := near3_iff.1 h
 unfold impl_area.f
 rw [(area_ok ha hb hc).1]
theorem sign_of (x : Int) : impl_signOf.f x = some (sgnI x) := by
 unfold impl_signOf.f cmp_Compare_int.f cmp_isNaN_int.f sgnI
 by_cases h : x < 0
 ·simp [h]
 ·by_cases h' : x > 0 <;> simp [h, h']
def turnP (a b c : IP) : Int := if near3 a b c = true then sgnI (areaP a b c) else 0
theorem near_3 (a b c : IP) : impl_areNear.f 1000 [a, b, c] = some (near3 a b c) := by
 rw [impl_near 1000 (by decide) (by decide)]
 simp [near3]
theorem impl_turn (a b c : IP) : impl_TurnOf.f a.f0 a.f1 b.f0 b.f1 c.f0 c.f1 = some (turnP a b c) := by
 unfold impl_TurnOf.f turnP
 have e : ([(⟨a.f0, a.f1⟩ : IP), (⟨b.f0, b.f1⟩ : IP), (⟨c.f0, c.f1⟩ : IP)] : List IP) = [a, b, c] := rfl
 rw [e, near_3]
 by_cases h : near3 a b c = true
 ·simp only [Option.bind_some, h, if_true]
  rw [impl_area h]
  simp only [Option.bind_some]
  rw [sign_of]
  rfl
 ·simp [h]
def pt (l : List IP) (i : Nat) : IP := rd_T43 l (i : Int)
theorem pt_eq {l : List IP} {i : Nat} (h : i < l.length) : pt l i = l[i] := rdIP h
def flatQ (l : List IP) (q : Nat × Nat × Nat) : Bool := decide (areaP (pt l q.1) (pt l q.2.1) (pt l q.2.2) = 0)
def arePts (l : List IP) : Bool := (decide (3 ≤ l.length) && decide (l.length ≤ 7)) && (l.all (nearP 50) && !((tripsL l.length).any (flatQ l)))
theorem near_wide {p : IP} (h : nearP 50 p = true) : nearP 1000 p = true := by
 rw [nearP_iff] at h ⊢
 omega
theorem arePts_iff {l : List IP} : arePts l = true ↔ (3 ≤ l.length ∧ l.length ≤ 7) ∧ (∀ p ∈ l, nearP 50 p = true) ∧ ∀ a b c, a < b → b < c → c < l.length → areaP (pt l a) (pt l b) (pt l c) ≠ 0 := by
 unfold arePts
 simp only [Bool.and_eq_true, decide_eq_true_eq, List.all_eq_true, Bool.not_eq_true', List.any_eq_false, flatQ]
 constructor
 ·rintro ⟨h1, h2, h3⟩
  exact ⟨h1, h2, fun a b c hab hbc hc => h3 (a, b, c) (trips_mem hab hbc hc)⟩
 ·rintro ⟨h1, h2, h3⟩
  exact ⟨h1, h2, fun ⟨a, b, c⟩ hq => h3 a b c (mem_trips hq).1 (mem_trips hq).2.1 (mem_trips hq).2.2⟩
theorem pts_near3 {l : List IP} (h : l.all (nearP 50) = true) {a b c : Nat} (ha : a < l.length) (hb : b < l.length) (hc : c < l.length) : near3 (pt l a) (pt l b) (pt l c) = true := by
 have key : ∀ {i : Nat}, i < l.length → nearP 1000 (pt l i) = true := fun {i} hi => by
  rw [pt_eq hi]
  exact near_wide (List.all_eq_true.1 h _ (List.getElem_mem hi))
 exact near3_iff.2 ⟨key ha, key hb, key hc⟩
theorem spec_inPts (x lo hi : Int) : spec_l1In.f x lo hi = some (decide (lo ≤ x) && decide (x ≤ hi)) := by
 unfold spec_l1In.f
 by_cases h : x ≥ lo
 ·rw [if_pos h, decide_eq_true (show lo ≤ x from h), Bool.true_and]
 ·rw [if_neg h, decide_eq_false (show ¬ lo ≤ x from h), Bool.false_and]
def offPts (l : List IP) (k : Nat) : Bool := !nearP 50 (pt l k) || (List.range' 0 (k - 0)).any fun j => (List.range' 0 (j - 0)).any fun i => flatQ l (i, j, k)
theorem offPts_any (l : List IP) : (!((List.range' 0 (l.length - 0)).any (offPts l))) = (l.all (nearP 50) && !((tripsL l.length).any (flatQ l))) := by
 rw [Bool.eq_iff_iff]
 simp only [Bool.not_eq_true', List.any_eq_false, Bool.and_eq_true, List.all_eq_true, offPts, Bool.or_eq_true, not_or, Bool.not_eq_false, List.any_eq_true, not_exists, not_and, List.mem_range'_1]
 constructor
 ·intro h
  refine ⟨fun p hp => ?_, fun ⟨a, b, c⟩ hq => ?_⟩
  ·obtain ⟨i, hi, rfl⟩ := List.getElem_of_mem hp
   have := (h i (by omega)).1
   rw [pt_eq hi] at this
   simpa using this
  ·obtain ⟨h1, h2, h3⟩ := mem_trips hq
   exact (h c (by omega)).2 b (by omega) a (by omega)
 ·rintro ⟨h1, h2⟩ k hk
  refine ⟨?_, fun j hj i hi => h2 (i, j, k) (trips_mem (by omega) (by omega) (by omega))⟩
  rw [pt_eq (show k < l.length by omega)]
  simpa using h1 _ (List.getElem_mem _)
theorem spec_arePts (l : List IP) (hl : l.length ≤ 10000000) : Ev (fun q => spec_ArePoints.f q l) (arePts l) := by
 unfold spec_ArePoints.f
 refine ev_call (spec_inPts _ _ _) ?_
 by_cases hn : 3 ≤ l.length ∧ l.length ≤ 7
 ·refine ev_pos (by simp; omega) (ev_cast ?_ (show (!((List.range' 0 (l.length - 0)).any (offPts l))) = arePts l from ?_))
  ·have key := loop_up' (σ := Unit) (ρ := Bool) (lo := 0) (n := l.length) (K := fun _ _ => some true) (L := fun x _ q => spec_ArePoints.l0 q l x) (fun k _ => ∀ i, i < k → nearP 50 (pt l i) = true) (fun _ k => if offPts l k then .error false else .ok ()) (fun u _ => ?_) (fun k _ hk u hI => ?_) (fun k _ hk u hI u' e => ?_) (by omega) () (fun i hi => absurd hi (Nat.not_lt_zero _))
   ·rw [foldlM_any (offPts l)] at key
    cases hq : (List.range' 0 (l.length - 0)).any (offPts l) with
    | true => rw [hq] at key; exact key
    | false => rw [hq] at key; exact key _ (Ev.now _)
   ·refine Goes.step ?_
    simp only [spec_ArePoints.l0]
    exact Goes.neg (by omega) (Goes.ok (K := fun _ _ => some true) u)
   ·refine Goes.step ?_
    simp only [spec_ArePoints.l0]
    refine Goes.pos (by omega) (Goes.pos (by omega) (Goes.call (spec_fits (pt l k) 50 (by decide) (by decide)) ?_))
    cases hf : nearP 50 (pt l k) with
    | false => exact Goes.neg (by decide) (Goes.cast (Goes.ret _) (by simp [offPts, hf]))
    | true =>
     refine Goes.pos rfl ?_
     have one := loop_up (σ := Unit) (ρ := Bool) (lo := 0) (n := k) (K := fun _ q => spec_ArePoints.l0 q l ((k + 1 : Nat) : Int)) (L := fun x _ q => spec_ArePoints.l1 q l (k : Int) x) (fun _ j => if (List.range' 0 (j - 0)).any (fun i => flatQ l (i, j, k)) then .error false else .ok ()) (fun u => ?_) (fun j _ hj u => ?_) (by omega) ()
     ·rw [foldlM_any (fun j => (List.range' 0 (j - 0)).any fun i => flatQ l (i, j, k))] at one
      refine one.cast ?_
      simp [offPts, hf]
     ·refine Goes.step ?_
      simp only [spec_ArePoints.l1]
      rw [wrap_id (by omega) (by omega)]
      exact Goes.neg (by omega) (Goes.ok (K := fun (_ : Unit) q => spec_ArePoints.l0 q l ((k + 1 : Nat) : Int)) u)
     ·refine Goes.step ?_
      simp only [spec_ArePoints.l1]
      refine Goes.pos (by omega) ?_
      have two := loop_up (σ := Unit) (ρ := Bool) (lo := 0) (n := j) (K := fun _ q => spec_ArePoints.l1 q l (k : Int) ((j + 1 : Nat) : Int)) (L := fun x _ q => spec_ArePoints.l2 q l (k : Int) (j : Int) x) (fun _ i => if flatQ l (i, j, k) then .error false else .ok ()) (fun u => ?_) (fun i _ hi u => ?_) (by omega) ()
      ·rw [foldlM_any (fun i => flatQ l (i, j, k))] at two
       exact two
      ·refine Goes.step ?_
       simp only [spec_ArePoints.l2]
       rw [wrap_id (by omega) (by omega)]
       exact Goes.neg (by omega) (Goes.ok (K := fun (_ : Unit) q => spec_ArePoints.l1 q l (k : Int) ((j + 1 : Nat) : Int)) u)
      ·refine Goes.step ?_
       simp only [spec_ArePoints.l2]
       rw [wrap_id (x := (i : Int) + 1) (by omega) (by omega)]
       refine Goes.pos (by omega) (Goes.pos (by omega) (Goes.pos (by omega) (Goes.pos (by omega) (Goes.pos (by omega) (Goes.pos (by omega) (Goes.pos (by omega) ?_))))))
       have nn : ∀ x, x ≤ k → nearP 1000 (pt l x) = true := fun x hx => by
        by_cases e : x = k
        ·subst e; exact near_wide hf
        ·exact near_wide (hI x (by omega))
       refine Goes.call (spec_area (a := pt l i) (b := pt l j) (c := pt l k) (near3_iff.2 ⟨nn i (by omega), nn j (by omega), nn k (by omega)⟩)) ?_
       by_cases g : areaP (pt l i) (pt l j) (pt l k) = 0
       ·exact Goes.pos g (Goes.cast (Goes.ret _) (by simp [flatQ, g]))
       ·exact Goes.neg g (Goes.cast (Goes.ok (K := fun (_ : Unit) q => spec_ArePoints.l2 q l (k : Int) (j : Int) ((i + 1 : Nat) : Int)) u) (by simp [flatQ, g]))
   ·intro i hi
    by_cases ei : i = k
    ·subst ei
     cases hf : nearP 50 (pt l i) with
     | true => rfl
     | false => simp [offPts, hf] at e
    ·exact hI i (by omega)
  ·unfold arePts
   rw [offPts_any]
   simp [hn.1, hn.2]
 ·refine ev_neg (by simp; omega) (ev_cast (Ev.now _) ?_)
  unfold arePts
  have : (decide (3 ≤ l.length) && decide (l.length ≤ 7)) = false := by simp; omega
  rw [this]
  rfl
theorem impl_arePts (l : List IP) (hl : l.length ≤ 10000000) : Ev (fun q => impl_ArePoints.f q l) (arePts l) := by
 unfold impl_ArePoints.f
 have no : (decide (3 ≤ l.length) && decide (l.length ≤ 7)) = false → Ev (fun q => impl_ArePoints.j0 q l true) (arePts l) := fun h => by
  refine ev_step ?_
  simp only [impl_ArePoints.j0]
  refine ev_pos (by trivial) (ev_cast (Ev.now _) ?_)
  unfold arePts
  rw [h]
  rfl
 by_cases h3 : (l.length : Int) < 3
 ·exact ev_pos h3 (no (by simp; omega))
 refine ev_neg h3 ?_
 by_cases h7 : (l.length : Int) > 7
 ·exact ev_pos h7 (no (by simp; omega))
 refine ev_neg h7 (ev_call (impl_near 50 (by decide) (by decide) l) (ev_step ?_))
 simp only [impl_ArePoints.j0]
 have e0 : (decide (3 ≤ l.length) && decide (l.length ≤ 7)) = true := by simp; omega
 unfold arePts
 rw [e0, Bool.true_and]
 cases hn : l.all (nearP 50) with
 | false => exact ev_pos (by trivial) (Ev.now _)
 | true =>
  refine ev_neg (by decide) (Ev.bind (triples_ev (n := l.length) (by omega) (by omega)) ?_)
  rw [Bool.true_and]
  have eT := tripN_L (n := l.length) (by omega) (by omega)
  have lT := trip_len (n := l.length) (by omega) (by omega)
  have el : (tripN l.length).length = (tripsL l.length).length := by rw [eT, List.length_map]
  have key := loop_up (σ := Unit) (ρ := Bool) (lo := 0) (n := (tripN l.length).length) (K := fun _ _ => some true) (L := fun x _ q => impl_ArePoints.l0 q l (tripN l.length) ((tripN l.length).length : Int) x)
   (fun _ i => if flatQ l ((tripsL l.length).getD i (0, 0, 0)) then .error false else .ok ()) (fun u => ?_) (fun i _ hi u => ?_) (by omega) ()
  ·rw [el, foldlM_index (0, 0, 0) (fun (_ : Unit) q => if flatQ l q then (.error false : Except Bool Unit) else .ok ()), foldlM_any (flatQ l)] at key
   rw [el]
   cases hq : (tripsL l.length).any (flatQ l) with
   | true => rw [hq] at key; exact key
   | false => rw [hq] at key; exact key _ (Ev.now _)
  ·refine Goes.step ?_
   simp only [impl_ArePoints.l0]
   exact Goes.neg (by omega) (Goes.ok (K := fun _ _ => some true) u)
  ·obtain ⟨a, b, c, e, hab, hbc, hc⟩ := trip_pos (n := l.length) (by omega) (by omega) hi
   have eq : (tripsL l.length).getD i (0, 0, 0) = (a, b, c) := by
    have hi' : i < (tripsL l.length).length := by omega
    rw [List.getD_eq_getElem?_getD, List.getElem?_eq_getElem hi']
    simp only [eT, List.getElem_map] at e
    show (tripsL l.length)[i] = _
    generalize (tripsL l.length)[i] = z at e
    obtain ⟨x, y, w⟩ := z
    simp only at e
    injection e with e1 e2 e3
    rw [Int.ofNat_inj.1 e1, Int.ofNat_inj.1 e2, Int.ofNat_inj.1 e3]
   refine Goes.step ?_
   simp only [impl_ArePoints.l0, rd_trip hi, e]
   refine Goes.pos (by omega) (Goes.pos (by omega) (Goes.pos (by omega) (Goes.pos (by omega) (Goes.pos (by omega) (Goes.pos (by omega) (Goes.pos (by omega) (Goes.pos (by omega) (Goes.pos (by omega) (Goes.call (impl_turn (pt l a) (pt l b) (pt l c)) ?_)))))))))
   have n3 := pts_near3 hn (show a < l.length by omega) (show b < l.length by omega) hc
   have et : turnP (pt l a) (pt l b) (pt l c) = sgnI (areaP (pt l a) (pt l b) (pt l c)) := if_pos n3
   rw [et, eq, wrap_id (by omega) (by omega)]
   by_cases g : areaP (pt l a) (pt l b) (pt l c) = 0
   ·exact Goes.pos (by rw [g]; rfl) (Goes.cast (Goes.ret _) (by simp [flatQ, g]))
   ·refine Goes.neg ?_ (Goes.cast (Goes.ok (K := fun (_ : Unit) q => impl_ArePoints.l0 q l (tripN l.length) ((tripN l.length).length : Int) ((i + 1 : Nat) : Int)) u) (by simp [flatQ, g]))
    unfold sgnI
    split
    ·decide
    ·rw [if_pos (by omega)]; decide
end Go.Proofs.Ythhgcdfdjlijjaa.M
namespace Go.Proofs.Ythhgcdfdjlijjaa.M
open Go.RowKit Go.Sort Go.Proofs.YthhgcdfdjlijjaaW.PrintWords Go.Proofs.Ythhgcdfdjlijjaa.PX Go.Proofs.Ythhgcdfdjlijjaa.G
def leP (p q : IP) : Prop := ltOf cmpPt q p = false
theorem leP_iff (p q : IP) : leP p q ↔ (p.f0 < q.f0 ∨ p.f0 = q.f0 ∧ p.f1 ≤ q.f1) := ltPt_not q p
theorem leP_antisymm {p q : IP} (h : leP p q) (h' : leP q p) : p = q := by
 rw [leP_iff] at h h'
 cases p; cases q
 simp only [S43.mk.injEq] at *
 omega
theorem leP_trans {p q r : IP} (h : leP p q) (h' : leP q r) : leP p r := by
 rw [leP_iff] at *
 omega
theorem sortP_perm (l : List IP) : (sortP l).Perm l := by
 have h := (sortP_holds l).1
 have hs := h.1
 have h2 := h.2.2
 rw [Array.extract_eq_self_of_le (by simp at hs ⊢; omega), Array.extract_eq_self_of_le (Nat.le_refl _)] at h2
 simpa using h2
theorem sortP_sorted (l : List IP) : (sortP l).Pairwise leP := by
 have h := (sortP_holds l).2
 have hs := size_sortP l
 rw [List.pairwise_iff_getElem]
 intro i j hi hj hij
 have h1 := h i j (Nat.zero_le _) hij (by simp <;> omega)
 rw [getElem!_pos _ j (by simpa using hj), getElem!_pos _ i (by simpa using hi)] at h1
 simpa [leP] using h1
def placeP (p : IP) (out : List IP) : Nat → Nat
 | 0 => 0
 | k + 1 => if ltOf cmpPt p (pt out k) = true then placeP p out k else k + 1
theorem placeP_le (p : IP) (out : List IP) : ∀ k, placeP p out k ≤ k
 | 0 => Nat.le_refl _
 | k + 1 => by
  simp only [placeP]
  split
  ·exact Nat.le_succ_of_le (placeP_le p out k)
  ·exact Nat.le_refl _
theorem placeP_after (p : IP) (out : List IP) : ∀ k j, placeP p out k ≤ j → j < k → ltOf cmpPt p (pt out j) = true
 | 0, j, _, h => absurd h (Nat.not_lt_zero _)
 | k + 1, j, h, h' => by
  simp only [placeP] at h
  split at h
  ·rename_i hl
   rcases Nat.lt_or_ge j k with hj | hj
   ·exact placeP_after p out k j h hj
   ·obtain rfl : j = k := by omega
    exact hl
  ·omega
theorem placeP_before (p : IP) (out : List IP) : ∀ k j, placeP p out k = j + 1 → ltOf cmpPt p (pt out j) = false
 | 0, j, h => by cases h
 | k + 1, j, h => by
  simp only [placeP] at h
  split at h
  ·exact placeP_before p out k j h
  ·rename_i hl
   obtain rfl : k = j := by omega
   simpa using hl
def insP (out : List IP) (p : IP) : List IP := out.take (placeP p out out.length) ++ p :: out.drop (placeP p out out.length)
theorem insP_perm (out : List IP) (p : IP) : (insP out p).Perm (p :: out) := by
 unfold insP
 refine List.perm_middle.trans ?_
 rw [List.take_append_drop]
theorem insP_sorted {out : List IP} (p : IP) (h : out.Pairwise leP) : (insP out p).Pairwise leP := by
 have hp := placeP_le p out out.length
 have ha := placeP_after p out out.length
 have hb := placeP_before p out out.length
 unfold insP
 generalize placeP p out out.length = k at hp ha hb
 have hget := List.pairwise_iff_getElem.1 h
 have h1 : ∀ a ∈ out.take k, leP a p := by
  intro a hm
  obtain ⟨i, hi, rfl⟩ := List.getElem_of_mem hm
  rw [List.length_take] at hi
  rw [List.getElem_take]
  obtain ⟨k', rfl⟩ : ∃ k', k = k' + 1 := ⟨k - 1, by omega⟩
  have h2 := hb k' rfl
  rw [pt_eq (by omega)] at h2
  rcases Nat.lt_or_ge i k' with hik | hik
  ·exact leP_trans (hget i k' (by omega) (by omega) hik) h2
  ·obtain rfl : i = k' := by omega
   exact h2
 have h2 : ∀ b ∈ out.drop k, leP p b := by
  intro b hm
  obtain ⟨i, hi, rfl⟩ := List.getElem_of_mem hm
  rw [List.length_drop] at hi
  rw [List.getElem_drop]
  have h3 := ha (k + i) (by omega) (by omega)
  rw [pt_eq (by omega), ltPt] at h3
  rw [leP_iff]
  omega
 rw [List.pairwise_append, List.pairwise_cons]
 refine ⟨h.sublist (List.take_sublist _ _), ⟨h2, h.sublist (List.drop_sublist _ _)⟩, fun a hm b hm' => ?_⟩
 rcases List.mem_cons.1 hm' with rfl | hm'
 ·exact h1 a hm
 ·exact leP_trans (h1 a hm) (h2 b hm')
theorem foldP (l : List IP) : ∀ out : List IP, out.Pairwise leP → (l.foldl insP out).Pairwise leP ∧ (l.foldl insP out).Perm (out ++ l) := by
 induction l with
 | nil => intro out h; exact ⟨h, by rw [List.append_nil]; exact List.Perm.refl _⟩
 | cons p l ih =>
  intro out h
  obtain ⟨h1, h2⟩ := ih (insP out p) (insP_sorted p h)
  exact ⟨h1, h2.trans (((insP_perm out p).append_right l).trans List.perm_middle.symm)⟩
theorem foldP_sort (l : List IP) : l.foldl insP [] = sortP l := by
 obtain ⟨h1, h2⟩ := foldP l [] List.Pairwise.nil
 exact List.Perm.eq_of_pairwise (fun a b _ _ => leP_antisymm) h1 (sortP_sorted l) (h2.trans (sortP_perm l).symm)
def sortV (l : List IP) : List IP := if arePts l = true then sortP l else []
theorem sortV_len (l : List IP) : (sortV l).length ≤ l.length := by
 unfold sortV
 split
 ·rw [size_sortP]; exact Nat.le_refl _
 ·exact Nat.zero_le _
theorem impl_sort (l : List IP) (hl : l.length ≤ 10000000) : impl_SortPoints.f l = some (sortV l) := by
 have h := impl_arePts l hl
 unfold impl_SortPoints.f sortV
 by_cases ha : arePts l = true
 ·rw [ha] at h
  obtain ⟨k, hk⟩ := h
  have hi := (arePts_iff.1 ha).1
  rw [if_pos ⟨k, hk k (Nat.le_refl _)⟩, if_pos (by omega), if_pos ha]
 ·rw [Bool.not_eq_true] at ha
  rw [ha] at h
  obtain ⟨k, hk⟩ := h
  have hno : ¬ ∃ k, impl_ArePoints.f k l = some true := by
   rintro ⟨k', hk'⟩
   have hup : ∀ m, impl_ArePoints.f (k' + m) l = some true := by
    intro m
    induction m with
    | zero => exact hk'
    | succ m ih => exact impl_ArePoints.mono l (k' + m) _ ih
   have h1 : impl_ArePoints.f (k' + k) l = some false := hk (k' + k) (Nat.le_add_left _ _)
   rw [hup k] at h1
   cases h1
  rw [if_neg hno, if_pos ⟨k, hk k (Nat.le_refl _)⟩, if_neg (by rw [ha]; decide)]
theorem before_f (p q : IP) : spec_l2Before.f p.f0 p.f1 q.f0 q.f1 = some (ltOf cmpPt p q) := by
 unfold spec_l2Before.f
 by_cases h : ltOf cmpPt p q = true
 ·rw [h]
  rw [ltPt] at h
  by_cases h0 : p.f0 < q.f0
  ·rw [if_pos h0]
  ·rw [if_neg h0, if_pos (by omega), decide_eq_true (by omega)]
 ·rw [Bool.not_eq_true] at h
  rw [h]
  rw [ltPt_not] at h
  rw [if_neg (by omega)]
  by_cases h0 : p.f0 = q.f0
  ·rw [if_pos h0, decide_eq_false (by omega)]
  ·rw [if_neg h0]
theorem spec_sort_in (l : List IP) (out : List IP) (i : Nat) (hi : i < l.length) (ho : out.length ≤ 10000000) (r : List IP) (hr : Ev (fun q => spec_SortPoints.l0 q l (insP out (pt l i)) (wrap64 ((i : Int) + 1))) r) :
  ∀ k : Nat, k ≤ out.length → placeP (pt l i) out k = placeP (pt l i) out out.length → Ev (fun q => spec_SortPoints.l1 q l out (i : Int) (k : Int)) r := by
 intro k
 induction k with
 | zero =>
  intro hk he
  refine ev_step ?_
  simp only [spec_SortPoints.l1]
  refine ev_neg (by omega) (ev_call rfl (ev_pos (by omega) (ev_pos (by omega) (ev_call rfl (ev_pos (by simp <;> omega) (ev_call rfl (ev_call rfl (ev_pos (by omega) (ev_pos (by omega) (ev_pos (by simp <;> omega) (ev_call rfl (ev_pos (by simp <;> omega) ?_))))))))))))
  have e : out.take (((0 : Nat) : Int)).toNat ++ [(⟨(rd_T43 l (i : Int)).f0, (rd_T43 l (i : Int)).f1⟩ : IP)] ++ (([] : List IP) ++ out.drop (((0 : Nat) : Int)).toNat) = insP out (pt l i) := by
   unfold insP
   rw [← he]
   simp [placeP, pt]
  rw [e]
  exact hr
 | succ k ih =>
  intro hk he
  refine ev_step ?_
  simp only [spec_SortPoints.l1]
  rw [wrap_id (x := ((k + 1 : Nat) : Int) - 1) (by omega) (by omega), show ((k + 1 : Nat) : Int) - 1 = (k : Int) by omega]
  refine ev_pos (by omega) (ev_pos (by omega) (ev_pos (by omega) (ev_pos (by omega) (ev_pos (by omega) (ev_call (before_f (pt l i) (pt out k)) ?_)))))
  by_cases h : ltOf cmpPt (pt l i) (pt out k) = true
  ·refine ev_pos h (ih (by omega) ?_)
   rw [← he]
   simp only [placeP, if_pos h]
  ·refine ev_neg h (ev_call rfl (ev_pos (by omega) (ev_pos (by omega) (ev_call rfl (ev_pos (by simp <;> omega) (ev_call rfl (ev_call rfl (ev_pos (by simp <;> omega) (ev_call rfl (ev_pos (by simp <;> omega) ?_))))))))))
   have e : out.take (((k + 1 : Nat) : Int)).toNat ++ [(⟨(rd_T43 l (i : Int)).f0, (rd_T43 l (i : Int)).f1⟩ : IP)] ++ (([] : List IP) ++ out.drop (((k + 1 : Nat) : Int)).toNat) = insP out (pt l i) := by
    unfold insP
    rw [← he, show placeP (pt l i) out (k + 1) = k + 1 from by simp only [placeP, if_neg h]]
    simp [pt]
   rw [e]
   exact hr
theorem insP_len (out : List IP) (p : IP) : (insP out p).length = out.length + 1 := by
 rw [(insP_perm out p).length_eq]; rfl
theorem spec_sort_loop (l : List IP) (hl : l.length ≤ 10000000) (ha : arePts l = true) : ∀ (d i : Nat) (out : List IP), i + d = l.length → out.length = i → Ev (fun q => spec_SortPoints.l0 q l out (i : Int)) ((l.drop i).foldl insP out) := by
 intro d
 induction d with
 | zero =>
  intro i out hi ho
  refine ev_step ?_
  simp only [spec_SortPoints.l0]
  refine ev_neg (by omega) (ev_step ?_)
  simp only [spec_SortPoints.j1]
  refine ev_neg (by decide) (ev_cast (Ev.now _) ?_)
  rw [List.drop_of_length_le (by omega)]
  rfl
 | succ d ih =>
  intro i out hi ho
  refine ev_step ?_
  simp only [spec_SortPoints.l0]
  refine ev_pos (by omega) (Ev.bind (spec_arePts l hl) (ev_step ?_))
  simp only [spec_SortPoints.j1]
  refine ev_pos ha ?_
  refine spec_sort_in l out i (by omega) (by omega) _ ?_ out.length (Nat.le_refl _) rfl
  rw [wrap_id (by omega) (by omega), show (i : Int) + 1 = ((i + 1 : Nat) : Int) by omega]
  have h1 := ih (i + 1) (insP out (pt l i)) (by omega) (by rw [insP_len, ho])
  rw [List.drop_eq_getElem_cons (by omega), List.foldl_cons, ← pt_eq (by omega)]
  exact h1
theorem spec_sort (l : List IP) (hl : l.length ≤ 10000000) : Ev (fun q => spec_SortPoints.f q l) (sortV l) := by
 unfold spec_SortPoints.f sortV
 by_cases ha : arePts l = true
 ·rw [if_pos ha, ← foldP_sort]
  exact spec_sort_loop l hl ha l.length 0 [] (by omega) rfl
 ·rw [if_neg ha]
  refine ev_step ?_
  simp only [spec_SortPoints.l0]
  by_cases h : (0 : Int) < (l.length : Int)
  ·refine ev_pos h (Ev.bind (spec_arePts l hl) (ev_step ?_))
   simp only [spec_SortPoints.j1]
   exact ev_neg ha (Ev.now _)
  ·refine ev_neg h (ev_step ?_)
   simp only [spec_SortPoints.j1]
   exact ev_neg (by decide) (Ev.now _)
end Go.Proofs.Ythhgcdfdjlijjaa.M
namespace Go.Proofs.Ythhgcdfdjlijjaa.Pure
open Go.RowKit Go.Proofs.YthhgcdfdjlijjaaW.PrintWords Go.Proofs.Ythhgcdfdjlijjaa.PX Go.Proofs.Ythhgcdfdjlijjaa.M
theorem FnExactSortPoints (l : List S45) (hl : l.length ≤ 9223372036854775807) :
  ∃ q, laws_FnExactSortPoints.f q l = some true := by
 refine Ev.rounds (r := true) ?_
 unfold laws_FnExactSortPoints.f
 obtain ⟨r, hr⟩ := szPts l 1048576
 refine ev_call hr ?_
 by_cases h : r < 0
 ·exact ev_pos h (Ev.now _)
 obtain ⟨l1, _, _⟩ := szPts_le l _ _ (by omega) (by omega) hl hr h
 have pa := toPts_ev l (by omega)
 have la : (l.map toPt).length ≤ 10000000 := by rw [List.length_map]; omega
 have lv := sortV_len (l.map toPt)
 have hs := spec_sort (l.map toPt) la
 have hi := impl_sort (l.map toPt) la
 generalize l.map toPt = p at pa la lv hs hi
 generalize sortV p = v at lv hs hi
 refine ev_neg h (Ev.bind pa (Ev.bind hs (Ev.bind pa (ev_call hi (Ev.bind (eqPts_self v (by omega)) (ev_pos rfl (Ev.bind pa (Ev.bind (eqPts_self p la) (ev_pos rfl (Ev.bind (markP_ev p la) (ev_neg (by simp only; omega) (Ev.bind (eqPts_self v (by omega)) (ev_step ?_)))))))))))))
 simp only [laws_FnExactSortPoints.j0]
 exact ev_neg (by simp) (Ev.bind (markP_ev v (by omega)) (Ev.bind (heldP_ev v.length (by omega)) (ev_neg (by omega) (ev_pos rfl (Ev.bind pa (ev_call hi (Ev.bind (eqPts_self v (by omega)) (ev_pos rfl (Ev.bind (heldP_ev v.length (by omega)) (ev_neg (by omega) (ev_pos rfl (Ev.now _))))))))))))
end Go.Proofs.Ythhgcdfdjlijjaa.Pure
namespace Go.Proofs.Ythhgcdfdjlijjaa.fnExactSortPoints
open Go.ChangeShapes Go.WideShapes Go.ChangeAt Go.RowKit Go.Joins
open Go.ChangeMaps (open_string shut_string)
set_option linter.unusedVariables false
theorem own : ownKnob Try.prog.godebug = none := by kernel_rfl
theorem str_mk {H : Type} {enc : TypeId × Value → H} {P : Program} {w : World} {base : Nat} {spare : Nat → Bool} {held : Bool} {t : TypeId} {s : ByteArray} (ht : P.underlying t = some .string) (hs : s.size ≤ maxLen) : DataW.trod enc P w base spare held 1 t [.string s] = some (.lit (.string s.data.toList), []) := by
 simp [DataW.trod, ht, hs]
open Go.Proofs.Ythhgcdfdjlijjaa
def numC : Option Value → Int
 | some (.int _ n) => n
 | _ => 0
theorem pts_row {w : World} {a : Addr} {len m : Nat} (hlm : len ≤ m) (hm : len ≤ 9223372036854775807) (h : ∀ i, i < m → ∃ x y : Int, w.cell? (a.add (i * 2)) = some (.int .i64 x) ∧ w.cell? (a.add (i * 2 + 1)) = some (.int .i64 y)) :
  ∃ l : List PX.S45, l.length = len ∧ Go.Proofs.YthhgcdfdjlijjaaW.PrintWords.Kd.C PX.k45 w (some a) len l := by
 refine ⟨(List.range len).map fun i => (⟨numC (w.cell? (a.add (i * 2))), numC (w.cell? (a.add (i * 2 + 1)))⟩ : PX.S45), by simp, by simp, hm, fun _ => ⟨a, rfl, fun j p hp => ?_⟩⟩
 rw [List.getElem?_map] at hp
 obtain ⟨i, hi, rfl⟩ := Option.map_eq_some_iff.1 hp
 obtain ⟨hjl, rfl⟩ := List.getElem?_eq_some_iff.1 hi
 rw [List.length_range] at hjl
 simp only [List.getElem_range]
 obtain ⟨x, y, g1, g2⟩ := h j (Nat.lt_of_lt_of_le hjl hlm)
 rw [g1, g2]
 refine ⟨_, rfl, PX.k45_mk w _, fun i u hu => ?_⟩
 match i with
 | 0 => cases hu; exact g1
 | 1 => cases hu; exact g2
 | (i + 2) => simp at hu
theorem laidOut : laidOutB Try.prog = true := by kernel_rfl
set_option maxRecDepth 100000 in
theorem lifted (os : Os) (started : os.Started) (H : Type) (enc : TypeId × Value → H) :
  ReturnsInHanded {} Try.checked os 3 .any (Rows.fnExactSortPointsSpec.pre6 enc Try.prog Try.f3 Rows.fnExactSortPointsRow.domain false) (Rows.fnExactSortPointsSpec.post enc Try.prog Try.f3 false true false false) := by
 refine returnsInHanded_of_change_sized (C := Try.checked) own started (by kernel_rfl) Try.func3
  (ChangeSpec.witness6 (enc := enc) (C := Try.checked) false ⟨#[], #[.slice none 0 0], []⟩ 8 (by kernel_rfl) (by kernel_rfl) (by kernel_rfl) (by kernel_rfl)) ?_
 intro W base args ds gs before hval0 hW hcnd hsz0 _
 have hsz : (DataW.weightsEach Try.prog (Try.f3.params.toList ++ Rows.fnExactSortPointsSpec.plain.varTypes Try.prog) (ds ++ gs)).all (· ≤ reachBytes) = true := hsz0
 have hval : ∀ (j : Nat) t v, Try.f3.params[j]? = some t → args[j]? = some v → Value.okWide Try.prog W .any base t v := hval0
 have hW' := hW
 obtain ⟨p, q, hA0, hV, rfl, hfz, hnd⟩ := hW
 have hA : DataW.TrodAll enc Try.prog W 0 (fun _ => true) true Try.f3.params.toList args.toList ds p := hA0
 rw [Try.params3] at hA hval hsz
 obtain ⟨v0, vs0, d0, ds0, p0, q0, hargs, rfl, rfl, h0, r0⟩ := trodAll_cons hA
 obtain ⟨rfl, rfl, rfl⟩ := trodAll_nil r0
 obtain rfl : args = #[v0] := by cases args; simp_all
 obtain ⟨rfl, rfl⟩ := trodVars_none hV
 obtain ⟨a0, len0, cap0, rfl⟩ := okWide_slice Try.underlying22 (hval 0 22 v0 rfl rfl)
 have k0 := h0
 have lt0 : ∀ x ∈ p0, x.block < W.heap.size := by obtain ⟨m, hm⟩ := k0; exact DataW.trod_lt m _ _ _ hm
 obtain ⟨l0, hn0, hr0, hc0, hb0⟩ : ∃ l : List PX.S45, l.length = len0 ∧ Go.Proofs.YthhgcdfdjlijjaaW.PrintWords.Kd.C PX.k45 W a0 len0 l ∧ len0 ≤ cap0 ∧ len0 ≤ maxLen := by
  obtain ⟨fuel, hf⟩ := h0
  rcases Go.Deep.open_slice_pairs Try.underlying22 Try.underlying45 (by kernel_rfl) rfl rfl (by kernel_rfl) (by kernel_rfl) hf with ⟨hcs, _⟩ | ⟨x, l, c, m, n, V0, V1, D0, D1, P0, P1, hcs, _, hl, hm, hmm, _, hx⟩
  ·simp [Value.cells] at hcs
   obtain ⟨rfl, rfl, rfl⟩ := hcs
   exact ⟨[], rfl, ⟨rfl, Nat.zero_le _, fun h => absurd h (Nat.lt_irrefl _)⟩, Nat.le_refl _, Nat.zero_le _⟩
  ·simp [Value.cells] at hcs
   obtain ⟨rfl, rfl, rfl⟩ := hcs
   have hlm : len0 ≤ m := by rw [hmm]; split <;> omega
   obtain ⟨pl, e1, e2⟩ := pts_row hlm (Nat.le_trans (Nat.le_trans hl hm) (by decide)) (fun j hj => by
    obtain ⟨g1, g2, g3, g4⟩ := hx j hj
    obtain ⟨b1, f1, _, _⟩ := DataW.trod_int Try.underlying3 g3
    obtain ⟨b2, f2, _, _⟩ := DataW.trod_int Try.underlying3 g4
    simp only [List.cons.injEq, and_true] at f1 f2
    rw [f1] at g1
    rw [f2] at g2
    exact ⟨b1, b2, g1, g2⟩)
   exact ⟨pl, e1, e2, hl, Nat.le_trans hl hm⟩
 subst hn0
 clear hA0 hval0 hsz0 hsz
 obtain ⟨k, hP⟩ := Pure.FnExactSortPoints l0 (Nat.le_trans hb0 (by decide))
 refine (PX.laws_FnExactSortPoints.calls k _ _ l0 true W hr0 hc0 hP rfl).mono fun e W' ⟨he, bel⟩ => ?_
 subst he
 exact ⟨_, rfl, _, _, _, [], _, [], hW', trodAll_mk1 (shut_bool Try.underlying4 _), (trodAll_cons_mk (Below.trod laidOut (by kernel_rfl) (of_decide_eq_true (by kernel_rfl)) k0 bel lt0) trodAll_mk0), rfl, bel.frame _, fun h => by cases h⟩
theorem over : Rows.fnExactSortPointsRow.holds Try.pinned (OpenSpec.ofChange Rows.fnExactSortPointsSpec) :=
 OpenClaim.holds_of_wide 3 Try.f3 rfl rfl rfl rfl rfl rfl rfl ⟨rfl, rfl, rfl, rfl, rfl⟩ rfl rfl rfl rfl rfl (by kernel_rfl) Try.func3 (by kernel_rfl)
  (of_decide_eq_true (by kernel_rfl)) (by unfold Func.isWrapper; first | (rw [if_pos (by decide +kernel)]; kernel_rfl) | (rw [if_neg (by decide +kernel)]; exact ⟨rfl, rfl⟩))
  (fun os started H enc _ => lifted os started H enc)
theorem proved : Rows.FnExactSortPointsSaid := over
#print axioms proved
end Go.Proofs.Ythhgcdfdjlijjaa.fnExactSortPoints
namespace Go.Proofs.Ythhgcdfdjlijjaa
theorem fnExactSortPoints_holds : Rows.FnExactSortPointsSaid := fnExactSortPoints.proved
end Go.Proofs.Ythhgcdfdjlijjaa
