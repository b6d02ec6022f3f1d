/- FnExactIsAcyclic returns true for all arguments and leaves them as they were. No condition. -/
import Derived.Test.YtggbekkinkggfaaProg
import Derived.Test.YtggbekkinkggfaaRows
import Derived.WalkKit
import Derived.ProofKit
import Derived.OpenShut
import Derived.ShutString
import Derived.ChangeOld
import Derived.Below
import Derived.SizedLaws
import Derived.Lib.SmallJoins
import Derived.ChangeSame
import Derived.Test.YtggbekkinkggfaaV1
import Derived.Test.YtggbekkinkggfaaBmrvfln1
import Derived.Test.YtggbekkinkggfaaBjgghki2
import Derived.Test.YtggbekkinkggfaaBacykog1
set_option linter.unusedVariables false
set_option linter.unusedSimpArgs false
namespace Go.Proofs.Ytggbekkinkggfaa.PX
open Go.RowKit Go.Proofs.Ytggbekkinkggfaa.G Go.Proofs.YtggbekkinkggfaaW.PrintWords Go.Proofs.YtggbekkinkggfaaW.PrintLast Go.Proofs.YtggbekkinkggfaaW.PrintMore
attribute [local go_sem] max2_int min2_int max_two min_two max_three min_three max_four min_four   -- for this text's walks alone
set_option linter.unusedVariables false
set_option linter.unusedSimpArgs false
/-! ### spec_IsAcyclic: function 41 -/
def spec_IsAcyclic.f (k : Nat) (a0_0 : Int) (a0_1 : ByteArray) : Option (Bool) := (spec_IsMatroid.f k a0_0 a0_1).bind fun t534 => (if t534 = true then ((spec_l4Acyclic.f k a0_0 a0_1).bind fun t535 => (some t535)) else (some false))
theorem spec_IsAcyclic.mono : ∀ a0 a1 k, LeO (spec_IsAcyclic.f k a0 a1) (spec_IsAcyclic.f (k + 1) a0 a1) := by
 intro a0 a1 k
 unfold spec_IsAcyclic.f
 repeat' first
   | (with_reducible exact spec_IsMatroid.mono _ _ _)
   | (with_reducible exact spec_l4Acyclic.mono _ _ _)
   | (with_reducible exact LeO.refl _)
   | (with_reducible exact LeO.none _)
   | (with_reducible refine LeO.ite ?_ ?_)
   | (with_reducible refine LeO.bind ?_ (fun _ => ?_))
   | exact spec_IsMatroid.mono _ _ _
   | exact spec_l4Acyclic.mono _ _ _
   | exact LeO.none _
   | refine LeO.ite ?_ ?_
   | refine LeO.bind ?_ (fun _ => ?_)
set_option maxHeartbeats 8000000 in
set_option maxRecDepth 100000 in
theorem spec_IsAcyclic.calls (k : Nat) (a0_0 : Int) (a0_1 : ByteArray) (r : Bool) (w : World) (h : spec_IsAcyclic.f k a0_0 a0_1 = some r) :
  Calls Try.prog 41 #[.agg #[.int .i64 a0_0, .string a0_1]] w fun e w' => e = .returned (.bool r) ∧ Below w.heap.size w w' := by
 have hu26 := Try.underlying26
 have HB := Aside0.mk (Below.refl w.heap.size w)
 have H : ((spec_IsMatroid.f k a0_0 a0_1).bind fun t534 => (if t534 = true then ((spec_l4Acyclic.f k a0_0 a0_1).bind fun t535 => (some t535)) else (some false))) = some r := h
 clear h
 replace H := Option.bind_eq_some_iff.mp H
 obtain ⟨t534, A20, H⟩ := H
 replace H : (if t534 = true then ((spec_l4Acyclic.f k a0_0 a0_1).bind fun t535 => (some t535)) else (some false)) = some r := H
 have A2 := Aside0.mk A20
 clear A20
 by_cases c3 : t534 = true
 ·subst c3
  have H1 : ((spec_l4Acyclic.f k a0_0 a0_1).bind fun t535 => (some t535)) = some r := by rw [if_pos rfl] at H; exact H
  clear H
  have H := H1
  clear H1
  replace H := Option.bind_eq_some_iff.mp H
  obtain ⟨t535, A40, H⟩ := H
  replace H : (some t535) = some r := H
  have A4 := Aside0.mk A40
  clear A40
  obtain rfl := Option.some.inj H
  go_enter Try.func41, Try.ntmps41
  go_wp2_with (first | ((with_reducible refine gate_dst (N := 1) rfl ?_); refine box_event ?hg (N := 1) ?hd (cs := #[.int .i64 a0_0, .string a0_1]) (t := 26) ?hr ?_; (case hd => rfl); (case hg => rfl); (case hr => first | (go_simp; done) | (go_simp; rfl)); intro gb533 hg w5 hbox hb; have n0_ := Aside0.mk (below_step zB hb); have n1_ := Aside0.mk (hbox); have n2_ := Aside0.mk ((by rw [hg]; exact (below_size zB) : w.heap.size ≤ gb533)); have n3_ := Aside0.mk ((by rw [hg]; exact (below_size zB) : w.heap.size ≤ gb533)); clear HB; have HB := n0_; have BK533 := n1_; have GW533 := n2_; have GE533 := n3_; clear n0_ n1_ n2_ n3_; clear hb hbox hg; have hcz6_0 : w5.cell? ⟨gb533, 0, none⟩ = some (.int .i64 a0_0) := (blk_cell BK533.out 0).trans rfl; have hcz6_1 : w5.cell? ⟨gb533, 1, none⟩ = some (.string a0_1) := (blk_cell BK533.out 1).trans rfl; have hfz6_0 := blk_frozen BK533.out 0; have hfz6_1 := blk_frozen BK533.out 1) | ((with_reducible refine gate_callee (f := 29) rfl ?_); refine goesL_ (some 4) rfl rfl Try.func29 (by kernel_rfl) rfl #[.agg #[.int .i64 a0_0, .string a0_1]] rfl zM ?_; (with_reducible refine (spec_IsMatroid.calls k a0_0 a0_1 true _ A2.out).mono ?_); rintro e w7 ⟨rfl, hb⟩; refine ⟨_, rfl, ?_⟩; have n0_ := Aside0.mk (blk_below (g := gb533) (o := .cells #[.int .i64 a0_0, .string a0_1] 26 (0, 0)) (zK BK533.out) hb); have n1_ := Aside0.mk (below_step (zG GE533.out) hb); clear BK533; clear HB; have BK533 := n0_; have HB := n1_; clear n0_ n1_; (try clear hb); (try clear hb2); (try clear hk); (try clear hi); have hcz8_0 : w7.cell? ⟨gb533, 0, none⟩ = some (.int .i64 a0_0) := (blk_cell BK533.out 0).trans rfl; have hcz8_1 : w7.cell? ⟨gb533, 1, none⟩ = some (.string a0_1) := (blk_cell BK533.out 1).trans rfl; have hfz8_0 := blk_frozen BK533.out 0; have hfz8_1 := blk_frozen BK533.out 1) | (go_at_call 70; (with_reducible refine (spec_l4Acyclic.calls k a0_0 a0_1 t535 _ A4.out).mono ?_); rintro e w9 ⟨rfl, hb⟩; have n0_ := Aside0.mk (blk_below (g := gb533) (o := .cells #[.int .i64 a0_0, .string a0_1] 26 (0, 0)) (zK BK533.out) hb); have n1_ := Aside0.mk (below_step (zG GE533.out) hb); clear BK533; clear HB; have BK533 := n0_; have HB := n1_; clear n0_ n1_; (try clear hb); (try clear hb2); (try clear hk); (try clear hi)))
  go_ret
  exact ⟨zE, zG GE533.out⟩
 ·replace c3 := Bool.eq_false_iff.mpr c3
  subst c3
  have H1 : (some false) = some r := by rw [if_neg (show ¬ (false = true) by decide)] at H; exact H
  clear H
  have H := H1
  clear H1
  obtain rfl := Option.some.inj H
  go_enter Try.func41, Try.ntmps41
  go_wp2_with (first | ((with_reducible refine gate_dst (N := 1) rfl ?_); refine box_event ?hg (N := 1) ?hd (cs := #[.int .i64 a0_0, .string a0_1]) (t := 26) ?hr ?_; (case hd => rfl); (case hg => rfl); (case hr => first | (go_simp; done) | (go_simp; rfl)); intro gb533 hg w10 hbox hb; have n0_ := Aside0.mk (below_step zB hb); have n1_ := Aside0.mk (hbox); have n2_ := Aside0.mk ((by rw [hg]; exact (below_size zB) : w.heap.size ≤ gb533)); have n3_ := Aside0.mk ((by rw [hg]; exact (below_size zB) : w.heap.size ≤ gb533)); clear HB; have HB := n0_; have BK533 := n1_; have GW533 := n2_; have GE533 := n3_; clear n0_ n1_ n2_ n3_; clear hb hbox hg; have hcz11_0 : w10.cell? ⟨gb533, 0, none⟩ = some (.int .i64 a0_0) := (blk_cell BK533.out 0).trans rfl; have hcz11_1 : w10.cell? ⟨gb533, 1, none⟩ = some (.string a0_1) := (blk_cell BK533.out 1).trans rfl; have hfz11_0 := blk_frozen BK533.out 0; have hfz11_1 := blk_frozen BK533.out 1) | ((with_reducible refine gate_callee (f := 29) rfl ?_); refine goesL_ (some 4) rfl rfl Try.func29 (by kernel_rfl) rfl #[.agg #[.int .i64 a0_0, .string a0_1]] rfl zM ?_; (with_reducible refine (spec_IsMatroid.calls k a0_0 a0_1 false _ A2.out).mono ?_); rintro e w12 ⟨rfl, hb⟩; refine ⟨_, rfl, ?_⟩; have n0_ := Aside0.mk (blk_below (g := gb533) (o := .cells #[.int .i64 a0_0, .string a0_1] 26 (0, 0)) (zK BK533.out) hb); have n1_ := Aside0.mk (below_step (zG GE533.out) hb); clear BK533; clear HB; have BK533 := n0_; have HB := n1_; clear n0_ n1_; (try clear hb); (try clear hb2); (try clear hk); (try clear hi)))
  go_ret
  exact ⟨zE, zG GE533.out⟩
/-! ### impl_IsAcyclic: function 42 -/
def impl_IsAcyclic.f (k : Nat) (a0_0 : Int) (a0_1 : ByteArray) : Option (Bool) := (impl_IsMatroid.f a0_0 a0_1).bind fun t544 => (if t544 = true then ((impl_tableOf.f k a0_0 a0_1).bind fun t545 => (if t545.length = 344 then ((impl_chi_isAcyclic.f k t545).bind fun t548 => (some t548)) else (none))) else (some false))
theorem impl_IsAcyclic.mono : ∀ a0 a1 k, LeO (impl_IsAcyclic.f k a0 a1) (impl_IsAcyclic.f (k + 1) a0 a1) := by
 intro a0 a1 k
 unfold impl_IsAcyclic.f
 repeat' first
   | (with_reducible exact impl_chi_isAcyclic.mono _ _)
   | (with_reducible exact impl_tableOf.mono _ _ _)
   | (with_reducible exact LeO.refl _)
   | (with_reducible exact LeO.none _)
   | (with_reducible refine LeO.ite ?_ ?_)
   | (with_reducible refine LeO.bind ?_ (fun _ => ?_))
   | exact impl_chi_isAcyclic.mono _ _
   | exact impl_tableOf.mono _ _ _
   | exact LeO.none _
   | refine LeO.ite ?_ ?_
   | refine LeO.bind ?_ (fun _ => ?_)
set_option maxHeartbeats 8000000 in
set_option maxRecDepth 100000 in
theorem impl_IsAcyclic.calls (k : Nat) (a0_0 : Int) (a0_1 : ByteArray) (r : Bool) (w : World) (h : impl_IsAcyclic.f k a0_0 a0_1 = some r) :
  Calls Try.prog 42 #[.agg #[.int .i64 a0_0, .string a0_1]] w fun e w' => e = .returned (.bool r) ∧ Below w.heap.size w w' := by
 have hu26 := Try.underlying26
 have HB := Aside0.mk (Below.refl w.heap.size w)
 have H : ((impl_IsMatroid.f a0_0 a0_1).bind fun t544 => (if t544 = true then ((impl_tableOf.f k a0_0 a0_1).bind fun t545 => (if t545.length = 344 then ((impl_chi_isAcyclic.f k t545).bind fun t548 => (some t548)) else (none))) else (some false))) = some r := h
 clear h
 replace H := Option.bind_eq_some_iff.mp H
 obtain ⟨t544, A20, H⟩ := H
 replace H : (if t544 = true then ((impl_tableOf.f k a0_0 a0_1).bind fun t545 => (if t545.length = 344 then ((impl_chi_isAcyclic.f k t545).bind fun t548 => (some t548)) else (none))) else (some false)) = some r := H
 have A2 := Aside0.mk A20
 clear A20
 by_cases c3 : t544 = true
 ·subst c3
  have H1 : ((impl_tableOf.f k a0_0 a0_1).bind fun t545 => (if t545.length = 344 then ((impl_chi_isAcyclic.f k t545).bind fun t548 => (some t548)) else (none))) = some r := by rw [if_pos rfl] at H; exact H
  clear H
  have H := H1
  clear H1
  replace H := Option.bind_eq_some_iff.mp H
  obtain ⟨t545, A40, H⟩ := H
  replace H : (if t545.length = 344 then ((impl_chi_isAcyclic.f k t545).bind fun t548 => (some t548)) else (none)) = some r := H
  have A4 := Aside0.mk A40
  clear A40
  by_cases c5 : t545.length = 344
  ·rw [if_pos c5] at H
   have c5b0 := eq_true c5
   have c5b1 : decide (t545.length = 344) = true := decide_eq_true c5
   clear c5
   replace H := Option.bind_eq_some_iff.mp H
   obtain ⟨t548, A60, H⟩ := H
   replace H : (some t548) = some r := H
   have A6 := Aside0.mk A60
   clear A60
   obtain rfl := Option.some.inj H
   go_enter Try.func42, Try.ntmps42
   go_wp2_with (first | ((with_reducible refine gate_dst (N := 1) rfl ?_); refine box_event ?hg (N := 1) ?hd (cs := #[.int .i64 a0_0, .string a0_1]) (t := 26) ?hr ?_; (case hd => rfl); (case hg => rfl); (case hr => first | (go_simp; done) | (go_simp; rfl)); intro gb543 hg w7 hbox hb; have n0_ := Aside0.mk (below_step zB hb); have n1_ := Aside0.mk (hbox); have n2_ := Aside0.mk ((by rw [hg]; exact (below_size zB) : w.heap.size ≤ gb543)); have n3_ := Aside0.mk ((by rw [hg]; exact (below_size zB) : w.heap.size ≤ gb543)); clear HB; have HB := n0_; have BK543 := n1_; have GW543 := n2_; have GE543 := n3_; clear n0_ n1_ n2_ n3_; clear hb hbox hg; have hcz8_0 : w7.cell? ⟨gb543, 0, none⟩ = some (.int .i64 a0_0) := (blk_cell BK543.out 0).trans rfl; have hcz8_1 : w7.cell? ⟨gb543, 1, none⟩ = some (.string a0_1) := (blk_cell BK543.out 1).trans rfl; have hfz8_0 := blk_frozen BK543.out 0; have hfz8_1 := blk_frozen BK543.out 1) | ((with_reducible refine gate_callee (f := 30) rfl ?_); refine goesL_ (some 4) rfl rfl Try.func30 (by kernel_rfl) rfl #[.agg #[.int .i64 a0_0, .string a0_1]] rfl zM ?_; (with_reducible refine (impl_IsMatroid.calls a0_0 a0_1 true _ A2.out).mono ?_); rintro e w9 ⟨rfl, hb⟩; refine ⟨_, rfl, ?_⟩; have n0_ := Aside0.mk (blk_below (g := gb543) (o := .cells #[.int .i64 a0_0, .string a0_1] 26 (0, 0)) (zK BK543.out) hb); have n1_ := Aside0.mk (below_step (zG GE543.out) hb); clear BK543; clear HB; have BK543 := n0_; have HB := n1_; clear n0_ n1_; (try clear hb); (try clear hb2); (try clear hk); (try clear hi); have hcz10_0 : w9.cell? ⟨gb543, 0, none⟩ = some (.int .i64 a0_0) := (blk_cell BK543.out 0).trans rfl; have hcz10_1 : w9.cell? ⟨gb543, 1, none⟩ = some (.string a0_1) := (blk_cell BK543.out 1).trans rfl; have hfz10_0 := blk_frozen BK543.out 0; have hfz10_1 := blk_frozen BK543.out 1) | (go_at_call 55; (with_reducible refine (impl_tableOf.calls k a0_0 a0_1 t545 _ A4.out).mono ?_); rintro e w11 ⟨v546, rfl, ho0, hb⟩; have n0_ := Aside0.mk (Kd.R_lower ho0 (below_size (zG GE543.out))); have n1_ := Aside0.mk (blk_below (g := gb543) (o := .cells #[.int .i64 a0_0, .string a0_1] 26 (0, 0)) (zK BK543.out) hb); have n2_ := Aside0.mk (below_step (zG GE543.out) hb); clear BK543; clear HB; have HO547 := n0_; have BK543 := n1_; have HB := n2_; clear n0_ n1_ n2_; (try clear hb); (try clear hb2); (try clear hk); (try clear hi); (try clear ho0); obtain ⟨go12, co12, eo12, gb12, gl12, cl12, HG12⟩ := Kd.R_form HO547.out (by have hl_ := Nat.le_of_eq (Eq.symm (zA : t545.length = 344)); omega); (first | cases eo12 | (injection eo12 with ea_ en_ ec_; (first | subst ea_ | (injection ea_ with ea_; subst ea_)); subst ec_; clear en_)); have GB12 := Aside0.mk gb12; have GG12 := Aside0.mk HG12; clear gb12 gl12 HG12) | (go_at_call 71; (with_reducible refine (impl_chi_isAcyclic.calls k _ t545 t548 _ ?side1 ?side2 A6.out).mono ?_); (case side1 => repeat (first | exact (Kd.R_reads' HO547.out).2.2 | (with_reducible refine Kd.C_alloc ?_ _) | (with_reducible refine Kd.C_drewN ?_ _) | (with_reducible refine Kd.C_drew ?_))); (case side2 => exact (zA : t545.length = 344)); rintro e w13 ⟨rfl, hb⟩; have n0_ := Aside0.mk (Kd.R_below (zR HO547.out) hb); have n1_ := Aside0.mk (blk_below (g := gb543) (o := .cells #[.int .i64 a0_0, .string a0_1] 26 (0, 0)) (zK BK543.out) hb); have n2_ := Aside0.mk (below_step (zG GE543.out) hb); clear HO547; clear BK543; clear HB; have HO547 := n0_; have BK543 := n1_; have HB := n2_; clear n0_ n1_ n2_; (try clear hb); (try clear hb2); (try clear hk); (try clear hi)))
   go_ret
   exact ⟨zE, zG GE543.out⟩
  ·rw [if_neg c5] at H
   exact absurd H (by simp)
 ·replace c3 := Bool.eq_false_iff.mpr c3
  subst c3
  have H1 : (some false) = some r := by rw [if_neg (show ¬ (false = true) by decide)] at H; exact H
  clear H
  have H := H1
  clear H1
  obtain rfl := Option.some.inj H
  go_enter Try.func42, Try.ntmps42
  go_wp2_with (first | ((with_reducible refine gate_dst (N := 1) rfl ?_); refine box_event ?hg (N := 1) ?hd (cs := #[.int .i64 a0_0, .string a0_1]) (t := 26) ?hr ?_; (case hd => rfl); (case hg => rfl); (case hr => first | (go_simp; done) | (go_simp; rfl)); intro gb543 hg w14 hbox hb; have n0_ := Aside0.mk (below_step zB hb); have n1_ := Aside0.mk (hbox); have n2_ := Aside0.mk ((by rw [hg]; exact (below_size zB) : w.heap.size ≤ gb543)); have n3_ := Aside0.mk ((by rw [hg]; exact (below_size zB) : w.heap.size ≤ gb543)); clear HB; have HB := n0_; have BK543 := n1_; have GW543 := n2_; have GE543 := n3_; clear n0_ n1_ n2_ n3_; clear hb hbox hg; have hcz15_0 : w14.cell? ⟨gb543, 0, none⟩ = some (.int .i64 a0_0) := (blk_cell BK543.out 0).trans rfl; have hcz15_1 : w14.cell? ⟨gb543, 1, none⟩ = some (.string a0_1) := (blk_cell BK543.out 1).trans rfl; have hfz15_0 := blk_frozen BK543.out 0; have hfz15_1 := blk_frozen BK543.out 1) | ((with_reducible refine gate_callee (f := 30) rfl ?_); refine goesL_ (some 4) rfl rfl Try.func30 (by kernel_rfl) rfl #[.agg #[.int .i64 a0_0, .string a0_1]] rfl zM ?_; (with_reducible refine (impl_IsMatroid.calls a0_0 a0_1 false _ A2.out).mono ?_); rintro e w16 ⟨rfl, hb⟩; refine ⟨_, rfl, ?_⟩; have n0_ := Aside0.mk (blk_below (g := gb543) (o := .cells #[.int .i64 a0_0, .string a0_1] 26 (0, 0)) (zK BK543.out) hb); have n1_ := Aside0.mk (below_step (zG GE543.out) hb); clear BK543; clear HB; have BK543 := n0_; have HB := n1_; clear n0_ n1_; (try clear hb); (try clear hb2); (try clear hk); (try clear hi)))
  go_ret
  exact ⟨zE, zG GE543.out⟩
/-! ### laws_FnExactIsAcyclic: function 12 -/
def laws_FnExactIsAcyclic.f (k : Nat) (a0_0 : Int) (a0_1 : ByteArray) : Option (Bool) := (laws_szSigns.f a0_0 a0_1 1048576).bind fun t550 => (if t550 < 0 then (some true) else ((laws_toSigns.f a0_0 a0_1).bind fun bt551 => ((spec_IsAcyclic.f k bt551.1 bt551.2).bind fun t553 => ((laws_toSigns.f a0_0 a0_1).bind fun bt554 => ((impl_IsAcyclic.f k bt554.1 bt554.2).bind fun t556 => (if (t556 != t553) = true then (some false) else (some true)))))))
theorem laws_FnExactIsAcyclic.mono : ∀ a0 a1 k, LeO (laws_FnExactIsAcyclic.f k a0 a1) (laws_FnExactIsAcyclic.f (k + 1) a0 a1) := by
 intro a0 a1 k
 unfold laws_FnExactIsAcyclic.f
 repeat' first
   | (with_reducible exact impl_IsAcyclic.mono _ _ _)
   | (with_reducible exact spec_IsAcyclic.mono _ _ _)
   | (with_reducible exact LeO.refl _)
   | (with_reducible exact LeO.none _)
   | (with_reducible refine LeO.ite ?_ ?_)
   | (with_reducible refine LeO.bind ?_ (fun _ => ?_))
   | exact impl_IsAcyclic.mono _ _ _
   | exact spec_IsAcyclic.mono _ _ _
   | exact LeO.none _
   | refine LeO.ite ?_ ?_
   | refine LeO.bind ?_ (fun _ => ?_)
set_option maxHeartbeats 8000000 in
set_option maxRecDepth 100000 in
theorem laws_FnExactIsAcyclic.calls (k : Nat) (a0_0 : Int) (a0_1 : ByteArray) (r : Bool) (w : World) (h : laws_FnExactIsAcyclic.f k a0_0 a0_1 = some r) (hr_ : r = true) :
  Calls Try.prog 12 #[.agg #[.int .i64 a0_0, .string a0_1]] w fun e w' => e = .returned (.bool r) ∧ Below w.heap.size w w' := by
 have hu23 := Try.underlying23
 have HB := Aside0.mk (Below.refl w.heap.size w)
 have H : ((laws_szSigns.f a0_0 a0_1 1048576).bind fun t550 => (if t550 < 0 then (some true) else ((laws_toSigns.f a0_0 a0_1).bind fun bt551 => ((spec_IsAcyclic.f k bt551.1 bt551.2).bind fun t553 => ((laws_toSigns.f a0_0 a0_1).bind fun bt554 => ((impl_IsAcyclic.f k bt554.1 bt554.2).bind fun t556 => (if (t556 != t553) = true then (some false) else (some true)))))))) = some r := h
 clear h
 replace H := Option.bind_eq_some_iff.mp H
 obtain ⟨t550, A20, H⟩ := H
 replace H : (if t550 < 0 then (some true) else ((laws_toSigns.f a0_0 a0_1).bind fun bt551 => ((spec_IsAcyclic.f k bt551.1 bt551.2).bind fun t553 => ((laws_toSigns.f a0_0 a0_1).bind fun bt554 => ((impl_IsAcyclic.f k bt554.1 bt554.2).bind fun t556 => (if (t556 != t553) = true then (some false) else (some true))))))) = some r := H
 have A2 := Aside0.mk A20
 clear A20
 by_cases c3 : t550 < 0
 ·rw [if_pos c3] at H
  have c3b0 : decide (t550 < 0) = true := decide_eq_true c3
  clear c3
  obtain rfl := Option.some.inj H
  go_enter Try.func12, Try.ntmps12
  go_wp2_with (first | ((with_reducible refine gate_dst (N := 1) rfl ?_); refine box_event ?hg (N := 1) ?hd (cs := #[.int .i64 a0_0, .string a0_1]) (t := 23) ?hr ?_; (case hd => rfl); (case hg => rfl); (case hr => first | (go_simp; done) | (go_simp; rfl)); intro gb549 hg w4 hbox hb; have n0_ := Aside0.mk (below_step zB hb); have n1_ := Aside0.mk (hbox); have n2_ := Aside0.mk ((by rw [hg]; exact (below_size zB) : w.heap.size ≤ gb549)); have n3_ := Aside0.mk ((by rw [hg]; exact (below_size zB) : w.heap.size ≤ gb549)); clear HB; have HB := n0_; have BK549 := n1_; have GW549 := n2_; have GE549 := n3_; clear n0_ n1_ n2_ n3_; clear hb hbox hg; have hcz5_0 : w4.cell? ⟨gb549, 0, none⟩ = some (.int .i64 a0_0) := (blk_cell BK549.out 0).trans rfl; have hcz5_1 : w4.cell? ⟨gb549, 1, none⟩ = some (.string a0_1) := (blk_cell BK549.out 1).trans rfl; have hfz5_0 := blk_frozen BK549.out 0; have hfz5_1 := blk_frozen BK549.out 1) | ((with_reducible refine gate_callee (f := 16) rfl ?_); refine goesL_ (some 8) rfl rfl Try.func16 (by kernel_rfl) rfl #[.agg #[.int .i64 a0_0, .string a0_1], .int .i64 1048576] rfl zM ?_; (with_reducible refine (laws_szSigns.calls a0_0 a0_1 1048576 t550 _ A2.out).mono ?_); rintro e w6 ⟨rfl, hb⟩; refine ⟨_, rfl, ?_⟩; have n0_ := Aside0.mk (blk_below (g := gb549) (o := .cells #[.int .i64 a0_0, .string a0_1] 23 (0, 0)) (zK BK549.out) hb); have n1_ := Aside0.mk (below_step (zG GE549.out) hb); clear BK549; clear HB; have BK549 := n0_; have HB := n1_; clear n0_ n1_; (try clear hb); (try clear hb2); (try clear hk); (try clear hi)))
  go_ret
  exact ⟨zE, zG GE549.out⟩
 ·rw [if_neg c3] at H
  have c3b0 : decide (t550 < 0) = false := decide_eq_false c3
  clear c3
  replace H := Option.bind_eq_some_iff.mp H
  obtain ⟨⟨t551, t552⟩, A70, H⟩ := H
  replace H : ((spec_IsAcyclic.f k t551 t552).bind fun t553 => ((laws_toSigns.f a0_0 a0_1).bind fun bt554 => ((impl_IsAcyclic.f k bt554.1 bt554.2).bind fun t556 => (if (t556 != t553) = true then (some false) else (some true))))) = some r := H
  have A7 := Aside0.mk A70
  clear A70
  replace H := Option.bind_eq_some_iff.mp H
  obtain ⟨t553, A80, H⟩ := H
  replace H : ((laws_toSigns.f a0_0 a0_1).bind fun bt554 => ((impl_IsAcyclic.f k bt554.1 bt554.2).bind fun t556 => (if (t556 != t553) = true then (some false) else (some true)))) = some r := H
  have A8 := Aside0.mk A80
  clear A80
  replace H := Option.bind_eq_some_iff.mp H
  obtain ⟨⟨t554, t555⟩, A90, H⟩ := H
  replace H : ((impl_IsAcyclic.f k t554 t555).bind fun t556 => (if (t556 != t553) = true then (some false) else (some true))) = some r := H
  have A9 := Aside0.mk A90
  clear A90
  replace H := Option.bind_eq_some_iff.mp H
  obtain ⟨t556, A100, H⟩ := H
  replace H : (if (t556 != t553) = true then (some false) else (some true)) = some r := H
  have A10 := Aside0.mk A100
  clear A100
  by_cases c11 : (t556 != t553) = true
  ·rw [if_pos c11] at H
   have c11b0 : (t556 != t553) = true := c11
   (try (have c11b1 : decide (t556 = t553) = false := by simpa using c11))
   (try (have c11b2 : (t556 == t553) = false := by simpa using c11))
   (try (have c11b3 : ¬ (t556 = t553) := by simpa using c11))
   clear c11
   obtain rfl := Option.some.inj H
   cases hr_
  ·rw [if_neg c11] at H
   have c11b0 : (t556 != t553) = false := by simpa using c11
   (try (have c11b1 : decide (t556 = t553) = true := by simpa using c11))
   (try (have c11b2 : (t556 == t553) = true := by simpa using c11))
   clear c11
   obtain rfl := Option.some.inj H
   go_enter Try.func12, Try.ntmps12
   go_wp2_with (first | ((with_reducible refine gate_dst (N := 1) rfl ?_); refine box_event ?hg (N := 1) ?hd (cs := #[.int .i64 a0_0, .string a0_1]) (t := 23) ?hr ?_; (case hd => rfl); (case hg => rfl); (case hr => first | (go_simp; done) | (go_simp; rfl)); intro gb549 hg w21 hbox hb; have n0_ := Aside0.mk (below_step zB hb); have n1_ := Aside0.mk (hbox); have n2_ := Aside0.mk ((by rw [hg]; exact (below_size zB) : w.heap.size ≤ gb549)); have n3_ := Aside0.mk ((by rw [hg]; exact (below_size zB) : w.heap.size ≤ gb549)); clear HB; have HB := n0_; have BK549 := n1_; have GW549 := n2_; have GE549 := n3_; clear n0_ n1_ n2_ n3_; clear hb hbox hg; have hcz22_0 : w21.cell? ⟨gb549, 0, none⟩ = some (.int .i64 a0_0) := (blk_cell BK549.out 0).trans rfl; have hcz22_1 : w21.cell? ⟨gb549, 1, none⟩ = some (.string a0_1) := (blk_cell BK549.out 1).trans rfl; have hfz22_0 := blk_frozen BK549.out 0; have hfz22_1 := blk_frozen BK549.out 1) | ((with_reducible refine gate_callee (f := 16) rfl ?_); refine goesL_ (some 8) rfl rfl Try.func16 (by kernel_rfl) rfl #[.agg #[.int .i64 a0_0, .string a0_1], .int .i64 1048576] rfl zM ?_; (with_reducible refine (laws_szSigns.calls a0_0 a0_1 1048576 t550 _ A2.out).mono ?_); rintro e w23 ⟨rfl, hb⟩; refine ⟨_, rfl, ?_⟩; have n0_ := Aside0.mk (blk_below (g := gb549) (o := .cells #[.int .i64 a0_0, .string a0_1] 23 (0, 0)) (zK BK549.out) hb); have n1_ := Aside0.mk (below_step (zG GE549.out) hb); clear BK549; clear HB; have BK549 := n0_; have HB := n1_; clear n0_ n1_; (try clear hb); (try clear hb2); (try clear hk); (try clear hi); have hcz24_0 : w23.cell? ⟨gb549, 0, none⟩ = some (.int .i64 a0_0) := (blk_cell BK549.out 0).trans rfl; have hcz24_1 : w23.cell? ⟨gb549, 1, none⟩ = some (.string a0_1) := (blk_cell BK549.out 1).trans rfl; have hfz24_0 := blk_frozen BK549.out 0; have hfz24_1 := blk_frozen BK549.out 1) | ((with_reducible refine gate_callee (f := 18) rfl ?_); refine goesL_ (some 12) rfl rfl Try.func18 (by kernel_rfl) rfl #[.agg #[.int .i64 a0_0, .string a0_1]] rfl zM ?_; (with_reducible refine (laws_toSigns.calls a0_0 a0_1 t551 t552 _ A7.out).mono ?_); rintro e w25 ⟨rfl, hb⟩; refine ⟨_, rfl, ?_⟩; have n0_ := Aside0.mk (blk_below (g := gb549) (o := .cells #[.int .i64 a0_0, .string a0_1] 23 (0, 0)) (zK BK549.out) hb); have n1_ := Aside0.mk (below_step (zG GE549.out) hb); clear BK549; clear HB; have BK549 := n0_; have HB := n1_; clear n0_ n1_; (try clear hb); (try clear hb2); (try clear hk); (try clear hi)) | ((with_reducible refine gate_callee (f := 41) rfl ?_); refine goesL_ (some 13) rfl rfl Try.func41 (by kernel_rfl) rfl #[.agg #[.int .i64 t551, .string t552]] rfl zM ?_; (with_reducible refine (spec_IsAcyclic.calls k t551 t552 t553 _ A8.out).mono ?_); rintro e w26 ⟨rfl, hb⟩; refine ⟨_, rfl, ?_⟩; have n0_ := Aside0.mk (blk_below (g := gb549) (o := .cells #[.int .i64 a0_0, .string a0_1] 23 (0, 0)) (zK BK549.out) hb); have n1_ := Aside0.mk (below_step (zG GE549.out) hb); clear BK549; clear HB; have BK549 := n0_; have HB := n1_; clear n0_ n1_; (try clear hb); (try clear hb2); (try clear hk); (try clear hi); have hcz27_0 : w26.cell? ⟨gb549, 0, none⟩ = some (.int .i64 a0_0) := (blk_cell BK549.out 0).trans rfl; have hcz27_1 : w26.cell? ⟨gb549, 1, none⟩ = some (.string a0_1) := (blk_cell BK549.out 1).trans rfl; have hfz27_0 := blk_frozen BK549.out 0; have hfz27_1 := blk_frozen BK549.out 1) | ((with_reducible refine gate_callee (f := 18) rfl ?_); refine goesL_ (some 15) rfl rfl Try.func18 (by kernel_rfl) rfl #[.agg #[.int .i64 a0_0, .string a0_1]] rfl zM ?_; (with_reducible refine (laws_toSigns.calls a0_0 a0_1 t554 t555 _ A9.out).mono ?_); rintro e w28 ⟨rfl, hb⟩; refine ⟨_, rfl, ?_⟩; have n0_ := Aside0.mk (blk_below (g := gb549) (o := .cells #[.int .i64 a0_0, .string a0_1] 23 (0, 0)) (zK BK549.out) hb); have n1_ := Aside0.mk (below_step (zG GE549.out) hb); clear BK549; clear HB; have BK549 := n0_; have HB := n1_; clear n0_ n1_; (try clear hb); (try clear hb2); (try clear hk); (try clear hi)) | ((with_reducible refine gate_callee (f := 42) rfl ?_); refine goesL_ (some 16) rfl rfl Try.func42 (by kernel_rfl) rfl #[.agg #[.int .i64 t554, .string t555]] rfl zM ?_; (with_reducible refine (impl_IsAcyclic.calls k t554 t555 t556 _ A10.out).mono ?_); rintro e w29 ⟨rfl, hb⟩; refine ⟨_, rfl, ?_⟩; have n0_ := Aside0.mk (blk_below (g := gb549) (o := .cells #[.int .i64 a0_0, .string a0_1] 23 (0, 0)) (zK BK549.out) hb); have n1_ := Aside0.mk (below_step (zG GE549.out) hb); clear BK549; clear HB; have BK549 := n0_; have HB := n1_; clear n0_ n1_; (try clear hb); (try clear hb2); (try clear hk); (try clear hi)))
   go_ret
   exact ⟨zE, zG GE549.out⟩
end Go.Proofs.Ytggbekkinkggfaa.PX
namespace Go.Proofs.Ytggbekkinkggfaa.M
open Go.RowKit Go.Proofs.YtggbekkinkggfaaW.PrintWords Go.Proofs.Ytggbekkinkggfaa.PX Go.Proofs.Ytggbekkinkggfaa.G
def acyOk (n : Int) (t : ByteArray) : Bool := matOk n t && acyc n.toNat t
theorem impl_isA (n : Int) (t : ByteArray) (hs : t.size ≤ 9223372036854775807) : Ev (fun k => impl_IsAcyclic.f k n t) (acyOk n t) := by
  unfold impl_IsAcyclic.f acyOk
  refine ev_call (impl_mat n t hs) ?_
  cases h : matOk n t with
  | false => exact ev_neg (by decide) (Ev.now _)
  | true =>
    have ha := mat_are h
    obtain ⟨⟨h0, h1⟩, _, _⟩ := (areOk_iff _ _).1 ha
    obtain ⟨N, rfl⟩ : ∃ N : Nat, n = (N : Int) := Int.eq_ofNat_of_zero_le (by omega)
    exact ev_pos (by trivial) (Ev.bind (tableOf_ev ha) (ev_pos (tblL_length _ _) (Ev.bind (impl_acyc ha) (Ev.now _))))
theorem spec_isA (n : Int) (t : ByteArray) (hs : t.size ≤ 9223372036854775807) : Ev (fun k => spec_IsAcyclic.f k n t) (acyOk n t) := by
  unfold spec_IsAcyclic.f acyOk
  refine Ev.bind (spec_mat n t hs) ?_
  cases h : matOk n t with
  | false => exact ev_neg (by decide) (Ev.now _)
  | true =>
    have ha := mat_are h
    obtain ⟨⟨h0, h1⟩, _, _⟩ := (areOk_iff _ _).1 ha
    obtain ⟨N, rfl⟩ : ∃ N : Nat, n = (N : Int) := Int.eq_ofNat_of_zero_le (by omega)
    exact ev_pos (by trivial) (Ev.bind (spec_acyc ha) (Ev.now _))
end Go.Proofs.Ytggbekkinkggfaa.M
namespace Go.Proofs.Ytggbekkinkggfaa.Pure
open Go.RowKit Go.Proofs.YtggbekkinkggfaaW.PrintWords Go.Proofs.Ytggbekkinkggfaa.PX Go.Proofs.Ytggbekkinkggfaa.M
theorem FnExactIsAcyclic (n : Int) (t : ByteArray) (_ : (Lit.int .i64 n).wf = true) (hs : t.size ≤ 9223372036854775807) :
    ∃ k, laws_FnExactIsAcyclic.f k n t = some true := by
  refine Ev.rounds (r := true) ?_
  unfold laws_FnExactIsAcyclic.f
  obtain ⟨r, hr⟩ := sz_signs n t
  refine ev_call hr ?_
  by_cases h : r < 0
  · exact ev_pos h (Ev.now _)
  · exact ev_neg h (ev_call (a := (n, t)) rfl (Ev.bind (spec_isA n t hs) (ev_call (a := (n, t)) rfl (Ev.bind (impl_isA n t hs) (ev_neg (by simp) (Ev.now _))))))
end Go.Proofs.Ytggbekkinkggfaa.Pure
namespace Go.Proofs.Ytggbekkinkggfaa.fnExactIsAcyclic
open Go.ChangeShapes Go.WideShapes Go.ChangeAt Go.RowKit Go.Joins
open Go.ChangeMaps (open_string shut_string)
set_option linter.unusedVariables false
theorem own : ownKnob Try.prog.godebug = none := by kernel_rfl
theorem str_mk {H : Type} {enc : TypeId × Value → H} {P : Program} {w : World} {base : Nat} {spare : Nat → Bool} {held : Bool} {t : TypeId} {s : ByteArray} (ht : P.underlying t = some .string) (hs : s.size ≤ maxLen) : DataW.trod enc P w base spare held 1 t [.string s] = some (.lit (.string s.data.toList), []) := by
  simp [DataW.trod, ht, hs]
set_option maxRecDepth 100000 in
theorem lifted (os : Os) (started : os.Started) (H : Type) (enc : TypeId × Value → H) :
    ReturnsInHanded {} Try.checked os 12 .any (Rows.fnExactIsAcyclicSpec.pre6 enc Try.prog Try.f12 Rows.fnExactIsAcyclicRow.domain false) (Rows.fnExactIsAcyclicSpec.post enc Try.prog Try.f12 false true false false) := by
  refine returnsInHanded_of_change_sized (C := Try.checked) own started (by kernel_rfl) Try.func12
    (ChangeSpec.witness6 (enc := enc) (C := Try.checked) false ⟨#[], #[.agg #[.int .i64 0, .string ByteArray.empty]], []⟩ 8 (by kernel_rfl) (by kernel_rfl) (by kernel_rfl) (by kernel_rfl)) ?_
  intro W base args ds gs before hval0 hW hcnd hsz0 _
  have hsz : (DataW.weightsEach Try.prog (Try.f12.params.toList ++ Rows.fnExactIsAcyclicSpec.plain.varTypes Try.prog) (ds ++ gs)).all (· ≤ reachBytes) = true := hsz0
  have hval : ∀ (j : Nat) t v, Try.f12.params[j]? = some t → args[j]? = some v → Value.okWide Try.prog W .any base t v := hval0
  have hW' := hW
  obtain ⟨p, q, hA0, hV, rfl, hfz, hnd⟩ := hW
  have hA : DataW.TrodAll enc Try.prog W 0 (fun _ => true) true Try.f12.params.toList args.toList ds p := hA0
  rw [Try.params12] at hA hval hsz
  obtain ⟨v0, vs0, d0, ds0, p0, q0, hargs, rfl, rfl, h0, r0⟩ := trodAll_cons hA
  obtain ⟨rfl, rfl, rfl⟩ := trodAll_nil r0
  obtain rfl : args = #[v0] := by cases args; simp_all
  obtain ⟨rfl, rfl⟩ := trodVars_none hV
  obtain ⟨c0_0, c0_1, y0_0, y0_1, m0, rfl, rfl, rfl, hy0_0, hy0_1⟩ := open_agg2 Try.underlying23 (by kernel_rfl) (by kernel_rfl) (hval 0 23 v0 rfl rfl) h0
  obtain ⟨a0_0, e0_0, rfl, wa0⟩ := DataW.trod_int Try.underlying3 hy0_0
  obtain ⟨a0_1, e0_1, rfl, ws0⟩ := DataW.trod_string Try.underlying9 hy0_1
  simp only [List.cons.injEq, and_true] at e0_0 e0_1
  subst e0_0 e0_1
  clear hA0 hval0 hsz0 hsz
  obtain ⟨k, hP⟩ := Pure.FnExactIsAcyclic a0_0 a0_1 wa0 ws0
  refine (PX.laws_FnExactIsAcyclic.calls k a0_0 a0_1 true W hP rfl).mono fun e W' ⟨he, bel⟩ => ?_
  subst he
  exact ⟨_, rfl, _, _, _, [], _, [], hW', trodAll_mk1 (shut_bool Try.underlying4 _), (trodAll_cons_mk (shut_agg2 Try.underlying23 (by kernel_rfl) (by kernel_rfl) ⟨_, trod_int_mk 0 Try.underlying3 wa0⟩ ⟨_, str_mk Try.underlying9 ws0⟩) trodAll_mk0), rfl, bel.frame _, fun h => by cases h⟩
theorem over : Rows.fnExactIsAcyclicRow.holds Try.pinned (OpenSpec.ofChange Rows.fnExactIsAcyclicSpec) :=
  OpenClaim.holds_of_wide 12 Try.f12 rfl rfl rfl rfl rfl rfl rfl ⟨rfl, rfl, rfl, rfl, rfl⟩ rfl rfl rfl rfl rfl (by kernel_rfl) Try.func12 (by kernel_rfl)
    (of_decide_eq_true (by kernel_rfl)) (by unfold Func.isWrapper; first | (rw [if_pos (by decide +kernel)]; kernel_rfl) | (rw [if_neg (by decide +kernel)]; exact ⟨rfl, rfl⟩))
    (fun os started H enc _ => lifted os started H enc)
theorem proved : Rows.FnExactIsAcyclicSaid := over
#print axioms proved
end Go.Proofs.Ytggbekkinkggfaa.fnExactIsAcyclic
namespace Go.Proofs.Ytggbekkinkggfaa
/-- The row, under a short name, for the claim. -/
theorem fnExactIsAcyclic_holds : Rows.FnExactIsAcyclicSaid := fnExactIsAcyclic.proved
end Go.Proofs.Ytggbekkinkggfaa
