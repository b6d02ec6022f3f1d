/- FnExactRenameSigns returns true for all arguments and leaves them as they were. No condition. -/
import Derived.Test.YtggbekkinkggfaaProg
import Derived.Test.YtggbekkinkggfaaRows
import Derived.WalkKit
import Derived.ProofKit
import Derived.OpenShut
import Derived.ShutString
import Derived.ChangeOld
import Derived.Below
import Derived.SizedLaws
import Derived.Lib.SmallJoins
import Derived.ChangeSame
import Derived.Test.YtggbekkinkggfaaV1
import Derived.Test.YtggbekkinkggfaaBmrvfln1
import Derived.Test.YtggbekkinkggfaaBtpiqhs1
import Derived.Test.YtggbekkinkggfaaBxwqdye1
import Derived.Test.YtggbekkinkggfaaBngmswq1
import Derived.Test.YtggbekkinkggfaaBatzhxi1
set_option linter.unusedVariables false
set_option linter.unusedSimpArgs false
namespace Go.Proofs.Ytggbekkinkggfaa.PX
open Go.RowKit Go.Proofs.Ytggbekkinkggfaa.G Go.Proofs.YtggbekkinkggfaaW.PrintWords Go.Proofs.YtggbekkinkggfaaW.PrintLast Go.Proofs.YtggbekkinkggfaaW.PrintMore
attribute [local go_sem] max2_int min2_int max_two min_two max_three min_three max_four min_four   -- for this text's walks alone
set_option linter.unusedVariables false
set_option linter.unusedSimpArgs false
/-! ### spec_l1Max: function 79 -/
def spec_l1Max.f (a0 : Int) (a1 : Int) : Option (Int) := if a0 > a1 then (some a0) else (some a1)
set_option maxHeartbeats 8000000 in
set_option maxRecDepth 100000 in
theorem spec_l1Max.calls (a0 : Int) (a1 : Int) (r : Int) (w : World) (h : spec_l1Max.f a0 a1 = some r) :
  Calls Try.prog 79 #[.int .i64 a0, .int .i64 a1] w fun e w' => e = .returned (.int .i64 r) ∧ Drawn0 w w' := by
 have H : (if a0 > a1 then (some a0) else (some a1)) = some r := h
 clear h
 by_cases c3 : a0 > a1
 ·rw [if_pos c3] at H
  have c3b0 : decide (a1 < a0) = true := decide_eq_true c3
  clear c3
  obtain rfl := Option.some.inj H
  go_enter Try.func79, Try.ntmps79
  go_wp2
  go_ret
  exact ⟨by first | rfl | (simp; done) | (simp [*]; done), by repeat (first | exact Drawn0.refl _ | apply Drawn0.step)⟩
 ·rw [if_neg c3] at H
  have c3b0 : decide (a1 < a0) = false := decide_eq_false c3
  clear c3
  obtain rfl := Option.some.inj H
  go_enter Try.func79, Try.ntmps79
  go_wp2
  go_ret
  exact ⟨by first | rfl | (simp; done) | (simp [*]; done), by repeat (first | exact Drawn0.refl _ | apply Drawn0.step)⟩
/-! ### spec_l3Names: function 67 -/
def spec_l3Names.l0 : Nat → List Int → Int → List Bool → Int → Option (Bool)
 | 0, _, _, _, _ => none
 | k + 1, x0, x1, x5, x6 => if x6 < (x0.length : Int) then (if 0 ≤ x6 then ((spec_l1In.f (rd x0 x6) 0 (wrap64 (x1 - 1))).bind fun t455 => (if t455 = true then (if 0 ≤ (rd x0 x6) then (if (rd x0 x6) < (x5.length : Int) then (if rdOf false x5 (rd x0 x6) = true then (some false) else (spec_l3Names.l0 k x0 x1 (x5.set ((rd x0 x6) : Int).toNat true) (wrap64 (x6 + 1)))) else (none)) else (none)) else (some false))) else (none)) else (some ((x0.length : Int) == x1))
def spec_l3Names.f (k : Nat) (l0 : List Int) (a1 : Int) : Option (Bool) := (spec_l1Max.f 0 a1).bind fun t450 => (if 0 ≤ t450 then (if (t450 : Int).toNat ≤ 281474976710656 then (spec_l3Names.l0 k l0 a1 (List.replicate (t450 : Int).toNat false) 0) else (none)) else (none))
theorem spec_l3Names.mono_l : ∀ k, (∀ y0 y1 y2 y3, LeO (spec_l3Names.l0 k y0 y1 y2 y3) (spec_l3Names.l0 (k + 1) y0 y1 y2 y3))
 | 0 => fun _ _ _ _ r h => by simp [spec_l3Names.l0] at h
 | k + 1 => by
  have ih0 := spec_l3Names.mono_l k
  ·intro y0 y1 y2 y3
   unfold spec_l3Names.l0
   repeat' first
   | (with_reducible exact ih0 _ _ _ _)
   | (with_reducible exact LeO.refl _)
   | (with_reducible exact LeO.none _)
   | (with_reducible refine LeO.ite ?_ ?_)
   | (with_reducible refine LeO.bind ?_ (fun _ => ?_))
   | exact ih0 _ _ _ _
   | exact LeO.none _
   | refine LeO.ite ?_ ?_
   | refine LeO.bind ?_ (fun _ => ?_)
theorem spec_l3Names.mono : ∀ a0 a1 k, LeO (spec_l3Names.f k a0 a1) (spec_l3Names.f (k + 1) a0 a1) := by
 intro a0 a1 k
 have ih0 := spec_l3Names.mono_l k
 unfold spec_l3Names.f
 repeat' first
   | (with_reducible exact ih0 _ _ _ _)
   | (with_reducible exact LeO.refl _)
   | (with_reducible exact LeO.none _)
   | (with_reducible refine LeO.ite ?_ ?_)
   | (with_reducible refine LeO.bind ?_ (fun _ => ?_))
   | exact ih0 _ _ _ _
   | exact LeO.none _
   | refine LeO.ite ?_ ?_
   | refine LeO.bind ?_ (fun _ => ?_)
set_option maxHeartbeats 8000000 in
set_option maxRecDepth 100000 in
theorem spec_l3Names.calls (k : Nat) (A0 : Option Addr) (c0 : Nat) (l0 : List Int) (a1 : Int) (r : Bool) (w : World) (hr0 : Kd.C (Kd.int .i64) w A0 l0.length l0) (hc0 : l0.length ≤ c0) (h : spec_l3Names.f k l0 a1 = some r) :
  Calls Try.prog 67 #[.slice A0 l0.length c0, .int .i64 a1] w fun e w' => e = .returned (.bool r) ∧ Below w.heap.size w w' := by
 have HR0 := Aside0.mk hr0
 have HC0 := Aside0.mk hc0
 clear hr0 hc0
 have HB := Aside0.mk (Below.refl w.heap.size w)
 have H : ((spec_l1Max.f 0 a1).bind fun t450 => (if 0 ≤ t450 then (if (t450 : Int).toNat ≤ 281474976710656 then (spec_l3Names.l0 k l0 a1 (List.replicate (t450 : Int).toNat false) 0) else (none)) else (none))) = some r := h
 clear h
 replace H := Option.bind_eq_some_iff.mp H
 obtain ⟨t450, A30, H⟩ := H
 replace H : (if 0 ≤ t450 then (if (t450 : Int).toNat ≤ 281474976710656 then (spec_l3Names.l0 k l0 a1 (List.replicate (t450 : Int).toNat false) 0) else (none)) else (none)) = some r := H
 have A3 := Aside0.mk A30
 clear A30
 by_cases c4 : 0 ≤ t450
 ·rw [if_pos c4] at H
  have c4b0 := eq_true c4
  have c4b1 : decide (0 ≤ t450) = true := decide_eq_true c4
  clear c4
  by_cases c5 : (t450 : Int).toNat ≤ 281474976710656
  ·rw [if_pos c5] at H
   have c5b0 := eq_true c5
   have c5b1 : decide ((t450 : Int).toNat ≤ 281474976710656) = true := decide_eq_true c5
   clear c5
   obtain ⟨y451, hy451⟩ : ∃ y_ : List Bool, y_ = (List.replicate (t450 : Int).toNat false) := ⟨_, rfl⟩
   replace H : (spec_l3Names.l0 k l0 a1 y451 0) = some r := by first | (rw [hy451]; with_reducible exact H) | (have H2_ := (Option.bind_some _ _).symm.trans H; rw [hy451]; with_reducible exact H2_) | (have H2_ := (Option.bind_some _ _).symm.trans H; with_reducible exact H2_) | with_reducible exact H | (rw [hy451]; exact H) | exact H
   have Ny451 := Aside0.mk hy451
   clear hy451
   have H' := Aside0.mk H
   clear H
   go_enter Try.func67, Try.ntmps67
   go_wp2_with (first | ((with_reducible refine gate_callee (f := 79) rfl ?_); refine goesL_ (some 8) rfl rfl Try.func79 (by kernel_rfl) rfl #[.int .i64 0, .int .i64 a1] rfl zM ?_; (with_reducible refine (spec_l1Max.calls 0 a1 t450 _ A3.out).mono ?_); rintro e w' ⟨rfl, ⟨nd, rfl⟩⟩; refine ⟨_, rfl, ?_⟩) | ((with_reducible refine gate_dst (N := 9) rfl ?_); refine Kd.R_make Kd.bool _ 4 rfl (N := 9) rfl 82 _ _ rfl t450 rfl rfl Try.underlying82 (.bool false) 1 info4 rfl (by decide) (by omega) false (ok := fun _ => True) (okp := fun _ => True) rfl (fun _ hk => hk) trivial (zA) (Nat.le_trans (Nat.mul_le_mul_right _ (zA : t450.toNat ≤ 281474976710656)) (by omega)) (Below.refl _ _) (Nat.le_refl _) ?_; intro v452 w6 ho7 hb hg_ hnew_; clear hg_ hnew_; (first | rw [← Ny451.out] at ho7 | (simp only [Int.reduceToNat] at ho7; rw [← Ny451.out] at ho7)); have n0_ := Aside0.mk (Kd.R_lower ho7 (below_size zB)); have n1_ := Aside0.mk (below_step zB hb); clear HB; have HO453 := n0_; have HB := n1_; clear n0_ n1_; clear hb ho7))
   go_loopg [6] k (fun kq v6 w' => ∃ (x5_1 : List Bool) (x6_1 : Int), v6 = .int .i64 x6_1 ∧ Aside0 (spec_l3Names.l0 kq l0 a1 x5_1 x6_1 = some r) ∧ Aside0 (kq ≤ k) ∧ Aside0 (Kd.R Kd.bool 4 w' w.heap.size (fun _ => True) v452 x5_1) ∧ Aside0 (Below w.heap.size w w'))
   case atStart => exact ⟨(y451), (0), zF, H', ⟨Nat.le_refl _⟩, ⟨zR HO453.out⟩, ⟨zB⟩⟩
   case round =>
    clear H'
    try clear p2
    try clear c4
    try clear c4b0
    try clear c4b1
    try clear c5
    try clear c5b0
    try clear c5b1
    try clear c6
    try clear c7
    obtain ⟨x5_1, x6_1, rfl, HA, HK1, HO_5, HB⟩ := hrel
    cases gk with
    | zero => exact absurd HA.out (by simp [spec_l3Names.l0])
    | succ k1 =>
     have H := HA.out
     clear HA
     simp only [spec_l3Names.l0] at H
     by_cases c8 : x6_1 < (l0.length : Int)
     ·rw [if_pos c8] at H
      have c8b0 : decide (x6_1 < (l0.length : Int)) = true := decide_eq_true c8
      clear c8
      by_cases c9 : 0 ≤ x6_1
      ·rw [if_pos c9] at H
       have c9b0 : decide (0 ≤ x6_1) = true := decide_eq_true c9
       clear c9
       replace H := Option.bind_eq_some_iff.mp H
       obtain ⟨t455, A100, H⟩ := H
       replace H : (if t455 = true then (if 0 ≤ (rd l0 x6_1) then (if (rd l0 x6_1) < (x5_1.length : Int) then (if rdOf false x5_1 (rd l0 x6_1) = true then (some false) else (spec_l3Names.l0 k1 l0 a1 (x5_1.set ((rd l0 x6_1) : Int).toNat true) (wrap64 (x6_1 + 1)))) else (none)) else (none)) else (some false)) = some r := H
       have A10 := Aside0.mk A100
       clear A100
       by_cases c11 : t455 = true
       ·subst c11
        have H1 : (if 0 ≤ (rd l0 x6_1) then (if (rd l0 x6_1) < (x5_1.length : Int) then (if rdOf false x5_1 (rd l0 x6_1) = true then (some false) else (spec_l3Names.l0 k1 l0 a1 (x5_1.set ((rd l0 x6_1) : Int).toNat true) (wrap64 (x6_1 + 1)))) else (none)) else (none)) = some r := by rw [if_pos rfl] at H; exact H
        clear H
        have H := H1
        clear H1
        by_cases c12 : 0 ≤ (rd l0 x6_1)
        ·rw [if_pos c12] at H
         have c12b0 : decide (0 ≤ (rd l0 x6_1)) = true := decide_eq_true c12
         clear c12
         by_cases c13 : (rd l0 x6_1) < (x5_1.length : Int)
         ·rw [if_pos c13] at H
          have c13b0 : decide ((rd l0 x6_1) < (x5_1.length : Int)) = true := decide_eq_true c13
          clear c13
          obtain ⟨bq14, hbq14⟩ : ∃ b_ : Bool, b_ = (rdOf false x5_1 (rd l0 x6_1)) := ⟨_, rfl⟩
          replace H : (if bq14 = true then (some false) else (spec_l3Names.l0 k1 l0 a1 (x5_1.set ((rd l0 x6_1) : Int).toNat true) (wrap64 (x6_1 + 1)))) = some r := by rw [← hbq14] at H; exact H
          have Nbq14 := Aside0.mk hbq14
          clear hbq14
          by_cases c15 : bq14 = true
          ·subst c15
           have H1 : (some false) = some r := by rw [if_pos rfl] at H; exact H
           clear H
           have H := H1
           clear H1
           obtain rfl := Option.some.inj H
           have p454 : 0 ≤ (x6_1 : Int) := zA
           have q454 : x6_1 < (l0.length : Int) := zA
           obtain ⟨ad454, e454, hx454_0⟩ := Kd.at_int HR0.out x6_1 p454 q454
           cases e454
           replace hx454_0 := (HB.out.cell (World.block_lt_of_cell? w _ hx454_0)).trans hx454_0
           replace p454 := eq_true p454
           replace q454 := eq_true q454
           go_wp2_with (first | ((with_reducible refine gate_callee (f := 49) rfl ?_); refine goesL_ (some 22) rfl rfl Try.func49 (by kernel_rfl) rfl #[.int .i64 (rd l0 x6_1), .int .i64 0, .int .i64 (wrap64 (a1 - 1))] rfl zM ?_; (with_reducible refine (spec_l1In.calls (rd l0 x6_1) 0 (wrap64 (a1 - 1)) true _ A10.out).mono ?_); rintro e w' ⟨rfl, ⟨nd, rfl⟩⟩; refine ⟨_, rfl, ?_⟩; have p456 : 0 ≤ (x6_1 : Int) := zA; have q456 : x6_1 < (l0.length : Int) := zA; obtain ⟨ad456, e456, hx456_0⟩ := Kd.at_int HR0.out x6_1 p456 q456; obtain rfl : ad454 = ad456 := (by injection e456); replace hx456_0 := (HB.out.cell (World.block_lt_of_cell? w _ hx456_0)).trans hx456_0; replace p456 := eq_true p456; replace q456 := eq_true q456; obtain ⟨Ao16, co16, eo16⟩ := Kd.R_slice HO_5.out; subst eo16; have p457 : 0 ≤ ((rd l0 x6_1) : Int) := zA; have q457 : (rd l0 x6_1) < (x5_1.length : Int) := zA; obtain ⟨ad457, e457, hx457_0⟩ := Kd.at_bool (Kd.R_reads' HO_5.out).2.2 (rd l0 x6_1) p457 q457; (try rw [← Nbq14.out] at hx457_0); cases e457; replace p457 := eq_true p457; replace q457 := eq_true q457))
           go_ret
           exact ⟨zE, zB⟩
          ·replace c15 := Bool.eq_false_iff.mpr c15
           subst c15
           have H1 : (spec_l3Names.l0 k1 l0 a1 (x5_1.set ((rd l0 x6_1) : Int).toNat true) (wrap64 (x6_1 + 1))) = some r := by rw [if_neg (show ¬ (false = true) by decide)] at H; exact H
           clear H
           have H := H1
           clear H1
           obtain ⟨y459, hy459⟩ : ∃ y_ : List Bool, y_ = (x5_1.set ((rd l0 x6_1) : Int).toNat true) := ⟨_, rfl⟩
           replace H : (spec_l3Names.l0 k1 l0 a1 y459 (wrap64 (x6_1 + 1))) = some r := by first | (rw [hy459]; with_reducible exact H) | (have H2_ := (Option.bind_some _ _).symm.trans H; rw [hy459]; with_reducible exact H2_) | (have H2_ := (Option.bind_some _ _).symm.trans H; with_reducible exact H2_) | with_reducible exact H | (rw [hy459]; exact H) | exact H
           have Ny459 := Aside0.mk hy459
           clear hy459
           have H' := Aside0.mk H
           clear H
           have p454 : 0 ≤ (x6_1 : Int) := zA
           have q454 : x6_1 < (l0.length : Int) := zA
           obtain ⟨ad454, e454, hx454_0⟩ := Kd.at_int HR0.out x6_1 p454 q454
           cases e454
           replace hx454_0 := (HB.out.cell (World.block_lt_of_cell? w _ hx454_0)).trans hx454_0
           replace p454 := eq_true p454
           replace q454 := eq_true q454
           go_wp2_with (first | ((with_reducible refine gate_callee (f := 49) rfl ?_); refine goesL_ (some 22) rfl rfl Try.func49 (by kernel_rfl) rfl #[.int .i64 (rd l0 x6_1), .int .i64 0, .int .i64 (wrap64 (a1 - 1))] rfl zM ?_; (with_reducible refine (spec_l1In.calls (rd l0 x6_1) 0 (wrap64 (a1 - 1)) true _ A10.out).mono ?_); rintro e w' ⟨rfl, ⟨nd, rfl⟩⟩; refine ⟨_, rfl, ?_⟩; (try (rw [drewN_self wr]; generalize hq_ : World.drewN wr _ = wr; have n0_ : Aside0 (Kd.R Kd.bool 4 wr w.heap.size (fun _ => True) v452 x5_1) := ⟨by rw [← hq_]; exact (zR HO_5.out)⟩; have n1_ : Aside0 (Below w.heap.size w wr) := ⟨by rw [← hq_]; exact zB⟩; clear HO_5 HB hq_; have HO_5 := n0_; have HB := n1_; clear n0_ n1_)); have p456 : 0 ≤ (x6_1 : Int) := zA; have q456 : x6_1 < (l0.length : Int) := zA; obtain ⟨ad456, e456, hx456_0⟩ := Kd.at_int HR0.out x6_1 p456 q456; obtain rfl : ad454 = ad456 := (by injection e456); replace hx456_0 := (HB.out.cell (World.block_lt_of_cell? w _ hx456_0)).trans hx456_0; replace p456 := eq_true p456; replace q456 := eq_true q456; obtain ⟨Ao18, co18, eo18⟩ := Kd.R_slice HO_5.out; subst eo18; have p457 : 0 ≤ ((rd l0 x6_1) : Int) := zA; have q457 : (rd l0 x6_1) < (x5_1.length : Int) := zA; obtain ⟨ad457, e457, hx457_0⟩ := Kd.at_bool (Kd.R_reads' HO_5.out).2.2 (rd l0 x6_1) p457 q457; (try rw [← Nbq14.out] at hx457_0); cases e457; replace p457 := eq_true p457; replace q457 := eq_true q457; have p458 : 0 ≤ (x6_1 : Int) := zA; have q458 : x6_1 < (l0.length : Int) := zA; obtain ⟨ad458, e458, hx458_0⟩ := Kd.at_int HR0.out x6_1 p458 q458; obtain rfl : ad454 = ad458 := (by injection e458); replace hx458_0 := (HB.out.cell (World.block_lt_of_cell? w _ hx458_0)).trans hx458_0; replace p458 := eq_true p458; replace q458 := eq_true q458; have p17 : 0 ≤ ((rd l0 x6_1) : Int) := zA; have q17 : ((rd l0 x6_1) : Int) < ((x5_1.length : Int) : Int) := zA; obtain ⟨go17, co17, eo17, gb17, gl17, cl17, HG17⟩ := Kd.R_form HO_5.out (by omega); (first | cases eo17 | (injection eo17 with ea_ en_ ec_; (first | subst ea_ | (injection ea_ with ea_; subst ea_)); subst ec_; clear en_)); have GB17 := Aside0.mk gb17; have GG17 := Aside0.mk HG17; clear gb17 gl17 HG17; (first | simp only [add_plain] at hx457_0 | skip); obtain ⟨hx17_0, hf17_0⟩ := Kd.R_celln false HO_5.out ((rd l0 x6_1) : Int) p17 q17; replace p17 := eq_true p17; replace q17 := eq_true q17; obtain ⟨hy19_, hz19_⟩ := Kd.R_celln false HO_5.out ((rd l0 x6_1) : Int) (zA) (zA); have HP19 := Kd.R_putg HO_5.out ((rd l0 x6_1) : Int) true) | ((with_reducible refine gate_store (t := 4) (p := 38) rfl ?_); refine store_event (t := 4) (p := 38) (v := ?vo_w20) (w1 := (wr.setCell ⟨go17, ((rd l0 x6_1) : Int).toNat, none⟩ (.bool true))) ?hg ?ho ?hn ?hr ?_; (case ho => rfl); (case hg => rfl); (case hn => rfl); (case hr => first | (go_simp; done) | (go_simp; rfl)); intro w20 hw; have hg : wr.grownBy w20 (some go17) := (by rw [hw]; exact HP19.2); have hp_ : Kd.R Kd.bool 4 w20 w.heap.size (fun _ => True) (.slice (some ⟨go17, 0, none⟩) x5_1.length co18) y459 := (by rw [hw, Ny459.out]; exact HP19.1); clear HP19; have n0_ := Aside0.mk (hp_); have n1_ := Aside0.mk ((by rw [hw]; exact below_set (HB.out) GB17.out : Below w.heap.size w w20)); clear HO_5; clear HB; have HO_5 := n0_; have HB := n1_; clear n0_ n1_; clear hg hw hp_))
           go_roundg k1
           case measure => have := HK1.out; omega
           case rel => exact ⟨(y459), (wrap64 (x6_1 + 1)), zF, H', ⟨by have := HK1.out; omega⟩, ⟨zR HO_5.out⟩, ⟨zB⟩⟩
         ·rw [if_neg c13] at H
          exact absurd H (by simp)
        ·rw [if_neg c12] at H
         exact absurd H (by simp)
       ·replace c11 := Bool.eq_false_iff.mpr c11
        subst c11
        have H1 : (some false) = some r := by rw [if_neg (show ¬ (false = true) by decide)] at H; exact H
        clear H
        have H := H1
        clear H1
        obtain rfl := Option.some.inj H
        have p454 : 0 ≤ (x6_1 : Int) := zA
        have q454 : x6_1 < (l0.length : Int) := zA
        obtain ⟨ad454, e454, hx454_0⟩ := Kd.at_int HR0.out x6_1 p454 q454
        cases e454
        replace hx454_0 := (HB.out.cell (World.block_lt_of_cell? w _ hx454_0)).trans hx454_0
        replace p454 := eq_true p454
        replace q454 := eq_true q454
        go_wp2_with (first | ((with_reducible refine gate_callee (f := 49) rfl ?_); refine goesL_ (some 22) rfl rfl Try.func49 (by kernel_rfl) rfl #[.int .i64 (rd l0 x6_1), .int .i64 0, .int .i64 (wrap64 (a1 - 1))] rfl zM ?_; (with_reducible refine (spec_l1In.calls (rd l0 x6_1) 0 (wrap64 (a1 - 1)) false _ A10.out).mono ?_); rintro e w' ⟨rfl, ⟨nd, rfl⟩⟩; refine ⟨_, rfl, ?_⟩))
        go_ret
        exact ⟨zE, zB⟩
      ·rw [if_neg c9] at H
       exact absurd H (by simp)
     ·rw [if_neg c8] at H
      have c8b0 : decide (x6_1 < (l0.length : Int)) = false := decide_eq_false c8
      clear c8
      obtain rfl := Option.some.inj H
      go_wp2
      go_ret
      exact ⟨zE, zB⟩
  ·rw [if_neg c5] at H
   exact absurd H (by simp)
 ·rw [if_neg c4] at H
  exact absurd H (by simp)
/-! ### spec_l3Turned: function 68 -/
def spec_l3Turned.l0 : Nat → List Int → List Int → Int → Option (List Int)
 | 0, _, _, _ => none
 | k + 1, x0, x3, x4 => if x4 < (x0.length : Int) then (if 0 ≤ x4 then (if 0 ≤ (rd x0 x4) then (if (rd x0 x4) < (x3.length : Int) then (spec_l3Turned.l0 k x0 (x3.set ((rd x0 x4) : Int).toNat x4) (wrap64 (x4 + 1))) else (none)) else (none)) else (none)) else (some x3)
def spec_l3Turned.f (k : Nat) (l0 : List Int) : Option (List Int) := if 0 ≤ (l0.length : Int) then (if ((l0.length : Int) : Int).toNat ≤ 35184372088832 then (spec_l3Turned.l0 k l0 (List.replicate ((l0.length : Int) : Int).toNat 0) 0) else (none)) else (none)
theorem spec_l3Turned.mono_l : ∀ k, (∀ y0 y1 y2, LeO (spec_l3Turned.l0 k y0 y1 y2) (spec_l3Turned.l0 (k + 1) y0 y1 y2))
 | 0 => fun _ _ _ r h => by simp [spec_l3Turned.l0] at h
 | k + 1 => by
  have ih0 := spec_l3Turned.mono_l k
  ·intro y0 y1 y2
   unfold spec_l3Turned.l0
   repeat' first
   | (with_reducible exact ih0 _ _ _)
   | (with_reducible exact LeO.refl _)
   | (with_reducible exact LeO.none _)
   | (with_reducible refine LeO.ite ?_ ?_)
   | (with_reducible refine LeO.bind ?_ (fun _ => ?_))
   | exact ih0 _ _ _
   | exact LeO.none _
   | refine LeO.ite ?_ ?_
   | refine LeO.bind ?_ (fun _ => ?_)
theorem spec_l3Turned.mono : ∀ a0 k, LeO (spec_l3Turned.f k a0) (spec_l3Turned.f (k + 1) a0) := by
 intro a0 k
 have ih0 := spec_l3Turned.mono_l k
 unfold spec_l3Turned.f
 repeat' first
   | (with_reducible exact ih0 _ _ _)
   | (with_reducible exact LeO.refl _)
   | (with_reducible exact LeO.none _)
   | (with_reducible refine LeO.ite ?_ ?_)
   | (with_reducible refine LeO.bind ?_ (fun _ => ?_))
   | exact ih0 _ _ _
   | exact LeO.none _
   | refine LeO.ite ?_ ?_
   | refine LeO.bind ?_ (fun _ => ?_)
set_option maxHeartbeats 8000000 in
set_option maxRecDepth 100000 in
theorem spec_l3Turned.calls (k : Nat) (A0 : Option Addr) (c0 : Nat) (l0 : List Int) (r : List Int) (w : World) (hr0 : Kd.C (Kd.int .i64) w A0 l0.length l0) (hc0 : l0.length ≤ c0) (h : spec_l3Turned.f k l0 = some r) :
  Calls Try.prog 68 #[.slice A0 l0.length c0] w fun e w' => ∃ v0_ : Value, e = .returned (v0_) ∧ Kd.R (Kd.int .i64) 3 w' w.heap.size (fun _ => True) v0_ r ∧ Below w.heap.size w w' := by
 have HR0 := Aside0.mk hr0
 have HC0 := Aside0.mk hc0
 clear hr0 hc0
 have HB := Aside0.mk (Below.refl w.heap.size w)
 have H : (if 0 ≤ (l0.length : Int) then (if ((l0.length : Int) : Int).toNat ≤ 35184372088832 then (spec_l3Turned.l0 k l0 (List.replicate ((l0.length : Int) : Int).toNat 0) 0) else (none)) else (none)) = some r := h
 clear h
 by_cases c2 : 0 ≤ (l0.length : Int)
 ·rw [if_pos c2] at H
  have c2b0 := eq_true c2
  have c2b1 : decide (0 ≤ (l0.length : Int)) = true := decide_eq_true c2
  clear c2
  by_cases c3 : ((l0.length : Int) : Int).toNat ≤ 35184372088832
  ·rw [if_pos c3] at H
   have c3b0 := eq_true c3
   have c3b1 : decide (((l0.length : Int) : Int).toNat ≤ 35184372088832) = true := decide_eq_true c3
   clear c3
   obtain ⟨y460, hy460⟩ : ∃ y_ : List Int, y_ = (List.replicate ((l0.length : Int) : Int).toNat 0) := ⟨_, rfl⟩
   replace H : (spec_l3Turned.l0 k l0 y460 0) = some r := by first | (rw [hy460]; with_reducible exact H) | (have H2_ := (Option.bind_some _ _).symm.trans H; rw [hy460]; with_reducible exact H2_) | (have H2_ := (Option.bind_some _ _).symm.trans H; with_reducible exact H2_) | with_reducible exact H | (rw [hy460]; exact H) | exact H
   have Ny460 := Aside0.mk hy460
   clear hy460
   have H' := Aside0.mk H
   clear H
   go_enter Try.func68, Try.ntmps68
   go_wp2_with (first | ((with_reducible refine gate_dst (N := 7) rfl ?_); refine Kd.R_make (Kd.int .i64) _ 3 rfl (N := 7) rfl 38 _ _ rfl (l0.length : Int) rfl rfl Try.underlying38 (.int .i64 0) 8 info3 rfl (by decide) (by omega) 0 (ok := fun _ => True) (okp := fun _ => True) rfl (fun _ hk => hk) trivial (zA) (Nat.le_trans (Nat.mul_le_mul_right _ (zA : (l0.length : Int).toNat ≤ 35184372088832)) (by omega)) (Below.refl _ _) (Nat.le_refl _) ?_; intro v461 w4 ho5 hb hg_ hnew_; clear hg_ hnew_; (first | rw [← Ny460.out] at ho5 | (simp only [Int.reduceToNat] at ho5; rw [← Ny460.out] at ho5)); have n0_ := Aside0.mk (Kd.R_lower ho5 (below_size zB)); have n1_ := Aside0.mk (below_step zB hb); clear HB; have HO462 := n0_; have HB := n1_; clear n0_ n1_; clear hb ho5))
   go_loopg [4] k (fun kq v4 w' => ∃ (x3_1 : List Int) (x4_1 : Int), v4 = .int .i64 x4_1 ∧ Aside0 (spec_l3Turned.l0 kq l0 x3_1 x4_1 = some r) ∧ Aside0 (kq ≤ k) ∧ Aside0 (Kd.R (Kd.int .i64) 3 w' w.heap.size (fun _ => True) v461 x3_1) ∧ Aside0 (Below w.heap.size w w'))
   case atStart => exact ⟨(y460), (0), zF, H', ⟨Nat.le_refl _⟩, ⟨zR HO462.out⟩, ⟨zB⟩⟩
   case round =>
    clear H'
    try clear c2
    try clear c2b0
    try clear c2b1
    try clear p2
    try clear c3
    try clear c3b0
    try clear c3b1
    obtain ⟨x3_1, x4_1, rfl, HA, HK1, HO_3, HB⟩ := hrel
    cases gk with
    | zero => exact absurd HA.out (by simp [spec_l3Turned.l0])
    | succ k1 =>
     have H := HA.out
     clear HA
     simp only [spec_l3Turned.l0] at H
     by_cases c6 : x4_1 < (l0.length : Int)
     ·rw [if_pos c6] at H
      have c6b0 : decide (x4_1 < (l0.length : Int)) = true := decide_eq_true c6
      clear c6
      by_cases c7 : 0 ≤ x4_1
      ·rw [if_pos c7] at H
       have c7b0 : decide (0 ≤ x4_1) = true := decide_eq_true c7
       clear c7
       by_cases c8 : 0 ≤ (rd l0 x4_1)
       ·rw [if_pos c8] at H
        have c8b0 : decide (0 ≤ (rd l0 x4_1)) = true := decide_eq_true c8
        clear c8
        by_cases c9 : (rd l0 x4_1) < (x3_1.length : Int)
        ·rw [if_pos c9] at H
         have c9b0 : decide ((rd l0 x4_1) < (x3_1.length : Int)) = true := decide_eq_true c9
         clear c9
         obtain ⟨y464, hy464⟩ : ∃ y_ : List Int, y_ = (x3_1.set ((rd l0 x4_1) : Int).toNat x4_1) := ⟨_, rfl⟩
         replace H : (spec_l3Turned.l0 k1 l0 y464 (wrap64 (x4_1 + 1))) = some r := by first | (rw [hy464]; with_reducible exact H) | (have H2_ := (Option.bind_some _ _).symm.trans H; rw [hy464]; with_reducible exact H2_) | (have H2_ := (Option.bind_some _ _).symm.trans H; with_reducible exact H2_) | with_reducible exact H | (rw [hy464]; exact H) | exact H
         have Ny464 := Aside0.mk hy464
         clear hy464
         have H' := Aside0.mk H
         clear H
         have p463 : 0 ≤ (x4_1 : Int) := zA
         have q463 : x4_1 < (l0.length : Int) := zA
         obtain ⟨ad463, e463, hx463_0⟩ := Kd.at_int HR0.out x4_1 p463 q463
         cases e463
         replace hx463_0 := (HB.out.cell (World.block_lt_of_cell? w _ hx463_0)).trans hx463_0
         replace p463 := eq_true p463
         replace q463 := eq_true q463
         have p10 : 0 ≤ ((rd l0 x4_1) : Int) := zA
         have q10 : ((rd l0 x4_1) : Int) < ((x3_1.length : Int) : Int) := zA
         obtain ⟨go10, co10, eo10, gb10, gl10, cl10, HG10⟩ := Kd.R_form HO_3.out (by omega)
         (first | cases eo10 | (injection eo10 with ea_ en_ ec_; (first | subst ea_ | (injection ea_ with ea_; subst ea_)); subst ec_; clear en_))
         have GB10 := Aside0.mk gb10
         have GG10 := Aside0.mk HG10
         clear gb10 gl10 HG10
         obtain ⟨hx10_0, hf10_0⟩ := Kd.R_celln 0 HO_3.out ((rd l0 x4_1) : Int) p10 q10
         replace p10 := eq_true p10
         replace q10 := eq_true q10
         have HP11 := Kd.R_putg HO_3.out ((rd l0 x4_1) : Int) x4_1
         go_wp2_with (first | ((with_reducible refine gate_store (t := 3) (p := 20) rfl ?_); refine store_event (t := 3) (p := 20) (v := ?vo_w12) (w1 := (wr.setCell ⟨go10, ((rd l0 x4_1) : Int).toNat, none⟩ (.int .i64 x4_1))) ?hg ?ho ?hn ?hr ?_; (case ho => rfl); (case hg => rfl); (case hn => rfl); (case hr => first | (go_simp; done) | (go_simp; rfl)); intro w12 hw; have hg : wr.grownBy w12 (some go10) := (by rw [hw]; exact HP11.2); have hp_ : Kd.R (Kd.int .i64) 3 w12 w.heap.size (fun _ => True) (.slice (some ⟨go10, 0, none⟩) x3_1.length co10) y464 := (by rw [hw, Ny464.out]; exact HP11.1); clear HP11; have n0_ := Aside0.mk (hp_); have n1_ := Aside0.mk ((by rw [hw]; exact below_set (HB.out) GB10.out : Below w.heap.size w w12)); clear HO_3; clear HB; have HO_3 := n0_; have HB := n1_; clear n0_ n1_; clear hg hw hp_))
         go_roundg k1
         case measure => have := HK1.out; omega
         case rel => exact ⟨(y464), (wrap64 (x4_1 + 1)), zF, H', ⟨by have := HK1.out; omega⟩, ⟨zR HO_3.out⟩, ⟨zB⟩⟩
        ·rw [if_neg c9] at H
         exact absurd H (by simp)
       ·rw [if_neg c8] at H
        exact absurd H (by simp)
      ·rw [if_neg c7] at H
       exact absurd H (by simp)
     ·rw [if_neg c6] at H
      have c6b0 : decide (x4_1 < (l0.length : Int)) = false := decide_eq_false c6
      clear c6
      obtain rfl := Option.some.inj H
      go_wp2
      go_ret
      exact ⟨_, zE, zR HO_3.out, zB⟩
  ·rw [if_neg c3] at H
   exact absurd H (by simp)
 ·rw [if_neg c2] at H
  exact absurd H (by simp)
/-! ### spec_RenameSigns: function 38 -/
def spec_RenameSigns.j0 : Nat → List Int → Bool → Int → ByteArray → Option (Int × ByteArray × Bool)
 | 0, _, _, _, _ => none
 | k + 1, x1, x15, x466000, x466001 => if x15 = true then (some (0, (⟨#[]⟩ : ByteArray), false)) else ((spec_l3Turned.f k x1).bind fun t469 => ((spec_l3Pick.f k x466000 x466001 t469).bind fun bt472 => (some (bt472.1, bt472.2, true))))
def spec_RenameSigns.f (k : Nat) (a0_0 : Int) (a0_1 : ByteArray) (l1 : List Int) : Option (Int × ByteArray × Bool) := (spec_AreSigns.f k a0_0 a0_1).bind fun t467 => (if t467 = true then ((spec_l3Names.f k l1 a0_0).bind fun t468 => (spec_RenameSigns.j0 k l1 (!t468) a0_0 a0_1)) else (spec_RenameSigns.j0 k l1 true a0_0 a0_1))
theorem spec_RenameSigns.mono_l : ∀ k, (∀ y0 y1 y2 y3, LeO (spec_RenameSigns.j0 k y0 y1 y2 y3) (spec_RenameSigns.j0 (k + 1) y0 y1 y2 y3))
 | 0 => fun _ _ _ _ r h => by simp [spec_RenameSigns.j0] at h
 | k + 1 => by
  have ih0 := spec_RenameSigns.mono_l k
  ·intro y0 y1 y2 y3
   unfold spec_RenameSigns.j0
   repeat' first
   | (with_reducible exact ih0 _ _ _ _)
   | (with_reducible exact spec_AreSigns.mono _ _ _)
   | (with_reducible exact spec_l3Names.mono _ _ _)
   | (with_reducible exact spec_l3Pick.mono _ _ _ _)
   | (with_reducible exact spec_l3Turned.mono _ _)
   | (with_reducible exact LeO.refl _)
   | (with_reducible exact LeO.none _)
   | (with_reducible refine LeO.ite ?_ ?_)
   | (with_reducible refine LeO.bind ?_ (fun _ => ?_))
   | exact ih0 _ _ _ _
   | exact spec_AreSigns.mono _ _ _
   | exact spec_l3Names.mono _ _ _
   | exact spec_l3Pick.mono _ _ _ _
   | exact spec_l3Turned.mono _ _
   | exact LeO.none _
   | refine LeO.ite ?_ ?_
   | refine LeO.bind ?_ (fun _ => ?_)
theorem spec_RenameSigns.mono : ∀ a0 a1 a2 k, LeO (spec_RenameSigns.f k a0 a1 a2) (spec_RenameSigns.f (k + 1) a0 a1 a2) := by
 intro a0 a1 a2 k
 have ih0 := spec_RenameSigns.mono_l k
 unfold spec_RenameSigns.f
 repeat' first
   | (with_reducible exact ih0 _ _ _ _)
   | (with_reducible exact spec_AreSigns.mono _ _ _)
   | (with_reducible exact spec_l3Names.mono _ _ _)
   | (with_reducible exact spec_l3Pick.mono _ _ _ _)
   | (with_reducible exact spec_l3Turned.mono _ _)
   | (with_reducible exact LeO.refl _)
   | (with_reducible exact LeO.none _)
   | (with_reducible refine LeO.ite ?_ ?_)
   | (with_reducible refine LeO.bind ?_ (fun _ => ?_))
   | exact ih0 _ _ _ _
   | exact spec_AreSigns.mono _ _ _
   | exact spec_l3Names.mono _ _ _
   | exact spec_l3Pick.mono _ _ _ _
   | exact spec_l3Turned.mono _ _
   | exact LeO.none _
   | refine LeO.ite ?_ ?_
   | refine LeO.bind ?_ (fun _ => ?_)
set_option maxHeartbeats 8000000 in
set_option maxRecDepth 100000 in
theorem spec_RenameSigns.calls (k : Nat) (a0_0 : Int) (a0_1 : ByteArray) (A1 : Option Addr) (c1 : Nat) (l1 : List Int) (r1 : Int) (r2 : ByteArray) (r3 : Bool) (w : World) (hr1 : Kd.C (Kd.int .i64) w A1 l1.length l1) (hc1 : l1.length ≤ c1) (h : spec_RenameSigns.f k a0_0 a0_1 l1 = some (r1, r2, r3)) :
  Calls Try.prog 38 #[.agg #[.int .i64 a0_0, .string a0_1], .slice A1 l1.length c1] w fun e w' => e = .returned (.tuple #[.agg #[.int .i64 r1, .string r2], .bool r3]) ∧ Below w.heap.size w w' := by
 have hu26 := Try.underlying26
 have HR1 := Aside0.mk hr1
 have HC1 := Aside0.mk hc1
 clear hr1 hc1
 have HB := Aside0.mk (Below.refl w.heap.size w)
 have H : ((spec_AreSigns.f k a0_0 a0_1).bind fun t467 => (if t467 = true then ((spec_l3Names.f k l1 a0_0).bind fun t468 => (spec_RenameSigns.j0 k l1 (!t468) a0_0 a0_1)) else (spec_RenameSigns.j0 k l1 true a0_0 a0_1))) = some (r1, r2, r3) := h
 clear h
 have HC3 := Aside0.mk H
 clear H
 go_enter Try.func38, Try.ntmps38
 go_upto_region 1 with (first | ((with_reducible refine gate_dst (N := 2) rfl ?_); refine box_event ?hg (N := 2) ?hd (cs := #[.int .i64 a0_0, .string a0_1]) (t := 26) ?hr ?_; (case hd => rfl); (case hg => rfl); (case hr => first | (go_simp; done) | (go_simp; rfl)); intro gb465 hg w4 hbox hb; have n0_ := Aside0.mk (below_step zB hb); have n1_ := Aside0.mk (hbox); have n2_ := Aside0.mk ((by rw [hg]; exact (below_size zB) : w.heap.size ≤ gb465)); have n3_ := Aside0.mk ((by rw [hg]; exact (below_size zB) : w.heap.size ≤ gb465)); clear HB; have HB := n0_; have BK465 := n1_; have GW465 := n2_; have GE465 := n3_; clear n0_ n1_ n2_ n3_; clear hb hbox hg) | ((with_reducible refine gate_dst (N := 4) rfl ?_); refine box_event ?hg (N := 4) ?hd (cs := #[.int .i64 0, .string (⟨#[]⟩ : ByteArray)]) (t := 26) ?hr ?_; (case hd => rfl); (case hg => rfl); (case hr => first | (go_simp; done) | (go_simp; rfl)); intro gb466 hg w5 hbox hb; have n0_ := Aside0.mk (blk_below (g := gb465) (o := .cells #[.int .i64 a0_0, .string a0_1] 26 (0, 0)) (zK BK465.out) hb); have n1_ := Aside0.mk (below_step (zG GE465.out) hb); have n2_ := Aside0.mk (hbox); have n3_ := Aside0.mk ((by rw [hg]; exact (below_size (zG GE465.out)) : w.heap.size ≤ gb466)); have n4_ := Aside0.mk ((by rw [hg]; exact (below_size (zG GE465.out)) : w.heap.size ≤ gb466)); have n5_ := Aside0.mk ((by rw [hg]; exact Nat.ne_of_lt (blk_lt (g := gb465) (o := .cells #[.int .i64 a0_0, .string a0_1] 26 (0, 0)) (zK BK465.out)) : gb465 ≠ gb466)); have n6_ := Aside0.mk ((by rw [hg]; exact Nat.ne_of_gt (blk_lt (g := gb465) (o := .cells #[.int .i64 a0_0, .string a0_1] 26 (0, 0)) (zK BK465.out)) : gb466 ≠ gb465)); clear BK465; clear HB; have BK465 := n0_; have HB := n1_; have BK466 := n2_; have GW466 := n3_; have GE466 := n4_; have NB465_466 := n5_; have NB466_465 := n6_; clear n0_ n1_ n2_ n3_ n4_ n5_ n6_; clear hb hbox hg))
 (try simp only [Act.put, List.setIfInBounds_toArray, List.set_cons_zero, List.set_cons_succ])
 go_cut [15] (fun v15 wc => ∃ (kq : Nat) (x15_2 : Bool), v15 = .bool x15_2 ∧ Aside0 (spec_RenameSigns.j0 kq l1 x15_2 a0_0 a0_1 = some (r1, r2, r3)) ∧ Aside0 (kq ≤ k) ∧ Aside0 (wc.heap[gb465]? = some (.cells #[.int .i64 a0_0, .string a0_1] 26 (0, 0))) ∧ Aside0 (wc.heap[gb466]? = some (.cells #[.int .i64 0, .string (⟨#[]⟩ : ByteArray)] 26 (0, 0))) ∧ Aside0 (Below w.heap.size w wc))
 case first =>
  have H := HC3.out
  clear HC3
  replace H := Option.bind_eq_some_iff.mp H
  obtain ⟨t467, A60, H⟩ := H
  replace H : (if t467 = true then ((spec_l3Names.f k l1 a0_0).bind fun t468 => (spec_RenameSigns.j0 k l1 (!t468) a0_0 a0_1)) else (spec_RenameSigns.j0 k l1 true a0_0 a0_1)) = some (r1, r2, r3) := H
  have A6 := Aside0.mk A60
  clear A60
  by_cases c7 : t467 = true
  ·subst c7
   have H1 : ((spec_l3Names.f k l1 a0_0).bind fun t468 => (spec_RenameSigns.j0 k l1 (!t468) a0_0 a0_1)) = some (r1, r2, r3) := by rw [if_pos rfl] at H; exact H
   clear H
   have H := H1
   clear H1
   replace H := Option.bind_eq_some_iff.mp H
   obtain ⟨t468, A80, H⟩ := H
   replace H : (spec_RenameSigns.j0 k l1 (!t468) a0_0 a0_1) = some (r1, r2, r3) := H
   have A8 := Aside0.mk A80
   clear A80
   have H' := Aside0.mk H
   clear H
   have hnb9 := NB465_466.out
   have hnc9 := NB466_465.out
   have hcz10_0 : w5.cell? ⟨gb465, 0, none⟩ = some (.int .i64 a0_0) := (blk_cell BK465.out 0).trans rfl
   have hcz10_1 : w5.cell? ⟨gb465, 1, none⟩ = some (.string a0_1) := (blk_cell BK465.out 1).trans rfl
   have hfz10_0 := blk_frozen BK465.out 0
   have hfz10_1 := blk_frozen BK465.out 1
   go_wp2_with (first | ((with_reducible refine gate_callee (f := 17) rfl ?_); refine goesL_ (some 7) rfl rfl Try.func17 (by kernel_rfl) rfl #[.agg #[.int .i64 a0_0, .string a0_1]] rfl zM ?_; (with_reducible refine (spec_AreSigns.calls k a0_0 a0_1 true _ A6.out).mono ?_); rintro e w11 ⟨rfl, hb⟩; refine ⟨_, rfl, ?_⟩; have n0_ := Aside0.mk (blk_below (g := gb465) (o := .cells #[.int .i64 a0_0, .string a0_1] 26 (0, 0)) (zK BK465.out) hb); have n1_ := Aside0.mk (blk_below (g := gb466) (o := .cells #[.int .i64 0, .string (⟨#[]⟩ : ByteArray)] 26 (0, 0)) (zK BK466.out) hb); have n2_ := Aside0.mk (below_step (by repeat (first | (with_reducible first | exact HB.out | apply below_alloc | apply pw_below_drewN | apply below_drew1 | refine below_set ?_ GE465.out | refine below_set ?_ GE466.out) | exact HB.out)) hb); clear BK465; clear BK466; clear HB; have BK465 := n0_; have BK466 := n1_; have HB := n2_; clear n0_ n1_ n2_; (try clear hb); (try clear hb2); (try clear hk); (try clear hi); have hcz12_0 : w11.cell? ⟨gb465, 0, none⟩ = some (.int .i64 a0_0) := (blk_cell BK465.out 0).trans rfl; have hcz12_1 : w11.cell? ⟨gb465, 1, none⟩ = some (.string a0_1) := (blk_cell BK465.out 1).trans rfl; have hfz12_0 := blk_frozen BK465.out 0; have hfz12_1 := blk_frozen BK465.out 1) | (go_at_call 67; (with_reducible refine (spec_l3Names.calls k _ _ l1 a0_0 t468 _ ?side1 ?side2 A8.out).mono ?_); (case side1 => repeat (first | exact (Kd.C_below HR1.out HB.out) | (with_reducible refine Kd.C_alloc ?_ _) | (with_reducible refine Kd.C_drewN ?_ _) | (with_reducible refine Kd.C_drew ?_))); (case side2 => exact HC1.out); rintro e w13 ⟨rfl, hb⟩; have n0_ := Aside0.mk (blk_below (g := gb465) (o := .cells #[.int .i64 a0_0, .string a0_1] 26 (0, 0)) (zK BK465.out) hb); have n1_ := Aside0.mk (blk_below (g := gb466) (o := .cells #[.int .i64 0, .string (⟨#[]⟩ : ByteArray)] 26 (0, 0)) (zK BK466.out) hb); have n2_ := Aside0.mk (below_step (by repeat (first | (with_reducible first | exact HB.out | apply below_alloc | apply pw_below_drewN | apply below_drew1 | refine below_set ?_ GE465.out | refine below_set ?_ GE466.out) | exact HB.out)) hb); clear BK465; clear BK466; clear HB; have BK465 := n0_; have BK466 := n1_; have HB := n2_; clear n0_ n1_ n2_; (try clear hb); (try clear hb2); (try clear hk); (try clear hi)))
   go_meet
   case rel => exact ⟨_, (!t468), zF, H', ⟨by first | omega | exact Nat.le_refl _⟩, ⟨zK BK465.out⟩, ⟨zK BK466.out⟩, ⟨by repeat (first | (with_reducible first | exact HB.out | apply below_alloc | apply pw_below_drewN | apply below_drew1 | refine below_set ?_ GE465.out | refine below_set ?_ GE466.out) | exact HB.out)⟩⟩
  ·replace c7 := Bool.eq_false_iff.mpr c7
   subst c7
   have H1 : (spec_RenameSigns.j0 k l1 true a0_0 a0_1) = some (r1, r2, r3) := by rw [if_neg (show ¬ (false = true) by decide)] at H; exact H
   clear H
   have H := H1
   clear H1
   have H' := Aside0.mk H
   clear H
   have hnb14 := NB465_466.out
   have hnc14 := NB466_465.out
   have hcz15_0 : w5.cell? ⟨gb465, 0, none⟩ = some (.int .i64 a0_0) := (blk_cell BK465.out 0).trans rfl
   have hcz15_1 : w5.cell? ⟨gb465, 1, none⟩ = some (.string a0_1) := (blk_cell BK465.out 1).trans rfl
   have hfz15_0 := blk_frozen BK465.out 0
   have hfz15_1 := blk_frozen BK465.out 1
   go_wp2_with (first | ((with_reducible refine gate_callee (f := 17) rfl ?_); refine goesL_ (some 7) rfl rfl Try.func17 (by kernel_rfl) rfl #[.agg #[.int .i64 a0_0, .string a0_1]] rfl zM ?_; (with_reducible refine (spec_AreSigns.calls k a0_0 a0_1 false _ A6.out).mono ?_); rintro e w16 ⟨rfl, hb⟩; refine ⟨_, rfl, ?_⟩; have n0_ := Aside0.mk (blk_below (g := gb465) (o := .cells #[.int .i64 a0_0, .string a0_1] 26 (0, 0)) (zK BK465.out) hb); have n1_ := Aside0.mk (blk_below (g := gb466) (o := .cells #[.int .i64 0, .string (⟨#[]⟩ : ByteArray)] 26 (0, 0)) (zK BK466.out) hb); have n2_ := Aside0.mk (below_step (by repeat (first | (with_reducible first | exact HB.out | apply below_alloc | apply pw_below_drewN | apply below_drew1 | refine below_set ?_ GE465.out | refine below_set ?_ GE466.out) | exact HB.out)) hb); clear BK465; clear BK466; clear HB; have BK465 := n0_; have BK466 := n1_; have HB := n2_; clear n0_ n1_ n2_; (try clear hb); (try clear hb2); (try clear hk); (try clear hi)))
   go_meet
   case rel => exact ⟨_, (true), zF, H', ⟨by first | omega | exact Nat.le_refl _⟩, ⟨zK BK465.out⟩, ⟨zK BK466.out⟩, ⟨by repeat (first | (with_reducible first | exact HB.out | apply below_alloc | apply pw_below_drewN | apply below_drew1 | refine below_set ?_ GE465.out | refine below_set ?_ GE466.out) | exact HB.out)⟩⟩
 case rest =>
  clear HC3
  try clear c1
  try clear p2
  try clear c3
  try clear c7
  try clear c9
  try clear c14
  try clear hcz10_0
  try clear hcz10_1
  try clear hcz12_0
  try clear hcz12_1
  try clear hcz15_0
  try clear hcz15_1
  try clear hfz10_0
  try clear hfz10_1
  try clear hfz12_0
  try clear hfz12_1
  try clear hfz15_0
  try clear hfz15_1
  obtain ⟨kq, x15_2, rfl, HA, HJ2, BK465, BK466, HB⟩ := hcut
  cases kq with
  | zero => exact absurd HA.out (by simp [spec_RenameSigns.j0])
  | succ kj2 =>
   have H := HA.out
   clear HA
   simp only [spec_RenameSigns.j0] at H
   by_cases c17 : x15_2 = true
   ·subst c17
    have H1 : (some (0, (⟨#[]⟩ : ByteArray), false)) = some (r1, r2, r3) := by rw [if_pos rfl] at H; exact H
    clear H
    have H := H1
    clear H1
    simp only [Option.some.injEq, Prod.mk.injEq] at H
    obtain ⟨rfl, rfl, rfl⟩ := H
    have hnb18 := NB466_465.out
    have hnc18 := NB465_466.out
    have hcz19_0 : wc.cell? ⟨gb466, 0, none⟩ = some (.int .i64 0) := (blk_cell BK466.out 0).trans rfl
    have hcz19_1 : wc.cell? ⟨gb466, 1, none⟩ = some (.string (⟨#[]⟩ : ByteArray)) := (blk_cell BK466.out 1).trans rfl
    have hfz19_0 := blk_frozen BK466.out 0
    have hfz19_1 := blk_frozen BK466.out 1
    go_wp2
    refine bodyPost_ret (results_ct rfl _ _ gb466 26 #[.int .i64 0, .string (⟨#[]⟩ : ByteArray)] (0, 0) _ rfl (by (with_reducible repeat (first | refine blk_drewN ?_ _ | refine blk_drew ?_ | refine blk_alloc ?_ _)); refine blk_put (cs := #[.int .i64 0, .string (⟨#[]⟩ : ByteArray)]) ?_ 1 _ rfl; (with_reducible repeat (first | refine blk_drewN ?_ _ | refine blk_drew ?_ | refine blk_alloc ?_ _)); refine blk_put (cs := #[.int .i64 0, .string (⟨#[]⟩ : ByteArray)]) ?_ 0 _ rfl; (with_reducible repeat (first | refine blk_drewN ?_ _ | refine blk_drew ?_ | refine blk_alloc ?_ _)); exact BK466.out) Try.underlying26 rfl (by kernel_rfl)) rfl ?_
    exact ⟨zE, by repeat (first | (with_reducible first | exact HB.out | apply below_alloc | apply pw_below_drewN | apply below_drew1 | refine below_set ?_ GE465.out | refine below_set ?_ GE466.out) | exact HB.out)⟩
   ·replace c17 := Bool.eq_false_iff.mpr c17
    subst c17
    have H1 : ((spec_l3Turned.f kj2 l1).bind fun t469 => ((spec_l3Pick.f kj2 a0_0 a0_1 t469).bind fun bt472 => (some (bt472.1, bt472.2, true)))) = some (r1, r2, r3) := by rw [if_neg (show ¬ (false = true) by decide)] at H; exact H
    clear H
    have H := H1
    clear H1
    replace H := Option.bind_eq_some_iff.mp H
    obtain ⟨t469, A200, H⟩ := H
    replace H : ((spec_l3Pick.f kj2 a0_0 a0_1 t469).bind fun bt472 => (some (bt472.1, bt472.2, true))) = some (r1, r2, r3) := H
    have A20 := Aside0.mk A200
    clear A200
    replace H := Option.bind_eq_some_iff.mp H
    obtain ⟨⟨t472, t473⟩, A210, H⟩ := H
    replace H : (some (t472, t473, true)) = some (r1, r2, r3) := H
    have A21 := Aside0.mk A210
    clear A210
    simp only [Option.some.injEq, Prod.mk.injEq] at H
    obtain ⟨rfl, rfl, rfl⟩ := H
    try go_wp2
    have n0_ := Aside0.mk (blk_drew BK465.out)
    have n1_ := Aside0.mk (blk_drew BK466.out)
    have n2_ := Aside0.mk (below_drew1 HB.out)
    clear BK465
    clear BK466
    clear HB
    have BK465 := n0_
    have BK466 := n1_
    have HB := n2_
    clear n0_ n1_ n2_
    refine start_ (n := 6) (S := fun w' => w'.cell? ⟨gb465, 0, none⟩ = some (.int .i64 a0_0) ∧ w'.cell? ⟨gb465, 1, none⟩ = some (.string a0_1)) (ds := []) #[false, false, false, false, false, false] (by kernel_rfl) rfl rfl ⟨(blk_cell BK465.out 0).trans rfl, (blk_cell BK465.out 1).trans rfl⟩ (fun hHeld => ?_)
    generalize wc.drew = w22 at BK465 BK466 HB hHeld ⊢
    refine pure_ (i := 1) (N := some 18) (v := ?_) (a' := ?_) #[false, true, false, false, false, false] rfl rfl (by kernel_rfl) (fun _ _ _ h => h) (Or.inl ⟨by rfl, ?_⟩) ?_ ?_
    rotate_left
    ·intro w'
     go_simp
     with_reducible rfl
    rotate_left
    ·simp only [Act.put, List.setIfInBounds_toArray, List.set_cons_zero, List.set_cons_succ, i64_w, i32_w]
     rfl
    refine take_ (i := 0) (N := some 17) (v := ?_) (a' := ?_) #[true, true, false, false, false, false] rfl rfl (by kernel_rfl) (fun _ _ _ h => h) (Or.inl ⟨by rfl, ?_⟩) hHeld ?_ ?_
    rotate_left
    ·rintro w' ⟨s0, s1⟩
     go_simp
     with_reducible rfl
    rotate_left
    ·simp only [Act.put, List.setIfInBounds_toArray, List.set_cons_zero, List.set_cons_succ, i64_w, i32_w]
     rfl
    refine one_ (i := 2) (N := some 19) #[true, true, true, false, false, false] rfl rfl (by kernel_rfl) (by decide) (fun K hK => ?_)
    refine goes_ Try.func68 (by kernel_rfl) rfl #[.slice A1 l1.length c1] (by rfl) rfl rfl zM ?_
    with_reducible refine (spec_l3Turned.calls kj2 _ _ l1 t469 _ ?side1 ?side2 A20.out).mono ?_
    (case side1 => repeat (first | exact (Kd.C_below HR1.out HB.out) | (with_reducible refine Kd.C_alloc ?_ _) | (with_reducible refine Kd.C_drewN ?_ _) | (with_reducible refine Kd.C_drew ?_)))
    (case side2 => exact HC1.out)
    rintro e w23 ⟨v470, rfl, ho0, hb⟩
    refine ⟨_, rfl, ?_⟩
    have n0_ := Aside0.mk (Kd.R_lower ho0 (below_size (by repeat (first | (with_reducible first | exact HB.out | apply below_alloc | apply pw_below_drewN | apply below_drew1 | refine below_set ?_ GE465.out | refine below_set ?_ GE466.out) | exact HB.out))))
    have n1_ := Aside0.mk (blk_below (g := gb465) (o := .cells #[.int .i64 a0_0, .string a0_1] 26 (0, 0)) (zK BK465.out) hb)
    have n2_ := Aside0.mk (blk_below (g := gb466) (o := .cells #[.int .i64 0, .string (⟨#[]⟩ : ByteArray)] 26 (0, 0)) (zK BK466.out) hb)
    have n3_ := Aside0.mk (below_step (by repeat (first | (with_reducible first | exact HB.out | apply below_alloc | apply pw_below_drewN | apply below_drew1 | refine below_set ?_ GE465.out | refine below_set ?_ GE466.out) | exact HB.out)) hb)
    clear BK465
    clear BK466
    clear HB
    have HO471 := n0_
    have BK465 := n1_
    have BK466 := n2_
    have HB := n3_
    clear n0_ n1_ n2_ n3_
    (try clear hb)
    (try clear hb2)
    (try clear hk)
    (try clear hi)
    (try clear ho0)
    obtain ⟨Ao24, co24, eo24⟩ := Kd.R_slice HO471.out
    (first | subst eo24 | (injection eo24 with f1_ f2_ f3_; have f4_ := f1_.symm; have f5_ := f3_.symm; clear f1_ f2_ f3_; subst f4_; subst f5_))
    refine hK.out _ _ ⟨(blk_cell BK465.out 0).trans rfl, (blk_cell BK465.out 1).trans rfl⟩ (fun hHeld => ?_)
    clear hK K
    refine norm_ (a' := ?_) ?_ ?_
    rotate_left
    ·show Act.put _ (some 19) _ = _
     simp only [Act.put, List.setIfInBounds_toArray, List.set_cons_zero, List.set_cons_succ, i64_w, i32_w]
     rfl
    refine one_ (i := 3) (N := some 20) #[true, true, true, true, false, false] rfl rfl (by kernel_rfl) (by decide) (fun K hK => ?_)
    refine goes_ Try.func56 (by kernel_rfl) rfl #[.agg #[.int .i64 a0_0, .string a0_1], .slice Ao24 t469.length co24] (by rfl) rfl rfl zM ?_
    with_reducible refine (spec_l3Pick.calls kj2 a0_0 a0_1 _ _ t469 t472 t473 _ ?side1 ?side2 A21.out).mono ?_
    (case side1 => repeat (first | exact (Kd.R_reads' HO471.out).2.2 | (with_reducible refine Kd.C_alloc ?_ _) | (with_reducible refine Kd.C_drewN ?_ _) | (with_reducible refine Kd.C_drew ?_)))
    (case side2 => exact (Kd.R_reads' HO471.out).2.1)
    rintro e w25 ⟨rfl, hb⟩
    refine ⟨_, rfl, ?_⟩
    have n0_ := Aside0.mk (Kd.R_below (zR HO471.out) hb)
    have n1_ := Aside0.mk (blk_below (g := gb465) (o := .cells #[.int .i64 a0_0, .string a0_1] 26 (0, 0)) (zK BK465.out) hb)
    have n2_ := Aside0.mk (blk_below (g := gb466) (o := .cells #[.int .i64 0, .string (⟨#[]⟩ : ByteArray)] 26 (0, 0)) (zK BK466.out) hb)
    have n3_ := Aside0.mk (below_step (by repeat (first | (with_reducible first | exact HB.out | apply below_alloc | apply pw_below_drewN | apply below_drew1 | refine below_set ?_ GE465.out | refine below_set ?_ GE466.out) | exact HB.out)) hb)
    clear HO471
    clear BK465
    clear BK466
    clear HB
    have HO471 := n0_
    have BK465 := n1_
    have BK466 := n2_
    have HB := n3_
    clear n0_ n1_ n2_ n3_
    (try clear hb)
    (try clear hb2)
    (try clear hk)
    (try clear hi)
    refine hK.out _ _ ⟨(blk_cell BK465.out 0).trans rfl, (blk_cell BK465.out 1).trans rfl⟩ (fun hHeld => ?_)
    clear hK K
    refine norm_ (a' := ?_) ?_ ?_
    rotate_left
    ·show Act.put _ (some 20) _ = _
     simp only [Act.put, List.setIfInBounds_toArray, List.set_cons_zero, List.set_cons_succ, i64_w, i32_w]
     rfl
    refine one_ (i := 4) (N := none) #[true, true, true, true, true, false] rfl rfl (by kernel_rfl) (by decide) (fun K hK => ?_)
    have hs26 : w25.cell? ⟨gb466, 0, none⟩ = some (.int .i64 0) := (blk_cell BK466.out 0).trans rfl
    have hfs26 := blk_frozen BK466.out 0
    have hns26_0 := NB465_466.out
    have hms26_0 := NB466_465.out
    have hs27 : w25.cell? ⟨gb466, 1, none⟩ = some (.string (⟨#[]⟩ : ByteArray)) := (blk_cell BK466.out 1).trans rfl
    have hfs27 := blk_frozen BK466.out 1
    have hns27_0 := NB465_466.out
    have hms27_0 := NB466_465.out
    refine skip_ (w1 := ?_) (by rfl) rfl ?_ ?_
    rotate_left
    ·go_simp
     rfl
    refine hK.out _ _ ⟨((cell_far (p := ⟨gb466, _, none⟩) NB465_466.out _).trans (((cell_far (p := ⟨gb466, _, none⟩) NB465_466.out _).trans (hHeld.1)))), ((cell_far (p := ⟨gb466, _, none⟩) NB465_466.out _).trans (((cell_far (p := ⟨gb466, _, none⟩) NB465_466.out _).trans (hHeld.2))))⟩ (fun hHeld => ?_)
    clear hK K
    refine pure_ (i := 5) (N := some 5) (v := ?_) (a' := ?_) #[true, true, true, true, true, true] rfl rfl (by kernel_rfl) (fun _ _ _ h => h) (Or.inl ⟨by rfl, ?_⟩) ?_ ?_
    rotate_left
    ·intro w'
     go_simp
     with_reducible rfl
    rotate_left
    ·simp only [Act.put, List.setIfInBounds_toArray, List.set_cons_zero, List.set_cons_succ, i64_w, i32_w]
     rfl
    refine done_ (by kernel_rfl) ?_
    try go_wp2
    refine bodyPost_ret (results_ct rfl _ _ gb466 26 #[.int .i64 t472, .string t473] (0, 0) _ rfl (by (with_reducible repeat (first | refine blk_drewN ?_ _ | refine blk_drew ?_ | refine blk_alloc ?_ _)); refine blk_put (cs := #[.int .i64 t472, .string (⟨#[]⟩ : ByteArray)]) ?_ 1 _ rfl; (with_reducible repeat (first | refine blk_drewN ?_ _ | refine blk_drew ?_ | refine blk_alloc ?_ _)); refine blk_put (cs := #[.int .i64 0, .string (⟨#[]⟩ : ByteArray)]) ?_ 0 _ rfl; (with_reducible repeat (first | refine blk_drewN ?_ _ | refine blk_drew ?_ | refine blk_alloc ?_ _)); exact BK466.out) Try.underlying26 rfl (by kernel_rfl)) rfl ?_
    exact ⟨zE, by repeat (first | (with_reducible first | exact HB.out | apply below_alloc | apply pw_below_drewN | apply below_drew1 | refine below_set ?_ GE465.out | refine below_set ?_ GE466.out) | exact HB.out)⟩
/-! ### impl_chi_rename: function 69 -/
def impl_chi_rename.l0 : Nat → List Int → List Int → List Int → List (S62) → Int → Int → Option (Int × ByteArray)
 | 0, _, _, _, _, _, _ => none
 | k + 1, x0, x1, x5, x18, x19, x20 => if x20 < x19 then (if 0 ≤ x20 then (if x20 < (x18.length : Int) then (if 0 ≤ ((rd_T62 x18 x20).f0) then (if ((rd_T62 x18 x20).f0) < (x1.length : Int) then (if 0 ≤ ((rd_T62 x18 x20).f1) then (if ((rd_T62 x18 x20).f1) < (x1.length : Int) then (if 0 ≤ ((rd_T62 x18 x20).f2) then (if ((rd_T62 x18 x20).f2) < (x1.length : Int) then (if ((rd_T62 x18 x20).f0) < 7 then (if ((rd_T62 x18 x20).f1) < 7 then (if ((rd_T62 x18 x20).f2) < 7 then (if x5.length = 344 then ((impl_chi_set.f x5 (rd x1 ((rd_T62 x18 x20).f0)) (rd x1 ((rd_T62 x18 x20).f1)) (rd x1 ((rd_T62 x18 x20).f2)) (rd3 x0 ((rd_T62 x18 x20).f0) ((rd_T62 x18 x20).f1) ((rd_T62 x18 x20).f2))).bind fun t494 => (impl_chi_rename.l0 k x0 x1 t494 x18 x19 (wrap64 (x20 + 1)))) else (none)) else (none)) else (none)) else (none)) else (none)) else (none)) else (none)) else (none)) else (none)) else (none)) else (none)) else (none)) else (if x5.length = 344 then ((impl_chi_signs.f k x5).bind fun bt495 => (some (bt495.1, bt495.2))) else (none))
def impl_chi_rename.f (k : Nat) (l0 : List Int) (l1 : List Int) : Option (Int × ByteArray) := (impl_triplesOf.f k (rd l0 0)).bind fun t485 => (impl_chi_rename.l0 k l0 l1 (rd l0 0 :: List.replicate 343 (0 : Int)) t485 (t485.length : Int) 0)
theorem impl_chi_rename.mono_l : ∀ k, (∀ y0 y1 y2 y3 y4 y5, LeO (impl_chi_rename.l0 k y0 y1 y2 y3 y4 y5) (impl_chi_rename.l0 (k + 1) y0 y1 y2 y3 y4 y5))
 | 0 => fun _ _ _ _ _ _ r h => by simp [impl_chi_rename.l0] at h
 | k + 1 => by
  have ih0 := impl_chi_rename.mono_l k
  ·intro y0 y1 y2 y3 y4 y5
   unfold impl_chi_rename.l0
   repeat' first
   | (with_reducible exact ih0 _ _ _ _ _ _)
   | (with_reducible exact impl_chi_signs.mono _ _)
   | (with_reducible exact impl_triplesOf.mono _ _)
   | (with_reducible exact LeO.refl _)
   | (with_reducible exact LeO.none _)
   | (with_reducible refine LeO.ite ?_ ?_)
   | (with_reducible refine LeO.bind ?_ (fun _ => ?_))
   | exact ih0 _ _ _ _ _ _
   | exact impl_chi_signs.mono _ _
   | exact impl_triplesOf.mono _ _
   | exact LeO.none _
   | refine LeO.ite ?_ ?_
   | refine LeO.bind ?_ (fun _ => ?_)
theorem impl_chi_rename.mono : ∀ a0 a1 k, LeO (impl_chi_rename.f k a0 a1) (impl_chi_rename.f (k + 1) a0 a1) := by
 intro a0 a1 k
 have ih0 := impl_chi_rename.mono_l k
 unfold impl_chi_rename.f
 repeat' first
   | (with_reducible exact ih0 _ _ _ _ _ _)
   | (with_reducible exact impl_chi_signs.mono _ _)
   | (with_reducible exact impl_triplesOf.mono _ _)
   | (with_reducible exact LeO.refl _)
   | (with_reducible exact LeO.none _)
   | (with_reducible refine LeO.ite ?_ ?_)
   | (with_reducible refine LeO.bind ?_ (fun _ => ?_))
   | exact ih0 _ _ _ _ _ _
   | exact impl_chi_signs.mono _ _
   | exact impl_triplesOf.mono _ _
   | exact LeO.none _
   | refine LeO.ite ?_ ?_
   | refine LeO.bind ?_ (fun _ => ?_)
def impl_chi_rename.T5 : Bool × List (List Nat × List Nat) := (true, [([], []), ([], []), ([], []), ([2], [2]), ([1, 3], [1, 3]), ([4], [4]), ([], []), ([], []), ([7], [7]), ([6, 8], [6, 8]), ([9], [9]), ([], []), ([], []), ([12], [12]), ([11, 13], [11, 13]), ([14], [14]), ([], []), ([], []), ([17], [17]), ([], []), ([19], [19]), ([], []), ([21], [21]), ([16], [16]), ([23], [23]), ([24, 18], [18, 24]), ([25, 20], [20, 25]), ([26, 22], [22, 26]), ([27], [27]), ([0, 5, 10, 15, 28], [0, 5, 10, 15, 28])])
def impl_chi_rename.B5 : List Nat := [0, 0, 0, 4, 14, 30, 0, 0, 128, 448, 960, 0, 0, 4096, 14336, 30720, 0, 0, 131072, 0, 524288, 0, 2097152, 65536, 8454144, 25624576, 60751872, 134152192, 268369920, 536870911]
theorem impl_chi_rename.tab5 : rtab .any (opsOf Try.f69 5) = impl_chi_rename.T5 := by kernel_rfl
theorem impl_chi_rename.bits5 : waitsOk impl_chi_rename.T5.2 impl_chi_rename.B5 = true := by kernel_rfl
set_option maxHeartbeats 8000000 in
set_option maxRecDepth 100000 in
theorem impl_chi_rename.calls (k : Nat) (g0 : Nat) (l0 : List Int) (A1 : Option Addr) (c1 : Nat) (l1 : List Int) (r1 : Int) (r2 : ByteArray) (w : World) (hr0 : Kd.C (Kd.int .i64) w (some ⟨g0, 0, none⟩) l0.length l0) (hc0 : l0.length = 344) (hr1 : Kd.C (Kd.int .i64) w A1 l1.length l1) (hc1 : l1.length ≤ c1) (h : impl_chi_rename.f k l0 l1 = some (r1, r2)) :
  Calls Try.prog 69 #[.pointer (some ⟨g0, 0, none⟩), .slice A1 l1.length c1] w fun e w' => e = .returned (.agg #[.int .i64 r1, .string r2]) ∧ Below w.heap.size w w' := by
 have hu26 := Try.underlying26
 have hu62 := Try.underlying62
 have hu54 := Try.underlying54
 have hu52 := Try.underlying52
 have hu51 := Try.underlying51
 have hu50 := Try.underlying50
 have HR0 := Aside0.mk hr0
 have HC0 := Aside0.mk hc0
 clear hr0 hc0
 have HR1 := Aside0.mk hr1
 have HC1 := Aside0.mk hc1
 clear hr1 hc1
 have HB := Aside0.mk (Below.refl w.heap.size w)
 have H : ((impl_triplesOf.f k (rd l0 0)).bind fun t485 => (impl_chi_rename.l0 k l0 l1 (rd l0 0 :: List.replicate 343 (0 : Int)) t485 (t485.length : Int) 0)) = some (r1, r2) := h
 clear h
 obtain ⟨y481, hy481⟩ : ∃ y_ : List Int, y_ = (rd l0 0 :: List.replicate 343 (0 : Int)) := ⟨_, rfl⟩
 replace H : ((impl_triplesOf.f k (rd l0 0)).bind fun t485 => (impl_chi_rename.l0 k l0 l1 y481 t485 (t485.length : Int) 0)) = some (r1, r2) := by first | (rw [hy481]; with_reducible exact H) | (have H2_ := (Option.bind_some _ _).symm.trans H; rw [hy481]; with_reducible exact H2_) | (have H2_ := (Option.bind_some _ _).symm.trans H; with_reducible exact H2_) | with_reducible exact H | (rw [hy481]; exact H) | exact H
 have Ny481 := Aside0.mk hy481
 clear hy481
 replace H := Option.bind_eq_some_iff.mp H
 obtain ⟨t485, A30, H⟩ := H
 replace H : (impl_chi_rename.l0 k l0 l1 y481 t485 (t485.length : Int) 0) = some (r1, r2) := H
 have A3 := Aside0.mk A30
 clear A30
 have H' := Aside0.mk H
 clear H
 go_enter Try.func69, Try.ntmps69
 go_wp2_with (first | ((with_reducible refine gate_dst (N := 4) rfl ?_); refine box_event ?hg (N := 4) ?hd (cs := #[.int .i64 0, .string (⟨#[]⟩ : ByteArray)]) (t := 26) ?hr ?_; (case hd => rfl); (case hg => rfl); (case hr => first | (go_simp; done) | (go_simp; rfl)); intro gb479 hg w4 hbox hb; have n0_ := Aside0.mk (below_step zB hb); have n1_ := Aside0.mk (hbox); have n2_ := Aside0.mk ((by rw [hg]; exact (below_size zB) : w.heap.size ≤ gb479)); have n3_ := Aside0.mk ((by rw [hg]; exact (below_size zB) : w.heap.size ≤ gb479)); clear HB; have HB := n0_; have BK479 := n1_; have GW479 := n2_; have GE479 := n3_; clear n0_ n1_ n2_ n3_; clear hb hbox hg; have hL480 := HC0.out; have dq480 : decide (0 < (l0.length : Int)) = true := decide_eq_true (by omega); clear hL480; have p480 : 0 ≤ (0 : Int) := (by omega); have q480 : 0 < (l0.length : Int) := zA; obtain ⟨ad480, e480, hx480_0⟩ := Kd.at_int HR0.out 0 p480 q480; obtain rfl : (⟨g0, 0, none⟩ : Addr) = ad480 := (by injection e480); (first | simp only [add_plain] at hx480_0 | simp only [add_at] at hx480_0 | simp only [Addr.add, Nat.zero_add] at hx480_0 | skip); have qi480 : (0 < l0.length) = True := eq_true (by omega); (try rw [show ((0 : Int)).toNat = 0 from rfl] at hx480_0); (try rw [Addr.add_zero'] at hx480_0); replace hx480_0 := (HB.out.cell (World.block_lt_of_cell? w _ hx480_0)).trans hx480_0; replace p480 := eq_true p480; replace q480 := eq_true q480; clear dq480) | ((with_reducible refine gate_dst (N := 12) rfl ?_); refine chi_build_event (T := 54) (s := 11) (n := (rd l0 0)) rfl rfl ?hx chi_built ?_; (case hx => first | rfl | (go_simp; done) | (go_simp; rfl))) | ((with_reducible refine gate_dst (N := 13) rfl ?_); refine chi_box_event (n := (rd l0 0)) (T := 54) (N := 13) ?hg ?hd ?hr w.heap.size ?hs ?_; (case hd => rfl); (case hg => rfl); (case hr => first | (go_simp; done) | (go_simp; rfl)); (case hs => exact (below_size (zG GE479.out))); intro v482 w5 ho hb; rw [← Ny481.out] at ho; have n0_ := Aside0.mk (blk_below (g := gb479) (o := .cells #[.int .i64 0, .string (⟨#[]⟩ : ByteArray)] 26 (0, 0)) (zK BK479.out) hb); have n1_ := Aside0.mk (below_step (zG GE479.out) hb); have n2_ := Aside0.mk (ho); clear BK479; clear HB; have BK479 := n0_; have HB := n1_; have HO483 := n2_; clear n0_ n1_ n2_; clear hb ho; have hL484 := HC0.out; have dq484 : decide (0 < (l0.length : Int)) = true := decide_eq_true (by omega); clear hL484; have p484 : 0 ≤ (0 : Int) := (by omega); have q484 : 0 < (l0.length : Int) := zA; obtain ⟨ad484, e484, hx484_0⟩ := Kd.at_int HR0.out 0 p484 q484; obtain rfl : (⟨g0, 0, none⟩ : Addr) = ad484 := (by injection e484); (first | simp only [add_plain] at hx484_0 | simp only [add_at] at hx484_0 | simp only [Addr.add, Nat.zero_add] at hx484_0 | skip); have qi484 : (0 < l0.length) = True := eq_true (by omega); (try rw [show ((0 : Int)).toNat = 0 from rfl] at hx484_0); (try rw [Addr.add_zero'] at hx484_0); replace hx484_0 := (HB.out.cell (World.block_lt_of_cell? w _ hx484_0)).trans hx484_0; replace p484 := eq_true p484; replace q484 := eq_true q484; clear dq484) | ((with_reducible refine gate_callee (f := 59) rfl ?_); refine goesL_ (some 18) rfl rfl Try.func59 (by kernel_rfl) rfl #[.int .i64 (rd l0 0)] rfl zM ?_; (with_reducible refine (impl_triplesOf.calls k (rd l0 0) t485 _ A3.out).mono ?_); rintro e w6 ⟨v486, rfl, ho0, hb⟩; refine ⟨_, rfl, ?_⟩; have n0_ := Aside0.mk (Kd.R_below (zR HO483.out) hb); have n1_ := Aside0.mk (Kd.R_lower ho0 (below_size (zG GE479.out))); have n2_ := Aside0.mk (blk_below (g := gb479) (o := .cells #[.int .i64 0, .string (⟨#[]⟩ : ByteArray)] 26 (0, 0)) (zK BK479.out) hb); have n3_ := Aside0.mk (below_step (zG GE479.out) hb); clear HO483; clear BK479; clear HB; have HO483 := n0_; have HO487 := n1_; have BK479 := n2_; have HB := n3_; clear n0_ n1_ n2_ n3_; (try clear hb); (try clear hb2); (try clear hk); (try clear hi); (try clear ho0); obtain ⟨Ao7, co7, eo7⟩ := Kd.R_slice HO487.out; subst eo7))
 go_loopg [20] k (fun kq v20 w' => ∃ (x5_1 : List Int) (x20_1 : Int), v20 = .int .i64 x20_1 ∧ Aside0 (impl_chi_rename.l0 kq l0 l1 x5_1 t485 (t485.length : Int) x20_1 = some (r1, r2)) ∧ Aside0 (kq ≤ k) ∧ Aside0 (Kd.R (Kd.int .i64) 54 w' w.heap.size (fun _ => True) v482 x5_1) ∧ Aside0 (Kd.R k62 62 w' w.heap.size (fun _ => True) (.slice Ao7 t485.length co7) t485) ∧ Aside0 (w'.heap[gb479]? = some (.cells #[.int .i64 0, .string (⟨#[]⟩ : ByteArray)] 26 (0, 0))) ∧ Aside0 (Below w.heap.size w w'))
 case atStart => exact ⟨(y481), (0), zF, H', ⟨Nat.le_refl _⟩, ⟨zR HO483.out⟩, ⟨zR HO487.out⟩, ⟨zK BK479.out⟩, ⟨zG GE479.out⟩⟩
 case round =>
  clear H'
  try clear c1
  try clear p2
  try clear p4
  try clear q4
  try clear hx4
  try clear qi4
  try clear c5
  try clear c6
  try clear hx480_0
  try clear hx484_0
  try clear p480
  try clear p484
  try clear q480
  try clear q484
  obtain ⟨x5_1, x20_1, rfl, HA, HK1, HO_5, HO_18, BK479, HB⟩ := hrel
  cases gk with
  | zero => exact absurd HA.out (by simp [impl_chi_rename.l0])
  | succ k1 =>
   have H := HA.out
   clear HA
   simp only [impl_chi_rename.l0] at H
   by_cases c8 : x20_1 < (t485.length : Int)
   ·rw [if_pos c8] at H
    have c8b0 : decide (x20_1 < (t485.length : Int)) = true := decide_eq_true c8
    clear c8
    by_cases c9 : 0 ≤ x20_1
    ·rw [if_pos c9] at H
     have c9b0 : decide (0 ≤ x20_1) = true := decide_eq_true c9
     clear c9
     by_cases c10 : x20_1 < (t485.length : Int)
     ·rw [if_pos c10] at H
      have c10b0 : decide (x20_1 < (t485.length : Int)) = true := decide_eq_true c10
      clear c10
      by_cases c11 : 0 ≤ ((rd_T62 t485 x20_1).f0)
      ·rw [if_pos c11] at H
       have c11b0 : decide (0 ≤ ((rd_T62 t485 x20_1).f0)) = true := decide_eq_true c11
       clear c11
       by_cases c12 : ((rd_T62 t485 x20_1).f0) < (l1.length : Int)
       ·rw [if_pos c12] at H
        have c12b0 : decide (((rd_T62 t485 x20_1).f0) < (l1.length : Int)) = true := decide_eq_true c12
        clear c12
        by_cases c13 : 0 ≤ ((rd_T62 t485 x20_1).f1)
        ·rw [if_pos c13] at H
         have c13b0 : decide (0 ≤ ((rd_T62 t485 x20_1).f1)) = true := decide_eq_true c13
         clear c13
         by_cases c14 : ((rd_T62 t485 x20_1).f1) < (l1.length : Int)
         ·rw [if_pos c14] at H
          have c14b0 : decide (((rd_T62 t485 x20_1).f1) < (l1.length : Int)) = true := decide_eq_true c14
          clear c14
          by_cases c15 : 0 ≤ ((rd_T62 t485 x20_1).f2)
          ·rw [if_pos c15] at H
           have c15b0 : decide (0 ≤ ((rd_T62 t485 x20_1).f2)) = true := decide_eq_true c15
           clear c15
           by_cases c16 : ((rd_T62 t485 x20_1).f2) < (l1.length : Int)
           ·rw [if_pos c16] at H
            have c16b0 : decide (((rd_T62 t485 x20_1).f2) < (l1.length : Int)) = true := decide_eq_true c16
            clear c16
            by_cases c17 : ((rd_T62 t485 x20_1).f0) < 7
            ·rw [if_pos c17] at H
             have c17b0 : decide (((rd_T62 t485 x20_1).f0) < 7) = true := decide_eq_true c17
             clear c17
             by_cases c18 : ((rd_T62 t485 x20_1).f1) < 7
             ·rw [if_pos c18] at H
              have c18b0 : decide (((rd_T62 t485 x20_1).f1) < 7) = true := decide_eq_true c18
              clear c18
              by_cases c19 : ((rd_T62 t485 x20_1).f2) < 7
              ·rw [if_pos c19] at H
               have c19b0 : decide (((rd_T62 t485 x20_1).f2) < 7) = true := decide_eq_true c19
               clear c19
               by_cases c20 : x5_1.length = 344
               ·rw [if_pos c20] at H
                have c20b0 := eq_true c20
                have c20b1 : decide (x5_1.length = 344) = true := decide_eq_true c20
                clear c20
                replace H := Option.bind_eq_some_iff.mp H
                obtain ⟨t494, A210, H⟩ := H
                replace H : (impl_chi_rename.l0 k1 l0 l1 t494 t485 (t485.length : Int) (wrap64 (x20_1 + 1))) = some (r1, r2) := H
                have A21 := Aside0.mk A210
                clear A210
                have H' := Aside0.mk H
                clear H
                have p488 : 0 ≤ (x20_1 : Int) := zA
                have q488 : x20_1 < (t485.length : Int) := zA
                obtain ⟨ad488, e488, hx488_0, hx488_1, hx488_2⟩ := at_T62 (Kd.R_reads' HO_18.out).2.2 x20_1 p488 q488
                cases e488
                replace p488 := eq_true p488
                replace q488 := eq_true q488
                try go_wp2_with (first | ((with_reducible refine gate_dst (N := 7) rfl ?_); refine box_event ?hg (N := 7) ?hd (cs := #[.int .i64 0, .int .i64 0, .int .i64 0]) (t := 62) ?hr ?_; (case hd => rfl); (case hg => rfl); (case hr => first | (go_simp; done) | (go_simp; rfl)); intro gb489 hg w22 hbox hb; have n0_ := Aside0.mk (Kd.R_below (zR HO_5.out) hb); have n1_ := Aside0.mk (Kd.R_below (Kd.R_elderB (zR HO_18.out) gb489 (Nat.le_of_eq hg.symm)) hb); have n2_ := Aside0.mk (blk_below (g := gb479) (o := .cells #[.int .i64 0, .string (⟨#[]⟩ : ByteArray)] 26 (0, 0)) (zK BK479.out) hb); have n3_ := Aside0.mk (below_step (zG GE479.out) hb); have n4_ := Aside0.mk (hbox); have n5_ := Aside0.mk ((by rw [hg]; exact (below_size (zG GE479.out)) : w.heap.size ≤ gb489)); have n6_ := Aside0.mk ((by rw [hg]; exact (below_size (zG GE479.out)) : w.heap.size ≤ gb489)); have n7_ := Aside0.mk ((by rw [hg]; exact Nat.ne_of_lt (blk_lt (g := gb479) (o := .cells #[.int .i64 0, .string (⟨#[]⟩ : ByteArray)] 26 (0, 0)) (zK BK479.out)) : gb479 ≠ gb489)); have n8_ := Aside0.mk ((by rw [hg]; exact Nat.ne_of_gt (blk_lt (g := gb479) (o := .cells #[.int .i64 0, .string (⟨#[]⟩ : ByteArray)] 26 (0, 0)) (zK BK479.out)) : gb489 ≠ gb479)); clear HO_5; clear HO_18; clear BK479; clear HB; have HO_5 := n0_; have HO_18 := n1_; have BK479 := n2_; have HB := n3_; have BK489 := n4_; have GW489 := n5_; have GE489 := n6_; have NB479_489 := n7_; have NB489_479 := n8_; clear n0_ n1_ n2_ n3_ n4_ n5_ n6_ n7_ n8_; clear hb hbox hg; have hnb23 := NB489_479.out; have hnc23 := NB479_489.out; have hcz24_0 : w22.cell? ⟨gb489, 0, none⟩ = some (.int .i64 0) := (blk_cell BK489.out 0).trans rfl; have hcz24_1 : w22.cell? ⟨gb489, 1, none⟩ = some (.int .i64 0) := (blk_cell BK489.out 1).trans rfl; have hcz24_2 : w22.cell? ⟨gb489, 2, none⟩ = some (.int .i64 0) := (blk_cell BK489.out 2).trans rfl; have hfz24_0 := blk_frozen BK489.out 0; have hfz24_1 := blk_frozen BK489.out 1; have hfz24_2 := blk_frozen BK489.out 2))
                have n0_ : Aside0 (Kd.R (Kd.int .i64) 54 (((w22.setCell ⟨gb489, 0, none⟩ (.int .i64 ((rd_T62 t485 x20_1).f0))).setCell ⟨gb489, 1, none⟩ (.int .i64 ((rd_T62 t485 x20_1).f1))).setCell ⟨gb489, 2, none⟩ (.int .i64 ((rd_T62 t485 x20_1).f2))) w.heap.size (fun _ => True) v482 x5_1) := ⟨by (with_reducible repeat (first | apply Kd.R_alloc | apply Kd.R_drewN | apply Kd.R_drew)); exact Kd.R_mono (Kd.R_far (p := ⟨gb489, 2, none⟩) (Kd.R_far (p := ⟨gb489, 1, none⟩) (Kd.R_far (p := ⟨gb489, 0, none⟩) (Kd.R_types HO_5.out BK489.out (by decide)) (fun _ hk => hk.2) (.int .i64 ((rd_T62 t485 x20_1).f0))) (fun _ hk => hk.2) (.int .i64 ((rd_T62 t485 x20_1).f1))) (fun _ hk => hk.2) (.int .i64 ((rd_T62 t485 x20_1).f2))) (fun _ hk => trivial)⟩
                have n1_ : Aside0 (Kd.R k62 62 (((w22.setCell ⟨gb489, 0, none⟩ (.int .i64 ((rd_T62 t485 x20_1).f0))).setCell ⟨gb489, 1, none⟩ (.int .i64 ((rd_T62 t485 x20_1).f1))).setCell ⟨gb489, 2, none⟩ (.int .i64 ((rd_T62 t485 x20_1).f2))) w.heap.size (fun k_ => k_ ≠ gb489) (.slice (some ad488) t485.length co7) t485) := ⟨by (with_reducible repeat (first | apply Kd.R_alloc | apply Kd.R_drewN | apply Kd.R_drew)); exact Kd.R_mono (Kd.R_far (p := ⟨gb489, 2, none⟩) (Kd.R_far (p := ⟨gb489, 1, none⟩) (Kd.R_far (p := ⟨gb489, 0, none⟩) (Kd.R_mono HO_18.out (fun k_ hk => (⟨hk, hk.2⟩ : _ ∧ k_ ≠ gb489))) (fun _ hk => hk.2) (.int .i64 ((rd_T62 t485 x20_1).f0))) (fun _ hk => hk.2) (.int .i64 ((rd_T62 t485 x20_1).f1))) (fun _ hk => hk.2) (.int .i64 ((rd_T62 t485 x20_1).f2))) (fun _ hk => hk.1.2)⟩
                have n2_ : Aside0 ((((w22.setCell ⟨gb489, 0, none⟩ (.int .i64 ((rd_T62 t485 x20_1).f0))).setCell ⟨gb489, 1, none⟩ (.int .i64 ((rd_T62 t485 x20_1).f1))).setCell ⟨gb489, 2, none⟩ (.int .i64 ((rd_T62 t485 x20_1).f2))).heap[gb479]? = some (.cells #[.int .i64 0, .string (⟨#[]⟩ : ByteArray)] 26 (0, 0))) := ⟨by (with_reducible repeat (first | refine blk_drewN ?_ _ | refine blk_drew ?_ | refine blk_alloc ?_ _)); refine blk_far ?_ NB479_489.out _; (with_reducible repeat (first | refine blk_drewN ?_ _ | refine blk_drew ?_ | refine blk_alloc ?_ _)); refine blk_far ?_ NB479_489.out _; (with_reducible repeat (first | refine blk_drewN ?_ _ | refine blk_drew ?_ | refine blk_alloc ?_ _)); refine blk_far ?_ NB479_489.out _; (with_reducible repeat (first | refine blk_drewN ?_ _ | refine blk_drew ?_ | refine blk_alloc ?_ _)); exact BK479.out⟩
                have n3_ : Aside0 ((((w22.setCell ⟨gb489, 0, none⟩ (.int .i64 ((rd_T62 t485 x20_1).f0))).setCell ⟨gb489, 1, none⟩ (.int .i64 ((rd_T62 t485 x20_1).f1))).setCell ⟨gb489, 2, none⟩ (.int .i64 ((rd_T62 t485 x20_1).f2))).heap[gb489]? = some (.cells #[.int .i64 ((rd_T62 t485 x20_1).f0), .int .i64 ((rd_T62 t485 x20_1).f1), .int .i64 ((rd_T62 t485 x20_1).f2)] 62 (0, 0))) := ⟨by (with_reducible repeat (first | refine blk_drewN ?_ _ | refine blk_drew ?_ | refine blk_alloc ?_ _)); refine blk_put (cs := #[.int .i64 ((rd_T62 t485 x20_1).f0), .int .i64 ((rd_T62 t485 x20_1).f1), .int .i64 0]) ?_ 2 _ rfl; (with_reducible repeat (first | refine blk_drewN ?_ _ | refine blk_drew ?_ | refine blk_alloc ?_ _)); refine blk_put (cs := #[.int .i64 ((rd_T62 t485 x20_1).f0), .int .i64 0, .int .i64 0]) ?_ 1 _ rfl; (with_reducible repeat (first | refine blk_drewN ?_ _ | refine blk_drew ?_ | refine blk_alloc ?_ _)); refine blk_put (cs := #[.int .i64 0, .int .i64 0, .int .i64 0]) ?_ 0 _ rfl; (with_reducible repeat (first | refine blk_drewN ?_ _ | refine blk_drew ?_ | refine blk_alloc ?_ _)); exact BK489.out⟩
                have n4_ : Aside0 (Below w.heap.size w (((w22.setCell ⟨gb489, 0, none⟩ (.int .i64 ((rd_T62 t485 x20_1).f0))).setCell ⟨gb489, 1, none⟩ (.int .i64 ((rd_T62 t485 x20_1).f1))).setCell ⟨gb489, 2, none⟩ (.int .i64 ((rd_T62 t485 x20_1).f2)))) := ⟨by repeat (first | (with_reducible first | exact HB.out | apply below_alloc | apply pw_below_drewN | apply below_drew1 | refine below_set ?_ GE479.out | refine below_set ?_ GE489.out) | exact HB.out)⟩
                (try clear HO_5)
                (try clear HO_18)
                (try clear BK479)
                (try clear BK489)
                (try clear HB)
                generalize (((w22.setCell ⟨gb489, 0, none⟩ (.int .i64 ((rd_T62 t485 x20_1).f0))).setCell ⟨gb489, 1, none⟩ (.int .i64 ((rd_T62 t485 x20_1).f1))).setCell ⟨gb489, 2, none⟩ (.int .i64 ((rd_T62 t485 x20_1).f2))) = w25 at n0_ n1_ n2_ n3_ n4_ ⊢
                have HO_5 := n0_
                have HO_18 := n1_
                have BK479 := n2_
                have BK489 := n3_
                have HB := n4_
                clear n0_ n1_ n2_ n3_ n4_
                have n0_ := Aside0.mk (Kd.R_drew HO_5.out)
                have n1_ := Aside0.mk (Kd.R_drew HO_18.out)
                have n2_ := Aside0.mk (blk_drew BK479.out)
                have n3_ := Aside0.mk (blk_drew BK489.out)
                have n4_ := Aside0.mk (below_drew1 HB.out)
                clear HO_5
                clear HO_18
                clear BK479
                clear BK489
                clear HB
                have HO_5 := n0_
                have HO_18 := n1_
                have BK479 := n2_
                have BK489 := n3_
                have HB := n4_
                clear n0_ n1_ n2_ n3_ n4_
                have p490 : 0 ≤ (((rd_T62 t485 x20_1).f0) : Int) := zA
                have q490 : ((rd_T62 t485 x20_1).f0) < (l1.length : Int) := zA
                obtain ⟨ad490, e490, hx490_0⟩ := Kd.at_int HR1.out ((rd_T62 t485 x20_1).f0) p490 q490
                have hw490_0 := hx490_0
                cases e490
                replace hx490_0 := (HB.out.cell (World.block_lt_of_cell? w _ hx490_0)).trans hx490_0
                replace p490 := eq_true p490
                replace q490 := eq_true q490
                have p491 : 0 ≤ (((rd_T62 t485 x20_1).f1) : Int) := zA
                have q491 : ((rd_T62 t485 x20_1).f1) < (l1.length : Int) := zA
                obtain ⟨ad491, e491, hx491_0⟩ := Kd.at_int HR1.out ((rd_T62 t485 x20_1).f1) p491 q491
                have hw491_0 := hx491_0
                obtain rfl : ad490 = ad491 := (by injection e491)
                replace hx491_0 := (HB.out.cell (World.block_lt_of_cell? w _ hx491_0)).trans hx491_0
                replace p491 := eq_true p491
                replace q491 := eq_true q491
                have p492 : 0 ≤ (((rd_T62 t485 x20_1).f2) : Int) := zA
                have q492 : ((rd_T62 t485 x20_1).f2) < (l1.length : Int) := zA
                obtain ⟨ad492, e492, hx492_0⟩ := Kd.at_int HR1.out ((rd_T62 t485 x20_1).f2) p492 q492
                have hw492_0 := hx492_0
                obtain rfl : ad490 = ad492 := (by injection e492)
                replace hx492_0 := (HB.out.cell (World.block_lt_of_cell? w _ hx492_0)).trans hx492_0
                replace p492 := eq_true p492
                replace q492 := eq_true q492
                have pz493_0 : 0 ≤ (((rd_T62 t485 x20_1).f0) : Int) := zA
                have pz493_1 : 0 ≤ (((rd_T62 t485 x20_1).f1) : Int) := zA
                have pz493_2 : 0 ≤ (((rd_T62 t485 x20_1).f2) : Int) := zA
                have qz493_0 : (((rd_T62 t485 x20_1).f0) : Int) < 7 := zA
                have qz493_1 : (((rd_T62 t485 x20_1).f1) : Int) < 7 := zA
                have qz493_2 : (((rd_T62 t485 x20_1).f2) : Int) < 7 := zA
                have hL493 := HC0.out
                have dp493 : decide (0 ≤ ((1 + ((rd_T62 t485 x20_1).f0) * 49 + ((rd_T62 t485 x20_1).f1) * 7 + ((rd_T62 t485 x20_1).f2)) : Int)) = true := decide_eq_true (by omega)
                have dq493 : decide ((1 + ((rd_T62 t485 x20_1).f0) * 49 + ((rd_T62 t485 x20_1).f1) * 7 + ((rd_T62 t485 x20_1).f2)) < (l0.length : Int)) = true := decide_eq_true (by omega)
                clear hL493
                have p493 : 0 ≤ ((1 + ((rd_T62 t485 x20_1).f0) * 49 + ((rd_T62 t485 x20_1).f1) * 7 + ((rd_T62 t485 x20_1).f2)) : Int) := zA
                have q493 : (1 + ((rd_T62 t485 x20_1).f0) * 49 + ((rd_T62 t485 x20_1).f1) * 7 + ((rd_T62 t485 x20_1).f2)) < (l0.length : Int) := zA
                obtain ⟨ad493, e493, hx493_0⟩ := Kd.at_int HR0.out (1 + ((rd_T62 t485 x20_1).f0) * 49 + ((rd_T62 t485 x20_1).f1) * 7 + ((rd_T62 t485 x20_1).f2)) p493 q493
                obtain rfl : (⟨g0, 0, none⟩ : Addr) = ad493 := (by injection e493)
                (first | simp only [add_plain] at hx493_0 | simp only [add_at] at hx493_0 | simp only [Addr.add, Nat.zero_add] at hx493_0 | skip)
                have hw493_0 := hx493_0
                replace hx493_0 := (HB.out.cell (World.block_lt_of_cell? w _ hx493_0)).trans hx493_0
                replace p493 := eq_true p493
                replace q493 := eq_true q493
                clear dp493 dq493
                clear p493 q493
                rw [show ((1 + ((rd_T62 t485 x20_1).f0) * 49 + ((rd_T62 t485 x20_1).f1) * 7 + ((rd_T62 t485 x20_1).f2)) : Int).toNat = 1 + (((rd_T62 t485 x20_1).f0)).toNat * 49 + (((rd_T62 t485 x20_1).f1)).toNat * 7 + (((rd_T62 t485 x20_1).f2)).toNat from by omega] at hx493_0 hw493_0
                change _ = some (Value.int .i64 (rd3 l0 ((rd_T62 t485 x20_1).f0) ((rd_T62 t485 x20_1).f1) ((rd_T62 t485 x20_1).f2))) at hx493_0 hw493_0
                replace pz493_0 := eq_true pz493_0
                replace pz493_1 := eq_true pz493_1
                replace pz493_2 := eq_true pz493_2
                replace qz493_0 := eq_true qz493_0
                replace qz493_1 := eq_true qz493_1
                replace qz493_2 := eq_true qz493_2
                obtain ⟨go27, co27, eo27, gb27, gl27, cl27, HG27⟩ := Kd.R_form HO_5.out (by have hl_ := Nat.le_of_eq (Eq.symm (zA : x5_1.length = 344)); omega)
                (first | cases eo27 | (injection eo27 with ea_ en_ ec_; (first | subst ea_ | (injection ea_ with ea_; subst ea_)); subst ec_; clear en_))
                have GB27 := Aside0.mk gb27
                have GG27 := Aside0.mk HG27
                clear gb27 gl27 HG27
                refine start_ (n := 30) (S := fun w' => w'.cell? ⟨gb489, 0, none⟩ = some (.int .i64 ((rd_T62 t485 x20_1).f0)) ∧ w'.cell? ⟨gb489, 1, none⟩ = some (.int .i64 ((rd_T62 t485 x20_1).f1)) ∧ w'.cell? ⟨gb489, 2, none⟩ = some (.int .i64 ((rd_T62 t485 x20_1).f2)) ∧ w'.cell? (ad490.add (((rd_T62 t485 x20_1).f0)).toNat) = some (.int .i64 (rd l1 ((rd_T62 t485 x20_1).f0))) ∧ w'.cell? (ad490.add (((rd_T62 t485 x20_1).f1)).toNat) = some (.int .i64 (rd l1 ((rd_T62 t485 x20_1).f1))) ∧ w'.cell? (ad490.add (((rd_T62 t485 x20_1).f2)).toNat) = some (.int .i64 (rd l1 ((rd_T62 t485 x20_1).f2))) ∧ w'.cell? ⟨g0, 1 + (((rd_T62 t485 x20_1).f0)).toNat * 49 + (((rd_T62 t485 x20_1).f1)).toNat * 7 + (((rd_T62 t485 x20_1).f2)).toNat, none⟩ = some (.int .i64 (rd3 l0 ((rd_T62 t485 x20_1).f0) ((rd_T62 t485 x20_1).f1) ((rd_T62 t485 x20_1).f2)))) (ds := []) #[false, false, false, false, false, false, false, false, false, false, false, false, false, false, false, false, false, false, false, false, false, false, false, false, false, false, false, false, false, false] (by kernel_rfl) rfl rfl ⟨(blk_cell BK489.out 0).trans rfl, (blk_cell BK489.out 1).trans rfl, (blk_cell BK489.out 2).trans rfl, ((HB.out.cell (World.block_lt_of_cell? w _ hw490_0)).trans hw490_0), ((HB.out.cell (World.block_lt_of_cell? w _ hw491_0)).trans hw491_0), ((HB.out.cell (World.block_lt_of_cell? w _ hw492_0)).trans hw492_0), ((HB.out.cell (World.block_lt_of_cell? w _ hw493_0)).trans hw493_0)⟩ (fun hHeld => ?_); refine with_tabW impl_chi_rename.tab5 impl_chi_rename.bits5 (fun HT_ HW_ => ?_)
                generalize w25.drew = w26 at HO_5 HO_18 BK479 BK489 HB GG27 hx490_0 hx491_0 hx492_0 hx493_0 hHeld ⊢
                refine pure_ (i := 0) (N := some 24) (v := ?_) (a' := ?_) #[true, false, false, false, false, false, false, false, false, false, false, false, false, false, false, false, false, false, false, false, false, false, false, false, false, false, false, false, false, false] rfl rfl (any_of HT_.out (by kernel_rfl)) (fun _ _ _ h => h) (Or.inl ⟨by rfl, ?_⟩) ?_ ?_
                rotate_left
                ·intro w'
                 go_simp
                 with_reducible rfl
                rotate_left
                ·simp only [Act.put, List.setIfInBounds_toArray, List.set_cons_zero, List.set_cons_succ, i64_w, i32_w]
                 rfl
                refine pure_ (i := 1) (N := some 25) (v := ?_) (a' := ?_) #[true, true, false, false, false, false, false, false, false, false, false, false, false, false, false, false, false, false, false, false, false, false, false, false, false, false, false, false, false, false] rfl rfl (any_of HT_.out (by kernel_rfl)) (fun _ _ _ h => h) (Or.inl ⟨by rfl, ?_⟩) ?_ ?_
                rotate_left
                ·intro w'
                 go_simp
                 with_reducible rfl
                rotate_left
                ·simp only [Act.put, List.setIfInBounds_toArray, List.set_cons_zero, List.set_cons_succ, i64_w, i32_w]
                 rfl
                refine pure_ (i := 2) (N := some 26) (v := ?_) (a' := ?_) #[true, true, true, false, false, false, false, false, false, false, false, false, false, false, false, false, false, false, false, false, false, false, false, false, false, false, false, false, false, false] rfl rfl (any_of HT_.out (by kernel_rfl)) (fun _ _ _ h => h) (Or.inl ⟨by rfl, ?_⟩) ?_ ?_
                rotate_left
                ·intro w'
                 go_simp
                 with_reducible rfl
                rotate_left
                ·simp only [Act.put, List.setIfInBounds_toArray, List.set_cons_zero, List.set_cons_succ, i64_w, i32_w]
                 rfl
                refine pure_ (i := 6) (N := some 30) (v := ?_) (a' := ?_) #[true, true, true, false, false, false, true, false, false, false, false, false, false, false, false, false, false, false, false, false, false, false, false, false, false, false, false, false, false, false] rfl rfl (any_of HT_.out (by kernel_rfl)) (fun _ _ _ h => h) (Or.inl ⟨by rfl, ?_⟩) ?_ ?_
                rotate_left
                ·intro w'
                 go_simp
                 with_reducible rfl
                rotate_left
                ·simp only [Act.put, List.setIfInBounds_toArray, List.set_cons_zero, List.set_cons_succ, i64_w, i32_w]
                 rfl
                refine pure_ (i := 7) (N := some 31) (v := ?_) (a' := ?_) #[true, true, true, false, false, false, true, true, false, false, false, false, false, false, false, false, false, false, false, false, false, false, false, false, false, false, false, false, false, false] rfl rfl (any_of HT_.out (by kernel_rfl)) (fun _ _ _ h => h) (Or.inl ⟨by rfl, ?_⟩) ?_ ?_
                rotate_left
                ·intro w'
                 go_simp
                 with_reducible rfl
                rotate_left
                ·simp only [Act.put, List.setIfInBounds_toArray, List.set_cons_zero, List.set_cons_succ, i64_w, i32_w]
                 rfl
                refine pure_ (i := 11) (N := some 35) (v := ?_) (a' := ?_) #[true, true, true, false, false, false, true, true, false, false, false, true, false, false, false, false, false, false, false, false, false, false, false, false, false, false, false, false, false, false] rfl rfl (any_of HT_.out (by kernel_rfl)) (fun _ _ _ h => h) (Or.inl ⟨by rfl, ?_⟩) ?_ ?_
                rotate_left
                ·intro w'
                 go_simp
                 with_reducible rfl
                rotate_left
                ·simp only [Act.put, List.setIfInBounds_toArray, List.set_cons_zero, List.set_cons_succ, i64_w, i32_w]
                 rfl
                refine pure_ (i := 12) (N := some 36) (v := ?_) (a' := ?_) #[true, true, true, false, false, false, true, true, false, false, false, true, true, false, false, false, false, false, false, false, false, false, false, false, false, false, false, false, false, false] rfl rfl (any_of HT_.out (by kernel_rfl)) (fun _ _ _ h => h) (Or.inl ⟨by rfl, ?_⟩) ?_ ?_
                rotate_left
                ·intro w'
                 go_simp
                 with_reducible rfl
                rotate_left
                ·simp only [Act.put, List.setIfInBounds_toArray, List.set_cons_zero, List.set_cons_succ, i64_w, i32_w]
                 rfl
                refine pure_ (i := 16) (N := some 40) (v := ?_) (a' := ?_) #[true, true, true, false, false, false, true, true, false, false, false, true, true, false, false, false, true, false, false, false, false, false, false, false, false, false, false, false, false, false] rfl rfl (any_of HT_.out (by kernel_rfl)) (fun _ _ _ h => h) (Or.inl ⟨by rfl, ?_⟩) ?_ ?_
                rotate_left
                ·intro w'
                 go_simp
                 with_reducible rfl
                rotate_left
                ·simp only [Act.put, List.setIfInBounds_toArray, List.set_cons_zero, List.set_cons_succ, i64_w, i32_w]
                 rfl
                refine pure_ (i := 17) (N := some 41) (v := ?_) (a' := ?_) #[true, true, true, false, false, false, true, true, false, false, false, true, true, false, false, false, true, true, false, false, false, false, false, false, false, false, false, false, false, false] rfl rfl (any_of HT_.out (by kernel_rfl)) (fun _ _ _ h => h) (Or.inl ⟨by rfl, ?_⟩) ?_ ?_
                rotate_left
                ·intro w'
                 go_simp
                 with_reducible rfl
                rotate_left
                ·simp only [Act.put, List.setIfInBounds_toArray, List.set_cons_zero, List.set_cons_succ, i64_w, i32_w]
                 rfl
                refine pure_ (i := 19) (N := some 43) (v := ?_) (a' := ?_) #[true, true, true, false, false, false, true, true, false, false, false, true, true, false, false, false, true, true, false, true, false, false, false, false, false, false, false, false, false, false] rfl rfl (any_of HT_.out (by kernel_rfl)) (fun _ _ _ h => h) (Or.inl ⟨by rfl, ?_⟩) ?_ ?_
                rotate_left
                ·intro w'
                 go_simp
                 with_reducible rfl
                rotate_left
                ·simp only [Act.put, List.setIfInBounds_toArray, List.set_cons_zero, List.set_cons_succ, i64_w, i32_w]
                 rfl
                refine pure_ (i := 21) (N := some 45) (v := ?_) (a' := ?_) #[true, true, true, false, false, false, true, true, false, false, false, true, true, false, false, false, true, true, false, true, false, true, false, false, false, false, false, false, false, false] rfl rfl (any_of HT_.out (by kernel_rfl)) (fun _ _ _ h => h) (Or.inl ⟨by rfl, ?_⟩) ?_ ?_
                rotate_left
                ·intro w'
                 go_simp
                 with_reducible rfl
                rotate_left
                ·simp only [Act.put, List.setIfInBounds_toArray, List.set_cons_zero, List.set_cons_succ, i64_w, i32_w]
                 rfl
                refine pure_ (i := 23) (N := some 47) (v := ?_) (a' := ?_) #[true, true, true, false, false, false, true, true, false, false, false, true, true, false, false, false, true, true, false, true, false, true, false, true, false, false, false, false, false, false] rfl rfl (any_of HT_.out (by kernel_rfl)) (fun _ _ _ h => h) (Or.inl ⟨by rfl, ?_⟩) ?_ ?_
                rotate_left
                ·intro w'
                 go_simp
                 with_reducible rfl
                rotate_left
                ·simp only [Act.put, List.setIfInBounds_toArray, List.set_cons_zero, List.set_cons_succ, i64_w, i32_w]
                 rfl
                refine pure_ (i := 24) (N := some 48) (v := ?_) (a' := ?_) #[true, true, true, false, false, false, true, true, false, false, false, true, true, false, false, false, true, true, false, true, false, true, false, true, true, false, false, false, false, false] rfl rfl (any_of HT_.out (by kernel_rfl)) (fun _ _ _ h => h) (Or.inl ⟨by rfl, ?_⟩) ?_ ?_
                rotate_left
                ·intro w'
                 go_simp
                 with_reducible rfl
                rotate_left
                ·simp only [Act.put, List.setIfInBounds_toArray, List.set_cons_zero, List.set_cons_succ, i64_w, i32_w]
                 rfl
                refine take_ (i := 3) (N := some 27) (v := ?_) (a' := ?_) #[true, true, true, true, false, false, true, true, false, false, false, true, true, false, false, false, true, true, false, true, false, true, false, true, true, false, false, false, false, false] rfl rfl (take_ofW HT_.out HW_.out (by kernel_rfl)) (fun _ _ _ h => h) (Or.inl ⟨by rfl, ?_⟩) hHeld ?_ ?_
                rotate_left
                ·rintro w' ⟨s0, s1, s2, s3, s4, s5, s6⟩
                 go_simp
                 with_reducible rfl
                rotate_left
                ·simp only [Act.put, List.setIfInBounds_toArray, List.set_cons_zero, List.set_cons_succ, i64_w, i32_w]
                 rfl
                refine pure_ (i := 4) (N := some 28) (v := ?_) (a' := ?_) #[true, true, true, true, true, false, true, true, false, false, false, true, true, false, false, false, true, true, false, true, false, true, false, true, true, false, false, false, false, false] rfl rfl (any_of HT_.out (by kernel_rfl)) (fun _ _ _ h => h) (Or.inl ⟨by rfl, ?_⟩) ?_ ?_
                rotate_left
                ·intro w'
                 go_simp
                 with_reducible rfl
                rotate_left
                ·simp only [Act.put, List.setIfInBounds_toArray, List.set_cons_zero, List.set_cons_succ, i64_w, i32_w]
                 rfl
                refine take_ (i := 5) (N := some 29) (v := ?_) (a' := ?_) #[true, true, true, true, true, true, true, true, false, false, false, true, true, false, false, false, true, true, false, true, false, true, false, true, true, false, false, false, false, false] rfl rfl (take_ofW HT_.out HW_.out (by kernel_rfl)) (fun _ _ _ h => h) (Or.inl ⟨by rfl, ?_⟩) hHeld ?_ ?_
                rotate_left
                ·rintro w' ⟨s0, s1, s2, s3, s4, s5, s6⟩
                 go_simp
                 with_reducible rfl
                rotate_left
                ·simp only [Act.put, List.setIfInBounds_toArray, List.set_cons_zero, List.set_cons_succ, i64_w, i32_w]
                 rfl
                refine take_ (i := 8) (N := some 32) (v := ?_) (a' := ?_) #[true, true, true, true, true, true, true, true, true, false, false, true, true, false, false, false, true, true, false, true, false, true, false, true, true, false, false, false, false, false] rfl rfl (take_ofW HT_.out HW_.out (by kernel_rfl)) (fun _ _ _ h => h) (Or.inl ⟨by rfl, ?_⟩) hHeld ?_ ?_
                rotate_left
                ·rintro w' ⟨s0, s1, s2, s3, s4, s5, s6⟩
                 go_simp
                 with_reducible rfl
                rotate_left
                ·simp only [Act.put, List.setIfInBounds_toArray, List.set_cons_zero, List.set_cons_succ, i64_w, i32_w]
                 rfl
                refine pure_ (i := 9) (N := some 33) (v := ?_) (a' := ?_) #[true, true, true, true, true, true, true, true, true, true, false, true, true, false, false, false, true, true, false, true, false, true, false, true, true, false, false, false, false, false] rfl rfl (any_of HT_.out (by kernel_rfl)) (fun _ _ _ h => h) (Or.inl ⟨by rfl, ?_⟩) ?_ ?_
                rotate_left
                ·intro w'
                 go_simp
                 with_reducible rfl
                rotate_left
                ·simp only [Act.put, List.setIfInBounds_toArray, List.set_cons_zero, List.set_cons_succ, i64_w, i32_w]
                 rfl
                refine take_ (i := 10) (N := some 34) (v := ?_) (a' := ?_) #[true, true, true, true, true, true, true, true, true, true, true, true, true, false, false, false, true, true, false, true, false, true, false, true, true, false, false, false, false, false] rfl rfl (take_ofW HT_.out HW_.out (by kernel_rfl)) (fun _ _ _ h => h) (Or.inl ⟨by rfl, ?_⟩) hHeld ?_ ?_
                rotate_left
                ·rintro w' ⟨s0, s1, s2, s3, s4, s5, s6⟩
                 go_simp
                 with_reducible rfl
                rotate_left
                ·simp only [Act.put, List.setIfInBounds_toArray, List.set_cons_zero, List.set_cons_succ, i64_w, i32_w]
                 rfl
                refine take_ (i := 13) (N := some 37) (v := ?_) (a' := ?_) #[true, true, true, true, true, true, true, true, true, true, true, true, true, true, false, false, true, true, false, true, false, true, false, true, true, false, false, false, false, false] rfl rfl (take_ofW HT_.out HW_.out (by kernel_rfl)) (fun _ _ _ h => h) (Or.inl ⟨by rfl, ?_⟩) hHeld ?_ ?_
                rotate_left
                ·rintro w' ⟨s0, s1, s2, s3, s4, s5, s6⟩
                 go_simp
                 with_reducible rfl
                rotate_left
                ·simp only [Act.put, List.setIfInBounds_toArray, List.set_cons_zero, List.set_cons_succ, i64_w, i32_w]
                 rfl
                refine pure_ (i := 14) (N := some 38) (v := ?_) (a' := ?_) #[true, true, true, true, true, true, true, true, true, true, true, true, true, true, true, false, true, true, false, true, false, true, false, true, true, false, false, false, false, false] rfl rfl (any_of HT_.out (by kernel_rfl)) (fun _ _ _ h => h) (Or.inl ⟨by rfl, ?_⟩) ?_ ?_
                rotate_left
                ·intro w'
                 go_simp
                 with_reducible rfl
                rotate_left
                ·simp only [Act.put, List.setIfInBounds_toArray, List.set_cons_zero, List.set_cons_succ, i64_w, i32_w]
                 rfl
                refine take_ (i := 15) (N := some 39) (v := ?_) (a' := ?_) #[true, true, true, true, true, true, true, true, true, true, true, true, true, true, true, true, true, true, false, true, false, true, false, true, true, false, false, false, false, false] rfl rfl (take_ofW HT_.out HW_.out (by kernel_rfl)) (fun _ _ _ h => h) (Or.inl ⟨by rfl, ?_⟩) hHeld ?_ ?_
                rotate_left
                ·rintro w' ⟨s0, s1, s2, s3, s4, s5, s6⟩
                 go_simp
                 with_reducible rfl
                rotate_left
                ·simp only [Act.put, List.setIfInBounds_toArray, List.set_cons_zero, List.set_cons_succ, i64_w, i32_w]
                 rfl
                refine take_ (i := 18) (N := some 42) (v := ?_) (a' := ?_) #[true, true, true, true, true, true, true, true, true, true, true, true, true, true, true, true, true, true, true, true, false, true, false, true, true, false, false, false, false, false] rfl rfl (take_ofW HT_.out HW_.out (by kernel_rfl)) (fun _ _ _ h => h) (Or.inl ⟨by rfl, ?_⟩) hHeld ?_ ?_
                rotate_left
                ·rintro w' ⟨s0, s1, s2, s3, s4, s5, s6⟩
                 go_simp
                 with_reducible rfl
                rotate_left
                ·simp only [Act.put, List.setIfInBounds_toArray, List.set_cons_zero, List.set_cons_succ, i64_w, i32_w]
                 rfl
                refine pure_ (i := 25) (N := some 49) (v := ?_) (a' := ?_) #[true, true, true, true, true, true, true, true, true, true, true, true, true, true, true, true, true, true, true, true, false, true, false, true, true, true, false, false, false, false] rfl rfl (any_of HT_.out (by kernel_rfl)) (fun _ _ _ h => h) (Or.inl ⟨by rfl, ?_⟩) ?_ ?_
                rotate_left
                ·intro w'
                 go_simp
                 with_reducible rfl
                rotate_left
                ·simp only [Act.put, List.setIfInBounds_toArray, List.set_cons_zero, List.set_cons_succ, i64_w, i32_w]
                 rfl
                refine take_ (i := 20) (N := some 44) (v := ?_) (a' := ?_) #[true, true, true, true, true, true, true, true, true, true, true, true, true, true, true, true, true, true, true, true, true, true, false, true, true, true, false, false, false, false] rfl rfl (take_ofW HT_.out HW_.out (by kernel_rfl)) (fun _ _ _ h => h) (Or.inl ⟨by rfl, ?_⟩) hHeld ?_ ?_
                rotate_left
                ·rintro w' ⟨s0, s1, s2, s3, s4, s5, s6⟩
                 go_simp
                 with_reducible rfl
                rotate_left
                ·simp only [Act.put, List.setIfInBounds_toArray, List.set_cons_zero, List.set_cons_succ, i64_w, i32_w]
                 rfl
                refine pure_ (i := 26) (N := some 50) (v := ?_) (a' := ?_) #[true, true, true, true, true, true, true, true, true, true, true, true, true, true, true, true, true, true, true, true, true, true, false, true, true, true, true, false, false, false] rfl rfl (any_of HT_.out (by kernel_rfl)) (fun _ _ _ h => h) (Or.inl ⟨by rfl, ?_⟩) ?_ ?_
                rotate_left
                ·intro w'
                 go_simp
                 with_reducible rfl
                rotate_left
                ·simp only [Act.put, List.setIfInBounds_toArray, List.set_cons_zero, List.set_cons_succ, i64_w, i32_w]
                 rfl
                refine take_ (i := 22) (N := some 46) (v := ?_) (a' := ?_) #[true, true, true, true, true, true, true, true, true, true, true, true, true, true, true, true, true, true, true, true, true, true, true, true, true, true, true, false, false, false] rfl rfl (take_ofW HT_.out HW_.out (by kernel_rfl)) (fun _ _ _ h => h) (Or.inl ⟨by rfl, ?_⟩) hHeld ?_ ?_
                rotate_left
                ·rintro w' ⟨s0, s1, s2, s3, s4, s5, s6⟩
                 go_simp
                 with_reducible rfl
                rotate_left
                ·simp only [Act.put, List.setIfInBounds_toArray, List.set_cons_zero, List.set_cons_succ, i64_w, i32_w]
                 rfl
                refine pure_ (i := 27) (N := some 51) (v := ?_) (a' := ?_) #[true, true, true, true, true, true, true, true, true, true, true, true, true, true, true, true, true, true, true, true, true, true, true, true, true, true, true, true, false, false] rfl rfl (any_of HT_.out (by kernel_rfl)) (fun _ _ _ h => h) (Or.inl ⟨by rfl, ?_⟩) ?_ ?_
                rotate_left
                ·intro w'
                 go_simp
                 with_reducible rfl
                rotate_left
                ·simp only [Act.put, List.setIfInBounds_toArray, List.set_cons_zero, List.set_cons_succ, i64_w, i32_w]
                 rfl
                refine take_ (i := 28) (N := some 52) (v := ?_) (a' := ?_) #[true, true, true, true, true, true, true, true, true, true, true, true, true, true, true, true, true, true, true, true, true, true, true, true, true, true, true, true, true, false] rfl rfl (take_ofW HT_.out HW_.out (by kernel_rfl)) (fun _ _ _ h => h) (Or.inl ⟨by rfl, ?_⟩) hHeld ?_ ?_
                rotate_left
                ·rintro w' ⟨s0, s1, s2, s3, s4, s5, s6⟩
                 go_simp
                 with_reducible rfl
                rotate_left
                ·simp only [Act.put, List.setIfInBounds_toArray, List.set_cons_zero, List.set_cons_succ, i64_w, i32_w]
                 rfl
                refine one_ (i := 29) (N := some 53) #[true, true, true, true, true, true, true, true, true, true, true, true, true, true, true, true, true, true, true, true, true, true, true, true, true, true, true, true, true, true] rfl rfl (one_of HT_.out (by kernel_rfl)) (by decide) (fun K hK => ?_)
                refine goes_ Try.func76 (by kernel_rfl) rfl #[.pointer (some ⟨go27, 0, none⟩), .int .i64 (rd l1 ((rd_T62 t485 x20_1).f0)), .int .i64 (rd l1 ((rd_T62 t485 x20_1).f1)), .int .i64 (rd l1 ((rd_T62 t485 x20_1).f2)), .int .i64 (rd3 l0 ((rd_T62 t485 x20_1).f0) ((rd_T62 t485 x20_1).f1) ((rd_T62 t485 x20_1).f2))] (by rfl) rfl rfl zM ?_
                with_reducible refine (impl_chi_set.calls (fun k_ => some k_ = (.slice (some ⟨go27, 0, none⟩) x5_1.length co27 : Value).ownBlock) (.slice (some ⟨go27, 0, none⟩) x5_1.length co27) x5_1 (rd l1 ((rd_T62 t485 x20_1).f0)) (rd l1 ((rd_T62 t485 x20_1).f1)) (rd l1 ((rd_T62 t485 x20_1).f2)) (rd3 l0 ((rd_T62 t485 x20_1).f0) ((rd_T62 t485 x20_1).f1) ((rd_T62 t485 x20_1).f2)) t494 w _ ?side1 ?side2 A21.out).mono ?_
                (case side1 => repeat (first | (with_reducible first | exact HB.out | apply below_alloc | apply pw_below_drewN | apply below_drew1 | refine below_set ?_ GE479.out | refine below_set ?_ GE489.out) | exact HB.out))
                (case side2 => exact Kd.R_tight rfl HO_5.out)
                rintro e w28 ⟨rfl, hy0, hb, hkp⟩
                refine ⟨_, rfl, ?_⟩
                have n0_ := Aside0.mk (Kd.R_reok rfl hy0 (fun k_ e_ => HO_5.out.1 k_ e_))
                have n1_ := Aside0.mk (Kd.R_mono (ok' := fun k_ => k_ ≠ gb489) (Kd.R_keptB ((Kd.R_apart' HO_18.out (Kd.R_typed HO_5.out) (by decide))) hkp (fun k_ hk_ hs_ => (hk_.2) hs_)) (fun k_ hk_ => hk_.1.1))
                have n2_ := Aside0.mk (blk_kept (zK BK479.out) hkp (fun hs_ => (fun e_ => (Kd.R_ne HO_5.out BK479.out (by decide)) e_) hs_))
                have n3_ := Aside0.mk (blk_kept (zK BK489.out) hkp (fun hs_ => (fun e_ => (Kd.R_ne HO_5.out BK489.out (by decide)) e_) hs_))
                have n4_ := Aside0.mk (hb)
                clear HO_5
                clear HO_18
                clear BK479
                clear BK489
                clear HB
                have HO_5 := n0_
                have HO_18 := n1_
                have BK479 := n2_
                have BK489 := n3_
                have HB := n4_
                clear n0_ n1_ n2_ n3_ n4_
                (try clear hb)
                (try clear hkp)
                (try clear hy0)
                refine hK.out _ _ ⟨(blk_cell BK489.out 0).trans rfl, (blk_cell BK489.out 1).trans rfl, (blk_cell BK489.out 2).trans rfl, ((HB.out.cell (World.block_lt_of_cell? w _ hw490_0)).trans hw490_0), ((HB.out.cell (World.block_lt_of_cell? w _ hw491_0)).trans hw491_0), ((HB.out.cell (World.block_lt_of_cell? w _ hw492_0)).trans hw492_0), ((HB.out.cell (World.block_lt_of_cell? w _ hw493_0)).trans hw493_0)⟩ (fun hHeld => ?_)
                clear hK K
                refine norm_ (a' := ?_) ?_ ?_
                rotate_left
                ·show Act.put _ (some 53) _ = _
                 simp only [Act.put, List.setIfInBounds_toArray, List.set_cons_zero, List.set_cons_succ, i64_w, i32_w]
                 rfl
                refine done_ (done_of HT_.out (by kernel_rfl)) ?_
                try go_wp2
                go_roundg k1
                case measure => have := HK1.out; omega
                case rel => exact ⟨(t494), (wrap64 (x20_1 + 1)), zF, H', ⟨by have := HK1.out; omega⟩, ⟨zR HO_5.out⟩, ⟨by (with_reducible repeat (first | apply Kd.R_alloc | apply Kd.R_drewN | apply Kd.R_drew)); exact Kd.R_mono HO_18.out (fun _ hk => trivial)⟩, ⟨zK BK479.out⟩, ⟨by repeat (first | (with_reducible first | exact HB.out | apply below_alloc | apply pw_below_drewN | apply below_drew1 | refine below_set ?_ GE479.out | refine below_set ?_ GE489.out) | exact HB.out)⟩⟩
               ·rw [if_neg c20] at H
                exact absurd H (by simp)
              ·rw [if_neg c19] at H
               exact absurd H (by simp)
             ·rw [if_neg c18] at H
              exact absurd H (by simp)
            ·rw [if_neg c17] at H
             exact absurd H (by simp)
           ·rw [if_neg c16] at H
            exact absurd H (by simp)
          ·rw [if_neg c15] at H
           exact absurd H (by simp)
         ·rw [if_neg c14] at H
          exact absurd H (by simp)
        ·rw [if_neg c13] at H
         exact absurd H (by simp)
       ·rw [if_neg c12] at H
        exact absurd H (by simp)
      ·rw [if_neg c11] at H
       exact absurd H (by simp)
     ·rw [if_neg c10] at H
      exact absurd H (by simp)
    ·rw [if_neg c9] at H
     exact absurd H (by simp)
   ·rw [if_neg c8] at H
    have c8b0 : decide (x20_1 < (t485.length : Int)) = false := decide_eq_false c8
    clear c8
    by_cases c29 : x5_1.length = 344
    ·rw [if_pos c29] at H
     have c29b0 := eq_true c29
     have c29b1 : decide (x5_1.length = 344) = true := decide_eq_true c29
     clear c29
     replace H := Option.bind_eq_some_iff.mp H
     obtain ⟨⟨t495, t496⟩, A300, H⟩ := H
     replace H : (some (t495, t496)) = some (r1, r2) := H
     have A30 := Aside0.mk A300
     clear A300
     simp only [Option.some.injEq, Prod.mk.injEq] at H
     obtain ⟨rfl, rfl⟩ := H
     obtain ⟨go31, co31, eo31, gb31, gl31, cl31, HG31⟩ := Kd.R_form HO_5.out (by have hl_ := Nat.le_of_eq (Eq.symm (zA : x5_1.length = 344)); omega)
     (first | cases eo31 | (injection eo31 with ea_ en_ ec_; (first | subst ea_ | (injection ea_ with ea_; subst ea_)); subst ec_; clear en_))
     have GB31 := Aside0.mk gb31
     have GG31 := Aside0.mk HG31
     clear gb31 gl31 HG31
     go_wp2_with (first | ((with_reducible refine gate_callee (f := 62) rfl ?_); refine goesL_ (some 56) rfl rfl Try.func62 (by kernel_rfl) rfl #[.pointer (some ⟨go31, 0, none⟩)] rfl zM ?_; (with_reducible refine (impl_chi_signs.calls k1 _ x5_1 t495 t496 _ ?side1 ?side2 A30.out).mono ?_); (case side1 => repeat (first | exact (Kd.R_reads' HO_5.out).2.2 | (with_reducible refine Kd.C_alloc ?_ _) | (with_reducible refine Kd.C_drewN ?_ _) | (with_reducible refine Kd.C_drew ?_))); (case side2 => exact (zA : x5_1.length = 344)); rintro e w32 ⟨rfl, hb⟩; refine ⟨_, rfl, ?_⟩; have n0_ := Aside0.mk (Kd.R_below (zR HO_5.out) hb); have n1_ := Aside0.mk (Kd.R_below (zR HO_18.out) hb); have n2_ := Aside0.mk (blk_below (g := gb479) (o := .cells #[.int .i64 0, .string (⟨#[]⟩ : ByteArray)] 26 (0, 0)) (zK BK479.out) hb); have n3_ := Aside0.mk (below_step (zG GE479.out) hb); clear HO_5; clear HO_18; clear BK479; clear HB; have HO_5 := n0_; have HO_18 := n1_; have BK479 := n2_; have HB := n3_; clear n0_ n1_ n2_ n3_; (try clear hb); (try clear hb2); (try clear hk); (try clear hi); have hcz33_0 : w32.cell? ⟨gb479, 0, none⟩ = some (.int .i64 0) := (blk_cell BK479.out 0).trans rfl; have hcz33_1 : w32.cell? ⟨gb479, 1, none⟩ = some (.string (⟨#[]⟩ : ByteArray)) := (blk_cell BK479.out 1).trans rfl; have hfz33_0 := blk_frozen BK479.out 0; have hfz33_1 := blk_frozen BK479.out 1))
     refine bodyPost_ret (results_cell_row rfl _ _ gb479 26 #[.int .i64 t495, .string t496] (0, 0) _ rfl (by (with_reducible repeat (first | refine blk_drewN ?_ _ | refine blk_drew ?_ | refine blk_alloc ?_ _)); refine blk_put (cs := #[.int .i64 t495, .string (⟨#[]⟩ : ByteArray)]) ?_ 1 _ rfl; (with_reducible repeat (first | refine blk_drewN ?_ _ | refine blk_drew ?_ | refine blk_alloc ?_ _)); refine blk_put (cs := #[.int .i64 0, .string (⟨#[]⟩ : ByteArray)]) ?_ 0 _ rfl; (with_reducible repeat (first | refine blk_drewN ?_ _ | refine blk_drew ?_ | refine blk_alloc ?_ _)); exact BK479.out) Try.underlying26 rfl (by kernel_rfl)) rfl ?_
     exact ⟨zE, zG GE479.out⟩
    ·rw [if_neg c29] at H
     exact absurd H (by simp)
/-! ### impl_RenameSigns: function 40 -/
def impl_RenameSigns.j0 : Nat → List Int → Bool → Int → ByteArray → Option (Int × ByteArray × Bool)
 | 0, _, _, _, _ => none
 | k + 1, x1, x22, x498000, x498001 => if x22 = true then (some (0, (⟨#[]⟩ : ByteArray), false)) else ((impl_tableOf.f k x498000 x498001).bind fun t501 => (if t501.length = 344 then ((impl_chi_rename.f k t501 x1).bind fun bt504 => (some (bt504.1, bt504.2, true))) else (none)))
def impl_RenameSigns.f (k : Nat) (a0_0 : Int) (a0_1 : ByteArray) (l1 : List Int) : Option (Int × ByteArray × Bool) := (impl_AreSigns.f k a0_0 a0_1).bind fun t499 => (if t499 = true then (if (l1.length : Int) = a0_0 then ((impl_areDifferent.f k a0_0 l1).bind fun t500 => (impl_RenameSigns.j0 k l1 (!t500) a0_0 a0_1)) else (impl_RenameSigns.j0 k l1 true a0_0 a0_1)) else (impl_RenameSigns.j0 k l1 true a0_0 a0_1))
theorem impl_RenameSigns.mono_l : ∀ k, (∀ y0 y1 y2 y3, LeO (impl_RenameSigns.j0 k y0 y1 y2 y3) (impl_RenameSigns.j0 (k + 1) y0 y1 y2 y3))
 | 0 => fun _ _ _ _ r h => by simp [impl_RenameSigns.j0] at h
 | k + 1 => by
  have ih0 := impl_RenameSigns.mono_l k
  ·intro y0 y1 y2 y3
   unfold impl_RenameSigns.j0
   repeat' first
   | (with_reducible exact ih0 _ _ _ _)
   | (with_reducible exact impl_AreSigns.mono _ _ _)
   | (with_reducible exact impl_areDifferent.mono _ _ _)
   | (with_reducible exact impl_chi_rename.mono _ _ _)
   | (with_reducible exact impl_tableOf.mono _ _ _)
   | (with_reducible exact LeO.refl _)
   | (with_reducible exact LeO.none _)
   | (with_reducible refine LeO.ite ?_ ?_)
   | (with_reducible refine LeO.bind ?_ (fun _ => ?_))
   | exact ih0 _ _ _ _
   | exact impl_AreSigns.mono _ _ _
   | exact impl_areDifferent.mono _ _ _
   | exact impl_chi_rename.mono _ _ _
   | exact impl_tableOf.mono _ _ _
   | exact LeO.none _
   | refine LeO.ite ?_ ?_
   | refine LeO.bind ?_ (fun _ => ?_)
theorem impl_RenameSigns.mono : ∀ a0 a1 a2 k, LeO (impl_RenameSigns.f k a0 a1 a2) (impl_RenameSigns.f (k + 1) a0 a1 a2) := by
 intro a0 a1 a2 k
 have ih0 := impl_RenameSigns.mono_l k
 unfold impl_RenameSigns.f
 repeat' first
   | (with_reducible exact ih0 _ _ _ _)
   | (with_reducible exact impl_AreSigns.mono _ _ _)
   | (with_reducible exact impl_areDifferent.mono _ _ _)
   | (with_reducible exact impl_chi_rename.mono _ _ _)
   | (with_reducible exact impl_tableOf.mono _ _ _)
   | (with_reducible exact LeO.refl _)
   | (with_reducible exact LeO.none _)
   | (with_reducible refine LeO.ite ?_ ?_)
   | (with_reducible refine LeO.bind ?_ (fun _ => ?_))
   | exact ih0 _ _ _ _
   | exact impl_AreSigns.mono _ _ _
   | exact impl_areDifferent.mono _ _ _
   | exact impl_chi_rename.mono _ _ _
   | exact impl_tableOf.mono _ _ _
   | exact LeO.none _
   | refine LeO.ite ?_ ?_
   | refine LeO.bind ?_ (fun _ => ?_)
set_option maxHeartbeats 8000000 in
set_option maxRecDepth 100000 in
theorem impl_RenameSigns.calls (k : Nat) (a0_0 : Int) (a0_1 : ByteArray) (A1 : Option Addr) (c1 : Nat) (l1 : List Int) (r1 : Int) (r2 : ByteArray) (r3 : Bool) (w : World) (hr1 : Kd.C (Kd.int .i64) w A1 l1.length l1) (hc1 : l1.length ≤ c1) (h : impl_RenameSigns.f k a0_0 a0_1 l1 = some (r1, r2, r3)) :
  Calls Try.prog 40 #[.agg #[.int .i64 a0_0, .string a0_1], .slice A1 l1.length c1] w fun e w' => e = .returned (.tuple #[.agg #[.int .i64 r1, .string r2], .bool r3]) ∧ Below w.heap.size w w' := by
 have hu26 := Try.underlying26
 have HR1 := Aside0.mk hr1
 have HC1 := Aside0.mk hc1
 clear hr1 hc1
 have HB := Aside0.mk (Below.refl w.heap.size w)
 have H : ((impl_AreSigns.f k a0_0 a0_1).bind fun t499 => (if t499 = true then (if (l1.length : Int) = a0_0 then ((impl_areDifferent.f k a0_0 l1).bind fun t500 => (impl_RenameSigns.j0 k l1 (!t500) a0_0 a0_1)) else (impl_RenameSigns.j0 k l1 true a0_0 a0_1)) else (impl_RenameSigns.j0 k l1 true a0_0 a0_1))) = some (r1, r2, r3) := h
 clear h
 have HC3 := Aside0.mk H
 clear H
 go_enter Try.func40, Try.ntmps40
 go_upto_region 1 with (first | ((with_reducible refine gate_dst (N := 2) rfl ?_); (try (refine gate_guard (by rfl) ?_; dsimp only)); refine box_event ?hg (N := 2) ?hd (cs := #[.int .i64 a0_0, .string a0_1]) (t := 26) ?hr ?_; (case hd => rfl); (case hg => rfl); (case hr => first | (go_simp; done) | (go_simp; rfl)); intro gb497 hg w4 hbox hb; have n0_ := Aside0.mk (below_step zB hb); have n1_ := Aside0.mk (hbox); have n2_ := Aside0.mk ((by rw [hg]; exact (below_size zB) : w.heap.size ≤ gb497)); have n3_ := Aside0.mk ((by rw [hg]; exact (below_size zB) : w.heap.size ≤ gb497)); clear HB; have HB := n0_; have BK497 := n1_; have GW497 := n2_; have GE497 := n3_; clear n0_ n1_ n2_ n3_; clear hb hbox hg) | ((with_reducible refine gate_dst (N := 4) rfl ?_); (try (refine gate_guard (by rfl) ?_; dsimp only)); refine box_event ?hg (N := 4) ?hd (cs := #[.int .i64 0, .string (⟨#[]⟩ : ByteArray)]) (t := 26) ?hr ?_; (case hd => rfl); (case hg => rfl); (case hr => first | (go_simp; done) | (go_simp; rfl)); intro gb498 hg w5 hbox hb; have n0_ := Aside0.mk (blk_below (g := gb497) (o := .cells #[.int .i64 a0_0, .string a0_1] 26 (0, 0)) (zK BK497.out) hb); have n1_ := Aside0.mk (below_step (zG GE497.out) hb); have n2_ := Aside0.mk (hbox); have n3_ := Aside0.mk ((by rw [hg]; exact (below_size (zG GE497.out)) : w.heap.size ≤ gb498)); have n4_ := Aside0.mk ((by rw [hg]; exact (below_size (zG GE497.out)) : w.heap.size ≤ gb498)); have n5_ := Aside0.mk ((by rw [hg]; exact Nat.ne_of_lt (blk_lt (g := gb497) (o := .cells #[.int .i64 a0_0, .string a0_1] 26 (0, 0)) (zK BK497.out)) : gb497 ≠ gb498)); have n6_ := Aside0.mk ((by rw [hg]; exact Nat.ne_of_gt (blk_lt (g := gb497) (o := .cells #[.int .i64 a0_0, .string a0_1] 26 (0, 0)) (zK BK497.out)) : gb498 ≠ gb497)); clear BK497; clear HB; have BK497 := n0_; have HB := n1_; have BK498 := n2_; have GW498 := n3_; have GE498 := n4_; have NB497_498 := n5_; have NB498_497 := n6_; clear n0_ n1_ n2_ n3_ n4_ n5_ n6_; clear hb hbox hg))
 (try simp only [Act.put, List.setIfInBounds_toArray, List.set_cons_zero, List.set_cons_succ])
 go_cut [22] (fun v22 wc => ∃ (kq : Nat) (x22_2 : Bool), v22 = .bool x22_2 ∧ Aside0 (impl_RenameSigns.j0 kq l1 x22_2 a0_0 a0_1 = some (r1, r2, r3)) ∧ Aside0 (kq ≤ k) ∧ Aside0 (wc.heap[gb497]? = some (.cells #[.int .i64 a0_0, .string a0_1] 26 (0, 0))) ∧ Aside0 (wc.heap[gb498]? = some (.cells #[.int .i64 0, .string (⟨#[]⟩ : ByteArray)] 26 (0, 0))) ∧ Aside0 (Below w.heap.size w wc))
 case first =>
  have H := HC3.out
  clear HC3
  replace H := Option.bind_eq_some_iff.mp H
  obtain ⟨t499, A60, H⟩ := H
  replace H : (if t499 = true then (if (l1.length : Int) = a0_0 then ((impl_areDifferent.f k a0_0 l1).bind fun t500 => (impl_RenameSigns.j0 k l1 (!t500) a0_0 a0_1)) else (impl_RenameSigns.j0 k l1 true a0_0 a0_1)) else (impl_RenameSigns.j0 k l1 true a0_0 a0_1)) = some (r1, r2, r3) := H
  have A6 := Aside0.mk A60
  clear A60
  by_cases c7 : t499 = true
  ·subst c7
   have H1 : (if (l1.length : Int) = a0_0 then ((impl_areDifferent.f k a0_0 l1).bind fun t500 => (impl_RenameSigns.j0 k l1 (!t500) a0_0 a0_1)) else (impl_RenameSigns.j0 k l1 true a0_0 a0_1)) = some (r1, r2, r3) := by rw [if_pos rfl] at H; exact H
   clear H
   have H := H1
   clear H1
   by_cases c8 : (l1.length : Int) = a0_0
   ·rw [if_pos c8] at H
    have c8b0 : ((l1.length : Int) == a0_0) = true := beq_iff_eq.mpr c8
    have c8b1 : ((l1.length : Int) != a0_0) = false := bne_eq_false_iff_eq.mpr c8
    clear c8
    (first | rw [c8b0] | (simp only [i64_w, i32_w]; rw [c8b0]) | skip)
    replace H := Option.bind_eq_some_iff.mp H
    obtain ⟨t500, A90, H⟩ := H
    replace H : (impl_RenameSigns.j0 k l1 (!t500) a0_0 a0_1) = some (r1, r2, r3) := H
    have A9 := Aside0.mk A90
    clear A90
    have H' := Aside0.mk H
    clear H
    have hnb10 := NB497_498.out
    have hnc10 := NB498_497.out
    have hcz11_0 : w5.cell? ⟨gb497, 0, none⟩ = some (.int .i64 a0_0) := (blk_cell BK497.out 0).trans rfl
    have hcz11_1 : w5.cell? ⟨gb497, 1, none⟩ = some (.string a0_1) := (blk_cell BK497.out 1).trans rfl
    have hfz11_0 := blk_frozen BK497.out 0
    have hfz11_1 := blk_frozen BK497.out 1
    go_wp2_with (first | ((with_reducible refine gate_callee (f := 19) rfl ?_); refine goesL_ (some 7) rfl rfl Try.func19 (by kernel_rfl) rfl #[.agg #[.int .i64 a0_0, .string a0_1]] rfl zM ?_; (with_reducible refine (impl_AreSigns.calls k a0_0 a0_1 true _ A6.out).mono ?_); rintro e w12 ⟨rfl, hb⟩; refine ⟨_, rfl, ?_⟩; have n0_ := Aside0.mk (blk_below (g := gb497) (o := .cells #[.int .i64 a0_0, .string a0_1] 26 (0, 0)) (zK BK497.out) hb); have n1_ := Aside0.mk (blk_below (g := gb498) (o := .cells #[.int .i64 0, .string (⟨#[]⟩ : ByteArray)] 26 (0, 0)) (zK BK498.out) hb); have n2_ := Aside0.mk (below_step (by repeat (first | (with_reducible first | exact HB.out | apply below_alloc | apply pw_below_drewN | apply below_drew1 | refine below_set ?_ GE497.out | refine below_set ?_ GE498.out) | exact HB.out)) hb); clear BK497; clear BK498; clear HB; have BK497 := n0_; have BK498 := n1_; have HB := n2_; clear n0_ n1_ n2_; (try clear hb); (try clear hb2); (try clear hk); (try clear hi); have hcz13_0 : w12.cell? ⟨gb497, 0, none⟩ = some (.int .i64 a0_0) := (blk_cell BK497.out 0).trans rfl; have hcz13_1 : w12.cell? ⟨gb497, 1, none⟩ = some (.string a0_1) := (blk_cell BK497.out 1).trans rfl; have hfz13_0 := blk_frozen BK497.out 0; have hfz13_1 := blk_frozen BK497.out 1) | (go_at_call 54; (with_reducible refine (impl_areDifferent.calls k a0_0 _ _ l1 t500 _ ?side1 ?side2 A9.out).mono ?_); (case side1 => repeat (first | exact (Kd.C_below HR1.out HB.out) | (with_reducible refine Kd.C_alloc ?_ _) | (with_reducible refine Kd.C_drewN ?_ _) | (with_reducible refine Kd.C_drew ?_))); (case side2 => exact HC1.out); rintro e w' ⟨rfl, ⟨nd, rfl⟩⟩))
    go_meet
    case rel => exact ⟨_, (!t500), zF, H', ⟨by first | omega | exact Nat.le_refl _⟩, ⟨zK BK497.out⟩, ⟨zK BK498.out⟩, ⟨by repeat (first | (with_reducible first | exact HB.out | apply below_alloc | apply pw_below_drewN | apply below_drew1 | refine below_set ?_ GE497.out | refine below_set ?_ GE498.out) | exact HB.out)⟩⟩
   ·rw [if_neg c8] at H
    have c8b0 : ((l1.length : Int) == a0_0) = false := beq_eq_false_iff_ne.mpr c8
    have c8b1 : ((l1.length : Int) != a0_0) = true := bne_iff_ne.mpr c8
    (first | rw [c8b0] | (simp only [i64_w, i32_w]; rw [c8b0]) | skip)
    have H' := Aside0.mk H
    clear H
    have hnb14 := NB497_498.out
    have hnc14 := NB498_497.out
    have hcz15_0 : w5.cell? ⟨gb497, 0, none⟩ = some (.int .i64 a0_0) := (blk_cell BK497.out 0).trans rfl
    have hcz15_1 : w5.cell? ⟨gb497, 1, none⟩ = some (.string a0_1) := (blk_cell BK497.out 1).trans rfl
    have hfz15_0 := blk_frozen BK497.out 0
    have hfz15_1 := blk_frozen BK497.out 1
    go_wp2_with (first | ((with_reducible refine gate_callee (f := 19) rfl ?_); refine goesL_ (some 7) rfl rfl Try.func19 (by kernel_rfl) rfl #[.agg #[.int .i64 a0_0, .string a0_1]] rfl zM ?_; (with_reducible refine (impl_AreSigns.calls k a0_0 a0_1 true _ A6.out).mono ?_); rintro e w16 ⟨rfl, hb⟩; refine ⟨_, rfl, ?_⟩; have n0_ := Aside0.mk (blk_below (g := gb497) (o := .cells #[.int .i64 a0_0, .string a0_1] 26 (0, 0)) (zK BK497.out) hb); have n1_ := Aside0.mk (blk_below (g := gb498) (o := .cells #[.int .i64 0, .string (⟨#[]⟩ : ByteArray)] 26 (0, 0)) (zK BK498.out) hb); have n2_ := Aside0.mk (below_step (by repeat (first | (with_reducible first | exact HB.out | apply below_alloc | apply pw_below_drewN | apply below_drew1 | refine below_set ?_ GE497.out | refine below_set ?_ GE498.out) | exact HB.out)) hb); clear BK497; clear BK498; clear HB; have BK497 := n0_; have BK498 := n1_; have HB := n2_; clear n0_ n1_ n2_; (try clear hb); (try clear hb2); (try clear hk); (try clear hi); have hcz17_0 : w16.cell? ⟨gb497, 0, none⟩ = some (.int .i64 a0_0) := (blk_cell BK497.out 0).trans rfl; have hcz17_1 : w16.cell? ⟨gb497, 1, none⟩ = some (.string a0_1) := (blk_cell BK497.out 1).trans rfl; have hfz17_0 := blk_frozen BK497.out 0; have hfz17_1 := blk_frozen BK497.out 1))
    go_meet
    case rel => exact ⟨_, (true), zF, H', ⟨by first | omega | exact Nat.le_refl _⟩, ⟨zK BK497.out⟩, ⟨zK BK498.out⟩, ⟨by repeat (first | (with_reducible first | exact HB.out | apply below_alloc | apply pw_below_drewN | apply below_drew1 | refine below_set ?_ GE497.out | refine below_set ?_ GE498.out) | exact HB.out)⟩⟩
  ·replace c7 := Bool.eq_false_iff.mpr c7
   subst c7
   have H1 : (impl_RenameSigns.j0 k l1 true a0_0 a0_1) = some (r1, r2, r3) := by rw [if_neg (show ¬ (false = true) by decide)] at H; exact H
   clear H
   have H := H1
   clear H1
   have H' := Aside0.mk H
   clear H
   have hnb18 := NB497_498.out
   have hnc18 := NB498_497.out
   have hcz19_0 : w5.cell? ⟨gb497, 0, none⟩ = some (.int .i64 a0_0) := (blk_cell BK497.out 0).trans rfl
   have hcz19_1 : w5.cell? ⟨gb497, 1, none⟩ = some (.string a0_1) := (blk_cell BK497.out 1).trans rfl
   have hfz19_0 := blk_frozen BK497.out 0
   have hfz19_1 := blk_frozen BK497.out 1
   go_wp2_with (first | ((with_reducible refine gate_callee (f := 19) rfl ?_); refine goesL_ (some 7) rfl rfl Try.func19 (by kernel_rfl) rfl #[.agg #[.int .i64 a0_0, .string a0_1]] rfl zM ?_; (with_reducible refine (impl_AreSigns.calls k a0_0 a0_1 false _ A6.out).mono ?_); rintro e w20 ⟨rfl, hb⟩; refine ⟨_, rfl, ?_⟩; have n0_ := Aside0.mk (blk_below (g := gb497) (o := .cells #[.int .i64 a0_0, .string a0_1] 26 (0, 0)) (zK BK497.out) hb); have n1_ := Aside0.mk (blk_below (g := gb498) (o := .cells #[.int .i64 0, .string (⟨#[]⟩ : ByteArray)] 26 (0, 0)) (zK BK498.out) hb); have n2_ := Aside0.mk (below_step (by repeat (first | (with_reducible first | exact HB.out | apply below_alloc | apply pw_below_drewN | apply below_drew1 | refine below_set ?_ GE497.out | refine below_set ?_ GE498.out) | exact HB.out)) hb); clear BK497; clear BK498; clear HB; have BK497 := n0_; have BK498 := n1_; have HB := n2_; clear n0_ n1_ n2_; (try clear hb); (try clear hb2); (try clear hk); (try clear hi)))
   go_meet
   case rel => exact ⟨_, (true), zF, H', ⟨by first | omega | exact Nat.le_refl _⟩, ⟨zK BK497.out⟩, ⟨zK BK498.out⟩, ⟨by repeat (first | (with_reducible first | exact HB.out | apply below_alloc | apply pw_below_drewN | apply below_drew1 | refine below_set ?_ GE497.out | refine below_set ?_ GE498.out) | exact HB.out)⟩⟩
 case rest =>
  clear HC3
  try clear c1
  try clear p2
  try clear c4
  try clear c7
  try clear c8
  try clear c8b0
  try clear c8b1
  try clear c10
  try clear c14
  try clear c18
  try clear c19
  try clear hcz11_0
  try clear hcz11_1
  try clear hcz13_0
  try clear hcz13_1
  try clear hcz15_0
  try clear hcz15_1
  try clear hcz17_0
  try clear hcz17_1
  try clear hcz19_0
  try clear hcz19_1
  try clear hfz11_0
  try clear hfz11_1
  try clear hfz13_0
  try clear hfz13_1
  try clear hfz15_0
  try clear hfz15_1
  try clear hfz17_0
  try clear hfz17_1
  try clear hfz19_0
  try clear hfz19_1
  obtain ⟨kq, x22_2, rfl, HA, HJ2, BK497, BK498, HB⟩ := hcut
  cases kq with
  | zero => exact absurd HA.out (by simp [impl_RenameSigns.j0])
  | succ kj2 =>
   have H := HA.out
   clear HA
   simp only [impl_RenameSigns.j0] at H
   by_cases c21 : x22_2 = true
   ·subst c21
    have H1 : (some (0, (⟨#[]⟩ : ByteArray), false)) = some (r1, r2, r3) := by rw [if_pos rfl] at H; exact H
    clear H
    have H := H1
    clear H1
    simp only [Option.some.injEq, Prod.mk.injEq] at H
    obtain ⟨rfl, rfl, rfl⟩ := H
    have hnb22 := NB498_497.out
    have hnc22 := NB497_498.out
    have hcz23_0 : wc.cell? ⟨gb498, 0, none⟩ = some (.int .i64 0) := (blk_cell BK498.out 0).trans rfl
    have hcz23_1 : wc.cell? ⟨gb498, 1, none⟩ = some (.string (⟨#[]⟩ : ByteArray)) := (blk_cell BK498.out 1).trans rfl
    have hfz23_0 := blk_frozen BK498.out 0
    have hfz23_1 := blk_frozen BK498.out 1
    go_wp2
    refine bodyPost_ret (results_ct rfl _ _ gb498 26 #[.int .i64 0, .string (⟨#[]⟩ : ByteArray)] (0, 0) _ rfl (by (with_reducible repeat (first | refine blk_drewN ?_ _ | refine blk_drew ?_ | refine blk_alloc ?_ _)); refine blk_put (cs := #[.int .i64 0, .string (⟨#[]⟩ : ByteArray)]) ?_ 1 _ rfl; (with_reducible repeat (first | refine blk_drewN ?_ _ | refine blk_drew ?_ | refine blk_alloc ?_ _)); refine blk_put (cs := #[.int .i64 0, .string (⟨#[]⟩ : ByteArray)]) ?_ 0 _ rfl; (with_reducible repeat (first | refine blk_drewN ?_ _ | refine blk_drew ?_ | refine blk_alloc ?_ _)); exact BK498.out) Try.underlying26 rfl (by kernel_rfl)) rfl ?_
    exact ⟨zE, by repeat (first | (with_reducible first | exact HB.out | apply below_alloc | apply pw_below_drewN | apply below_drew1 | refine below_set ?_ GE497.out | refine below_set ?_ GE498.out) | exact HB.out)⟩
   ·replace c21 := Bool.eq_false_iff.mpr c21
    subst c21
    have H1 : ((impl_tableOf.f kj2 a0_0 a0_1).bind fun t501 => (if t501.length = 344 then ((impl_chi_rename.f kj2 t501 l1).bind fun bt504 => (some (bt504.1, bt504.2, true))) else (none))) = some (r1, r2, r3) := by rw [if_neg (show ¬ (false = true) by decide)] at H; exact H
    clear H
    have H := H1
    clear H1
    replace H := Option.bind_eq_some_iff.mp H
    obtain ⟨t501, A240, H⟩ := H
    replace H : (if t501.length = 344 then ((impl_chi_rename.f kj2 t501 l1).bind fun bt504 => (some (bt504.1, bt504.2, true))) else (none)) = some (r1, r2, r3) := H
    have A24 := Aside0.mk A240
    clear A240
    by_cases c25 : t501.length = 344
    ·rw [if_pos c25] at H
     have c25b0 := eq_true c25
     have c25b1 : decide (t501.length = 344) = true := decide_eq_true c25
     clear c25
     replace H := Option.bind_eq_some_iff.mp H
     obtain ⟨⟨t504, t505⟩, A260, H⟩ := H
     replace H : (some (t504, t505, true)) = some (r1, r2, r3) := H
     have A26 := Aside0.mk A260
     clear A260
     simp only [Option.some.injEq, Prod.mk.injEq] at H
     obtain ⟨rfl, rfl, rfl⟩ := H
     have hnb27 := NB497_498.out
     have hnc27 := NB498_497.out
     have hcz28_0 : wc.cell? ⟨gb497, 0, none⟩ = some (.int .i64 a0_0) := (blk_cell BK497.out 0).trans rfl
     have hcz28_1 : wc.cell? ⟨gb497, 1, none⟩ = some (.string a0_1) := (blk_cell BK497.out 1).trans rfl
     have hfz28_0 := blk_frozen BK497.out 0
     have hfz28_1 := blk_frozen BK497.out 1
     go_wp2_with (first | ((with_reducible refine gate_callee (f := 55) rfl ?_); refine goesL_ (some 25) rfl rfl Try.func55 (by kernel_rfl) rfl #[.agg #[.int .i64 a0_0, .string a0_1]] rfl zM ?_; (with_reducible refine (impl_tableOf.calls kj2 a0_0 a0_1 t501 _ A24.out).mono ?_); rintro e w29 ⟨v502, rfl, ho0, hb⟩; refine ⟨_, rfl, ?_⟩; have n0_ := Aside0.mk (Kd.R_lower ho0 (below_size (by repeat (first | (with_reducible first | exact HB.out | apply below_alloc | apply pw_below_drewN | apply below_drew1 | refine below_set ?_ GE497.out | refine below_set ?_ GE498.out) | exact HB.out)))); have n1_ := Aside0.mk (blk_below (g := gb497) (o := .cells #[.int .i64 a0_0, .string a0_1] 26 (0, 0)) (zK BK497.out) hb); have n2_ := Aside0.mk (blk_below (g := gb498) (o := .cells #[.int .i64 0, .string (⟨#[]⟩ : ByteArray)] 26 (0, 0)) (zK BK498.out) hb); have n3_ := Aside0.mk (below_step (by repeat (first | (with_reducible first | exact HB.out | apply below_alloc | apply pw_below_drewN | apply below_drew1 | refine below_set ?_ GE497.out | refine below_set ?_ GE498.out) | exact HB.out)) hb); clear BK497; clear BK498; clear HB; have HO503 := n0_; have BK497 := n1_; have BK498 := n2_; have HB := n3_; clear n0_ n1_ n2_ n3_; (try clear hb); (try clear hb2); (try clear hk); (try clear hi); (try clear ho0); obtain ⟨go30, co30, eo30, gb30, gl30, cl30, HG30⟩ := Kd.R_form HO503.out (by have hl_ := Nat.le_of_eq (Eq.symm (zA : t501.length = 344)); omega); (first | cases eo30 | (injection eo30 with ea_ en_ ec_; (first | subst ea_ | (injection ea_ with ea_; subst ea_)); subst ec_; clear en_)); have GB30 := Aside0.mk gb30; have GG30 := Aside0.mk HG30; clear gb30 gl30 HG30) | ((with_reducible refine gate_callee (f := 69) rfl ?_); refine goesL_ (some 27) rfl rfl Try.func69 (by kernel_rfl) rfl #[.pointer (some ⟨go30, 0, none⟩), .slice A1 l1.length c1] rfl zM ?_; (with_reducible refine (impl_chi_rename.calls kj2 _ t501 _ _ l1 t504 t505 _ ?side1 ?side2 ?side3 ?side4 A26.out).mono ?_); (case side1 => repeat (first | exact (Kd.R_reads' HO503.out).2.2 | (with_reducible refine Kd.C_alloc ?_ _) | (with_reducible refine Kd.C_drewN ?_ _) | (with_reducible refine Kd.C_drew ?_))); (case side2 => exact (zA : t501.length = 344)); (case side3 => repeat (first | exact (Kd.C_below HR1.out HB.out) | (with_reducible refine Kd.C_alloc ?_ _) | (with_reducible refine Kd.C_drewN ?_ _) | (with_reducible refine Kd.C_drew ?_))); (case side4 => exact HC1.out); rintro e w31 ⟨rfl, hb⟩; refine ⟨_, rfl, ?_⟩; have n0_ := Aside0.mk (Kd.R_below (zR HO503.out) hb); have n1_ := Aside0.mk (blk_below (g := gb497) (o := .cells #[.int .i64 a0_0, .string a0_1] 26 (0, 0)) (zK BK497.out) hb); have n2_ := Aside0.mk (blk_below (g := gb498) (o := .cells #[.int .i64 0, .string (⟨#[]⟩ : ByteArray)] 26 (0, 0)) (zK BK498.out) hb); have n3_ := Aside0.mk (below_step (by repeat (first | (with_reducible first | exact HB.out | apply below_alloc | apply pw_below_drewN | apply below_drew1 | refine below_set ?_ GE497.out | refine below_set ?_ GE498.out) | exact HB.out)) hb); clear HO503; clear BK497; clear BK498; clear HB; have HO503 := n0_; have BK497 := n1_; have BK498 := n2_; have HB := n3_; clear n0_ n1_ n2_ n3_; (try clear hb); (try clear hb2); (try clear hk); (try clear hi); have hcz32_0 : w31.cell? ⟨gb498, 0, none⟩ = some (.int .i64 0) := (blk_cell BK498.out 0).trans rfl; have hcz32_1 : w31.cell? ⟨gb498, 1, none⟩ = some (.string (⟨#[]⟩ : ByteArray)) := (blk_cell BK498.out 1).trans rfl; have hfz32_0 := blk_frozen BK498.out 0; have hfz32_1 := blk_frozen BK498.out 1))
     refine bodyPost_ret (results_ct rfl _ _ gb498 26 #[.int .i64 t504, .string t505] (0, 0) _ rfl (by (with_reducible repeat (first | refine blk_drewN ?_ _ | refine blk_drew ?_ | refine blk_alloc ?_ _)); refine blk_put (cs := #[.int .i64 t504, .string (⟨#[]⟩ : ByteArray)]) ?_ 1 _ rfl; (with_reducible repeat (first | refine blk_drewN ?_ _ | refine blk_drew ?_ | refine blk_alloc ?_ _)); refine blk_put (cs := #[.int .i64 0, .string (⟨#[]⟩ : ByteArray)]) ?_ 0 _ rfl; (with_reducible repeat (first | refine blk_drewN ?_ _ | refine blk_drew ?_ | refine blk_alloc ?_ _)); exact BK498.out) Try.underlying26 rfl (by kernel_rfl)) rfl ?_
     exact ⟨zE, by repeat (first | (with_reducible first | exact HB.out | apply below_alloc | apply pw_below_drewN | apply below_drew1 | refine below_set ?_ GE497.out | refine below_set ?_ GE498.out) | exact HB.out)⟩
    ·rw [if_neg c25] at H
     exact absurd H (by simp)
/-! ### laws_FnExactRenameSigns: function 11 -/
def laws_FnExactRenameSigns.j0 : Nat → List Int → List Int → Bool → Option (Bool)
 | 0, _, _, _ => none
 | k + 1, x1, x8, x44 => if x44 = true then (some false) else ((laws_toIntS.f k x1).bind fun t527 => ((laws_eqIntS.f k x8 t527).bind fun t530 => (if t530 = true then (some true) else (some false))))
def laws_FnExactRenameSigns.f (k : Nat) (a0_0 : Int) (a0_1 : ByteArray) (l1 : List Int) : Option (Bool) := if (l1.length : Int) > 1048576 then (some true) else ((laws_szSigns.f a0_0 a0_1 1048576).bind fun t507 => (if t507 < 0 then (some true) else ((laws_toSigns.f a0_0 a0_1).bind fun bt508 => ((laws_toIntS.f k l1).bind fun t510 => ((spec_RenameSigns.f k bt508.1 bt508.2 t510).bind fun bt513 => ((laws_toIntS.f k l1).bind fun t517 => ((laws_toSigns.f a0_0 a0_1).bind fun bt520 => ((impl_RenameSigns.f k bt520.1 bt520.2 t517).bind fun bt522 => ((laws_eqSigns.f bt522.1 bt522.2.1 bt513.1 bt513.2.1).bind fun t526 => (if t526 = true then (laws_FnExactRenameSigns.j0 k l1 t517 (bt522.2.2 != bt513.2.2)) else (laws_FnExactRenameSigns.j0 k l1 t517 true)))))))))))
theorem laws_FnExactRenameSigns.mono_l : ∀ k, (∀ y0 y1 y2, LeO (laws_FnExactRenameSigns.j0 k y0 y1 y2) (laws_FnExactRenameSigns.j0 (k + 1) y0 y1 y2))
 | 0 => fun _ _ _ r h => by simp [laws_FnExactRenameSigns.j0] at h
 | k + 1 => by
  have ih0 := laws_FnExactRenameSigns.mono_l k
  ·intro y0 y1 y2
   unfold laws_FnExactRenameSigns.j0
   repeat' first
   | (with_reducible exact ih0 _ _ _)
   | (with_reducible exact impl_RenameSigns.mono _ _ _ _)
   | (with_reducible exact laws_eqIntS.mono _ _ _)
   | (with_reducible exact laws_toIntS.mono _ _)
   | (with_reducible exact spec_RenameSigns.mono _ _ _ _)
   | (with_reducible exact LeO.refl _)
   | (with_reducible exact LeO.none _)
   | (with_reducible refine LeO.ite ?_ ?_)
   | (with_reducible refine LeO.bind ?_ (fun _ => ?_))
   | exact ih0 _ _ _
   | exact impl_RenameSigns.mono _ _ _ _
   | exact laws_eqIntS.mono _ _ _
   | exact laws_toIntS.mono _ _
   | exact spec_RenameSigns.mono _ _ _ _
   | exact LeO.none _
   | refine LeO.ite ?_ ?_
   | refine LeO.bind ?_ (fun _ => ?_)
theorem laws_FnExactRenameSigns.mono : ∀ a0 a1 a2 k, LeO (laws_FnExactRenameSigns.f k a0 a1 a2) (laws_FnExactRenameSigns.f (k + 1) a0 a1 a2) := by
 intro a0 a1 a2 k
 have ih0 := laws_FnExactRenameSigns.mono_l k
 unfold laws_FnExactRenameSigns.f
 repeat' first
   | (with_reducible exact ih0 _ _ _)
   | (with_reducible exact impl_RenameSigns.mono _ _ _ _)
   | (with_reducible exact laws_eqIntS.mono _ _ _)
   | (with_reducible exact laws_toIntS.mono _ _)
   | (with_reducible exact spec_RenameSigns.mono _ _ _ _)
   | (with_reducible exact LeO.refl _)
   | (with_reducible exact LeO.none _)
   | (with_reducible refine LeO.ite ?_ ?_)
   | (with_reducible refine LeO.bind ?_ (fun _ => ?_))
   | exact ih0 _ _ _
   | exact impl_RenameSigns.mono _ _ _ _
   | exact laws_eqIntS.mono _ _ _
   | exact laws_toIntS.mono _ _
   | exact spec_RenameSigns.mono _ _ _ _
   | exact LeO.none _
   | refine LeO.ite ?_ ?_
   | refine LeO.bind ?_ (fun _ => ?_)
set_option maxHeartbeats 8000000 in
set_option maxRecDepth 100000 in
theorem laws_FnExactRenameSigns.calls (k : Nat) (a0_0 : Int) (a0_1 : ByteArray) (A1 : Option Addr) (c1 : Nat) (l1 : List Int) (r : Bool) (w : World) (hr1 : Kd.C (Kd.int .i64) w A1 l1.length l1) (hc1 : l1.length ≤ c1) (h : laws_FnExactRenameSigns.f k a0_0 a0_1 l1 = some r) (hr_ : r = true) :
  Calls Try.prog 11 #[.agg #[.int .i64 a0_0, .string a0_1], .slice A1 l1.length c1] w fun e w' => e = .returned (.bool r) ∧ Below w.heap.size w w' := by
 have hu23 := Try.underlying23
 have hu26 := Try.underlying26
 have HR1 := Aside0.mk hr1
 have HC1 := Aside0.mk hc1
 clear hr1 hc1
 have HB := Aside0.mk (Below.refl w.heap.size w)
 have H : (if (l1.length : Int) > 1048576 then (some true) else ((laws_szSigns.f a0_0 a0_1 1048576).bind fun t507 => (if t507 < 0 then (some true) else ((laws_toSigns.f a0_0 a0_1).bind fun bt508 => ((laws_toIntS.f k l1).bind fun t510 => ((spec_RenameSigns.f k bt508.1 bt508.2 t510).bind fun bt513 => ((laws_toIntS.f k l1).bind fun t517 => ((laws_toSigns.f a0_0 a0_1).bind fun bt520 => ((impl_RenameSigns.f k bt520.1 bt520.2 t517).bind fun bt522 => ((laws_eqSigns.f bt522.1 bt522.2.1 bt513.1 bt513.2.1).bind fun t526 => (if t526 = true then (laws_FnExactRenameSigns.j0 k l1 t517 (bt522.2.2 != bt513.2.2)) else (laws_FnExactRenameSigns.j0 k l1 t517 true)))))))))))) = some r := h
 clear h
 by_cases c3 : (l1.length : Int) > 1048576
 ·rw [if_pos c3] at H
  have c3b0 : decide (1048576 < (l1.length : Int)) = true := decide_eq_true c3
  have c3b1 : decide (1048576 < l1.length) = true := decide_eq_true (by omega)
  clear c3
  obtain rfl := Option.some.inj H
  go_enter Try.func11, Try.ntmps11
  go_wp2_with (first | ((with_reducible refine gate_dst (N := 2) rfl ?_); refine box_event ?hg (N := 2) ?hd (cs := #[.int .i64 a0_0, .string a0_1]) (t := 23) ?hr ?_; (case hd => rfl); (case hg => rfl); (case hr => first | (go_simp; done) | (go_simp; rfl)); intro gb506 hg w4 hbox hb; have n0_ := Aside0.mk (below_step zB hb); have n1_ := Aside0.mk (hbox); have n2_ := Aside0.mk ((by rw [hg]; exact (below_size zB) : w.heap.size ≤ gb506)); have n3_ := Aside0.mk ((by rw [hg]; exact (below_size zB) : w.heap.size ≤ gb506)); clear HB; have HB := n0_; have BK506 := n1_; have GW506 := n2_; have GE506 := n3_; clear n0_ n1_ n2_ n3_; clear hb hbox hg))
  go_ret
  exact ⟨zE, zG GE506.out⟩
 ·rw [if_neg c3] at H
  have c3b0 : decide (1048576 < (l1.length : Int)) = false := decide_eq_false c3
  have c3b1 : decide (1048576 < l1.length) = false := decide_eq_false (by omega)
  clear c3
  replace H := Option.bind_eq_some_iff.mp H
  obtain ⟨t507, A50, H⟩ := H
  replace H : (if t507 < 0 then (some true) else ((laws_toSigns.f a0_0 a0_1).bind fun bt508 => ((laws_toIntS.f k l1).bind fun t510 => ((spec_RenameSigns.f k bt508.1 bt508.2 t510).bind fun bt513 => ((laws_toIntS.f k l1).bind fun t517 => ((laws_toSigns.f a0_0 a0_1).bind fun bt520 => ((impl_RenameSigns.f k bt520.1 bt520.2 t517).bind fun bt522 => ((laws_eqSigns.f bt522.1 bt522.2.1 bt513.1 bt513.2.1).bind fun t526 => (if t526 = true then (laws_FnExactRenameSigns.j0 k l1 t517 (bt522.2.2 != bt513.2.2)) else (laws_FnExactRenameSigns.j0 k l1 t517 true)))))))))) = some r := H
  have A5 := Aside0.mk A50
  clear A50
  by_cases c6 : t507 < 0
  ·rw [if_pos c6] at H
   have c6b0 : decide (t507 < 0) = true := decide_eq_true c6
   clear c6
   obtain rfl := Option.some.inj H
   go_enter Try.func11, Try.ntmps11
   go_wp2_with (first | ((with_reducible refine gate_dst (N := 2) rfl ?_); refine box_event ?hg (N := 2) ?hd (cs := #[.int .i64 a0_0, .string a0_1]) (t := 23) ?hr ?_; (case hd => rfl); (case hg => rfl); (case hr => first | (go_simp; done) | (go_simp; rfl)); intro gb506 hg w7 hbox hb; have n0_ := Aside0.mk (below_step zB hb); have n1_ := Aside0.mk (hbox); have n2_ := Aside0.mk ((by rw [hg]; exact (below_size zB) : w.heap.size ≤ gb506)); have n3_ := Aside0.mk ((by rw [hg]; exact (below_size zB) : w.heap.size ≤ gb506)); clear HB; have HB := n0_; have BK506 := n1_; have GW506 := n2_; have GE506 := n3_; clear n0_ n1_ n2_ n3_; clear hb hbox hg; have hcz8_0 : w7.cell? ⟨gb506, 0, none⟩ = some (.int .i64 a0_0) := (blk_cell BK506.out 0).trans rfl; have hcz8_1 : w7.cell? ⟨gb506, 1, none⟩ = some (.string a0_1) := (blk_cell BK506.out 1).trans rfl; have hfz8_0 := blk_frozen BK506.out 0; have hfz8_1 := blk_frozen BK506.out 1) | ((with_reducible refine gate_callee (f := 16) rfl ?_); refine goesL_ (some 16) rfl rfl Try.func16 (by kernel_rfl) rfl #[.agg #[.int .i64 a0_0, .string a0_1], .int .i64 1048576] rfl zM ?_; (with_reducible refine (laws_szSigns.calls a0_0 a0_1 1048576 t507 _ A5.out).mono ?_); rintro e w9 ⟨rfl, hb⟩; refine ⟨_, rfl, ?_⟩; have n0_ := Aside0.mk (blk_below (g := gb506) (o := .cells #[.int .i64 a0_0, .string a0_1] 23 (0, 0)) (zK BK506.out) hb); have n1_ := Aside0.mk (below_step (zG GE506.out) hb); clear BK506; clear HB; have BK506 := n0_; have HB := n1_; clear n0_ n1_; (try clear hb); (try clear hb2); (try clear hk); (try clear hi)))
   go_ret
   exact ⟨zE, zG GE506.out⟩
  ·rw [if_neg c6] at H
   have c6b0 : decide (t507 < 0) = false := decide_eq_false c6
   clear c6
   replace H := Option.bind_eq_some_iff.mp H
   obtain ⟨⟨t508, t509⟩, A100, H⟩ := H
   replace H : ((laws_toIntS.f k l1).bind fun t510 => ((spec_RenameSigns.f k t508 t509 t510).bind fun bt513 => ((laws_toIntS.f k l1).bind fun t517 => ((laws_toSigns.f a0_0 a0_1).bind fun bt520 => ((impl_RenameSigns.f k bt520.1 bt520.2 t517).bind fun bt522 => ((laws_eqSigns.f bt522.1 bt522.2.1 bt513.1 bt513.2.1).bind fun t526 => (if t526 = true then (laws_FnExactRenameSigns.j0 k l1 t517 (bt522.2.2 != bt513.2.2)) else (laws_FnExactRenameSigns.j0 k l1 t517 true)))))))) = some r := H
   have A10 := Aside0.mk A100
   clear A100
   replace H := Option.bind_eq_some_iff.mp H
   obtain ⟨t510, A110, H⟩ := H
   replace H : ((spec_RenameSigns.f k t508 t509 t510).bind fun bt513 => ((laws_toIntS.f k l1).bind fun t517 => ((laws_toSigns.f a0_0 a0_1).bind fun bt520 => ((impl_RenameSigns.f k bt520.1 bt520.2 t517).bind fun bt522 => ((laws_eqSigns.f bt522.1 bt522.2.1 bt513.1 bt513.2.1).bind fun t526 => (if t526 = true then (laws_FnExactRenameSigns.j0 k l1 t517 (bt522.2.2 != bt513.2.2)) else (laws_FnExactRenameSigns.j0 k l1 t517 true))))))) = some r := H
   have A11 := Aside0.mk A110
   clear A110
   replace H := Option.bind_eq_some_iff.mp H
   obtain ⟨⟨t513, t514, t515⟩, A120, H⟩ := H
   replace H : ((laws_toIntS.f k l1).bind fun t517 => ((laws_toSigns.f a0_0 a0_1).bind fun bt520 => ((impl_RenameSigns.f k bt520.1 bt520.2 t517).bind fun bt522 => ((laws_eqSigns.f bt522.1 bt522.2.1 t513 t514).bind fun t526 => (if t526 = true then (laws_FnExactRenameSigns.j0 k l1 t517 (bt522.2.2 != t515)) else (laws_FnExactRenameSigns.j0 k l1 t517 true)))))) = some r := H
   have A12 := Aside0.mk A120
   clear A120
   replace H := Option.bind_eq_some_iff.mp H
   obtain ⟨t517, A130, H⟩ := H
   replace H : ((laws_toSigns.f a0_0 a0_1).bind fun bt520 => ((impl_RenameSigns.f k bt520.1 bt520.2 t517).bind fun bt522 => ((laws_eqSigns.f bt522.1 bt522.2.1 t513 t514).bind fun t526 => (if t526 = true then (laws_FnExactRenameSigns.j0 k l1 t517 (bt522.2.2 != t515)) else (laws_FnExactRenameSigns.j0 k l1 t517 true))))) = some r := H
   have A13 := Aside0.mk A130
   clear A130
   replace H := Option.bind_eq_some_iff.mp H
   obtain ⟨⟨t520, t521⟩, A140, H⟩ := H
   replace H : ((impl_RenameSigns.f k t520 t521 t517).bind fun bt522 => ((laws_eqSigns.f bt522.1 bt522.2.1 t513 t514).bind fun t526 => (if t526 = true then (laws_FnExactRenameSigns.j0 k l1 t517 (bt522.2.2 != t515)) else (laws_FnExactRenameSigns.j0 k l1 t517 true)))) = some r := H
   have A14 := Aside0.mk A140
   clear A140
   replace H := Option.bind_eq_some_iff.mp H
   obtain ⟨⟨t522, t523, t524⟩, A150, H⟩ := H
   replace H : ((laws_eqSigns.f t522 t523 t513 t514).bind fun t526 => (if t526 = true then (laws_FnExactRenameSigns.j0 k l1 t517 (t524 != t515)) else (laws_FnExactRenameSigns.j0 k l1 t517 true))) = some r := H
   have A15 := Aside0.mk A150
   clear A150
   have HC16 := Aside0.mk H
   clear H
   go_enter Try.func11, Try.ntmps11
   go_upto_region 10 with (first | ((with_reducible refine gate_dst (N := 2) rfl ?_); refine box_event ?hg (N := 2) ?hd (cs := #[.int .i64 a0_0, .string a0_1]) (t := 23) ?hr ?_; (case hd => rfl); (case hg => rfl); (case hr => first | (go_simp; done) | (go_simp; rfl)); intro gb506 hg w17 hbox hb; have n0_ := Aside0.mk (below_step zB hb); have n1_ := Aside0.mk (hbox); have n2_ := Aside0.mk ((by rw [hg]; exact (below_size zB) : w.heap.size ≤ gb506)); have n3_ := Aside0.mk ((by rw [hg]; exact (below_size zB) : w.heap.size ≤ gb506)); clear HB; have HB := n0_; have BK506 := n1_; have GW506 := n2_; have GE506 := n3_; clear n0_ n1_ n2_ n3_; clear hb hbox hg; have hcz18_0 : w17.cell? ⟨gb506, 0, none⟩ = some (.int .i64 a0_0) := (blk_cell BK506.out 0).trans rfl; have hcz18_1 : w17.cell? ⟨gb506, 1, none⟩ = some (.string a0_1) := (blk_cell BK506.out 1).trans rfl; have hfz18_0 := blk_frozen BK506.out 0; have hfz18_1 := blk_frozen BK506.out 1) | ((with_reducible refine gate_callee (f := 16) rfl ?_); refine goesL_ (some 16) rfl rfl Try.func16 (by kernel_rfl) rfl #[.agg #[.int .i64 a0_0, .string a0_1], .int .i64 1048576] rfl zM ?_; (with_reducible refine (laws_szSigns.calls a0_0 a0_1 1048576 t507 _ A5.out).mono ?_); rintro e w19 ⟨rfl, hb⟩; refine ⟨_, rfl, ?_⟩; have n0_ := Aside0.mk (blk_below (g := gb506) (o := .cells #[.int .i64 a0_0, .string a0_1] 23 (0, 0)) (zK BK506.out) hb); have n1_ := Aside0.mk (below_step (zG GE506.out) hb); clear BK506; clear HB; have BK506 := n0_; have HB := n1_; clear n0_ n1_; (try clear hb); (try clear hb2); (try clear hk); (try clear hi); have hcz20_0 : w19.cell? ⟨gb506, 0, none⟩ = some (.int .i64 a0_0) := (blk_cell BK506.out 0).trans rfl; have hcz20_1 : w19.cell? ⟨gb506, 1, none⟩ = some (.string a0_1) := (blk_cell BK506.out 1).trans rfl; have hfz20_0 := blk_frozen BK506.out 0; have hfz20_1 := blk_frozen BK506.out 1) | ((with_reducible refine gate_callee (f := 18) rfl ?_); refine goesL_ (some 21) rfl rfl Try.func18 (by kernel_rfl) rfl #[.agg #[.int .i64 a0_0, .string a0_1]] rfl zM ?_; (with_reducible refine (laws_toSigns.calls a0_0 a0_1 t508 t509 _ A10.out).mono ?_); rintro e w21 ⟨rfl, hb⟩; refine ⟨_, rfl, ?_⟩; have n0_ := Aside0.mk (blk_below (g := gb506) (o := .cells #[.int .i64 a0_0, .string a0_1] 23 (0, 0)) (zK BK506.out) hb); have n1_ := Aside0.mk (below_step (zG GE506.out) hb); clear BK506; clear HB; have BK506 := n0_; have HB := n1_; clear n0_ n1_; (try clear hb); (try clear hb2); (try clear hk); (try clear hi)) | ((with_reducible refine gate_callee (f := 39) rfl ?_); refine goesL_ (some 23) rfl rfl Try.func39 (by kernel_rfl) rfl #[.slice A1 l1.length c1] rfl zM ?_; (with_reducible refine (laws_toIntS.calls k _ _ l1 t510 _ ?side1 ?side2 A11.out).mono ?_); (case side1 => repeat (first | exact (Kd.C_below HR1.out HB.out) | (with_reducible refine Kd.C_alloc ?_ _) | (with_reducible refine Kd.C_drewN ?_ _) | (with_reducible refine Kd.C_drew ?_))); (case side2 => exact HC1.out); rintro e w22 ⟨v511, rfl, ho0, hb⟩; refine ⟨_, rfl, ?_⟩; have n0_ := Aside0.mk (Kd.R_lower ho0 (below_size (zG GE506.out))); have n1_ := Aside0.mk (blk_below (g := gb506) (o := .cells #[.int .i64 a0_0, .string a0_1] 23 (0, 0)) (zK BK506.out) hb); have n2_ := Aside0.mk (below_step (zG GE506.out) hb); clear BK506; clear HB; have HO512 := n0_; have BK506 := n1_; have HB := n2_; clear n0_ n1_ n2_; (try clear hb); (try clear hb2); (try clear hk); (try clear hi); (try clear ho0); obtain ⟨Ao23, co23, eo23⟩ := Kd.R_slice HO512.out; subst eo23) | ((with_reducible refine gate_callee (f := 38) rfl ?_); refine goesL_ (some 24) rfl rfl Try.func38 (by kernel_rfl) rfl #[.agg #[.int .i64 t508, .string t509], .slice Ao23 t510.length co23] rfl zM ?_; (with_reducible refine (spec_RenameSigns.calls k t508 t509 _ _ t510 t513 t514 t515 _ ?side1 ?side2 A12.out).mono ?_); (case side1 => repeat (first | exact (Kd.R_reads' HO512.out).2.2 | (with_reducible refine Kd.C_alloc ?_ _) | (with_reducible refine Kd.C_drewN ?_ _) | (with_reducible refine Kd.C_drew ?_))); (case side2 => exact (Kd.R_reads' HO512.out).2.1); rintro e w24 ⟨rfl, hb⟩; refine ⟨_, rfl, ?_⟩; have n0_ := Aside0.mk (Kd.R_below (zR HO512.out) hb); have n1_ := Aside0.mk (blk_below (g := gb506) (o := .cells #[.int .i64 a0_0, .string a0_1] 23 (0, 0)) (zK BK506.out) hb); have n2_ := Aside0.mk (below_step (zG GE506.out) hb); clear HO512; clear BK506; clear HB; have HO512 := n0_; have BK506 := n1_; have HB := n2_; clear n0_ n1_ n2_; (try clear hb); (try clear hb2); (try clear hk); (try clear hi)) | ((with_reducible refine gate_dst (N := 6) rfl ?_); refine box_event ?hg (N := 6) ?hd (cs := #[.int .i64 0, .string (⟨#[]⟩ : ByteArray)]) (t := 26) ?hr ?_; (case hd => rfl); (case hg => rfl); (case hr => first | (go_simp; done) | (go_simp; rfl)); intro gb516 hg w25 hbox hb; have n0_ := Aside0.mk (Kd.R_below (zR HO512.out) hb); have n1_ := Aside0.mk (blk_below (g := gb506) (o := .cells #[.int .i64 a0_0, .string a0_1] 23 (0, 0)) (zK BK506.out) hb); have n2_ := Aside0.mk (below_step (zG GE506.out) hb); have n3_ := Aside0.mk (hbox); have n4_ := Aside0.mk ((by rw [hg]; exact (below_size (zG GE506.out)) : w.heap.size ≤ gb516)); have n5_ := Aside0.mk ((by rw [hg]; exact (below_size (zG GE506.out)) : w.heap.size ≤ gb516)); have n6_ := Aside0.mk ((by rw [hg]; exact Nat.ne_of_lt (blk_lt (g := gb506) (o := .cells #[.int .i64 a0_0, .string a0_1] 23 (0, 0)) (zK BK506.out)) : gb506 ≠ gb516)); have n7_ := Aside0.mk ((by rw [hg]; exact Nat.ne_of_gt (blk_lt (g := gb506) (o := .cells #[.int .i64 a0_0, .string a0_1] 23 (0, 0)) (zK BK506.out)) : gb516 ≠ gb506)); clear HO512; clear BK506; clear HB; have HO512 := n0_; have BK506 := n1_; have HB := n2_; have BK516 := n3_; have GW516 := n4_; have GE516 := n5_; have NB506_516 := n6_; have NB516_506 := n7_; clear n0_ n1_ n2_ n3_ n4_ n5_ n6_ n7_; clear hb hbox hg; have hnb26 := NB516_506.out; have hnc26 := NB506_516.out; have hcz27_0 : w25.cell? ⟨gb516, 0, none⟩ = some (.int .i64 0) := (blk_cell BK516.out 0).trans rfl; have hcz27_1 : w25.cell? ⟨gb516, 1, none⟩ = some (.string (⟨#[]⟩ : ByteArray)) := (blk_cell BK516.out 1).trans rfl; have hfz27_0 := blk_frozen BK516.out 0; have hfz27_1 := blk_frozen BK516.out 1) | ((with_reducible refine gate_callee (f := 39) rfl ?_); refine goesL_ (some 28) rfl rfl Try.func39 (by kernel_rfl) rfl #[.slice A1 l1.length c1] rfl zM ?_; (with_reducible refine (laws_toIntS.calls k _ _ l1 t517 _ ?side1 ?side2 A13.out).mono ?_); (case side1 => exact Kd.C_below HR1.out (by repeat (first | (with_reducible first | exact HB.out | apply below_alloc | apply pw_below_drewN | apply below_drew1 | refine below_set ?_ GE506.out | refine below_set ?_ GE516.out) | exact HB.out))); (case side2 => exact HC1.out); rintro e w28 ⟨v518, rfl, ho0, hb⟩; refine ⟨_, rfl, ?_⟩; have n0_ := Aside0.mk (Kd.R_elder' (by (with_reducible repeat (first | apply Kd.R_alloc | apply Kd.R_drewN | apply Kd.R_drew)); exact (Kd.R_mono (Kd.R_far (p := ⟨gb516, 1, none⟩) (Kd.R_far (p := ⟨gb516, 0, none⟩) (Kd.R_types HO512.out BK516.out (by decide)) (fun _ hk => hk.2) (.int .i64 t513)) (fun _ hk => hk.2) (.string t514)) (fun _ h_ => h_.1))) (Kd.R_base ho0) hb); have n1_ := Aside0.mk (Kd.R_lower (Kd.R_new' ho0 (Kd.R_lt (by (with_reducible repeat (first | apply Kd.R_alloc | apply Kd.R_drewN | apply Kd.R_drew)); exact (Kd.R_mono (Kd.R_far (p := ⟨gb516, 1, none⟩) (Kd.R_far (p := ⟨gb516, 0, none⟩) (Kd.R_types HO512.out BK516.out (by decide)) (fun _ hk => hk.2) (.int .i64 t513)) (fun _ hk => hk.2) (.string t514)) (fun _ h_ => h_.1))))) (below_size (by repeat (first | (with_reducible first | exact HB.out | apply below_alloc | apply pw_below_drewN | apply below_drew1 | refine below_set ?_ GE506.out | refine below_set ?_ GE516.out) | exact HB.out)))); have n2_ := Aside0.mk (blk_below (g := gb506) (o := .cells #[.int .i64 a0_0, .string a0_1] 23 (0, 0)) (by (with_reducible repeat (first | refine blk_drewN ?_ _ | refine blk_drew ?_ | refine blk_alloc ?_ _)); refine blk_far ?_ NB506_516.out _; (with_reducible repeat (first | refine blk_drewN ?_ _ | refine blk_drew ?_ | refine blk_alloc ?_ _)); refine blk_far ?_ NB506_516.out _; (with_reducible repeat (first | refine blk_drewN ?_ _ | refine blk_drew ?_ | refine blk_alloc ?_ _)); exact BK506.out) hb); have n3_ := Aside0.mk (blk_below (g := gb516) (o := .cells #[.int .i64 t513, .string t514] 26 (0, 0)) (by (with_reducible repeat (first | refine blk_drewN ?_ _ | refine blk_drew ?_ | refine blk_alloc ?_ _)); refine blk_put (cs := #[.int .i64 t513, .string (⟨#[]⟩ : ByteArray)]) ?_ 1 _ rfl; (with_reducible repeat (first | refine blk_drewN ?_ _ | refine blk_drew ?_ | refine blk_alloc ?_ _)); refine blk_put (cs := #[.int .i64 0, .string (⟨#[]⟩ : ByteArray)]) ?_ 0 _ rfl; (with_reducible repeat (first | refine blk_drewN ?_ _ | refine blk_drew ?_ | refine blk_alloc ?_ _)); exact BK516.out) hb); have n4_ := Aside0.mk (below_step (by repeat (first | (with_reducible first | exact HB.out | apply below_alloc | apply pw_below_drewN | apply below_drew1 | refine below_set ?_ GE506.out | refine below_set ?_ GE516.out) | exact HB.out)) hb); clear HO512; clear BK506; clear BK516; clear HB; have HO512 := n0_; have HO519 := n1_; have BK506 := n2_; have BK516 := n3_; have HB := n4_; clear n0_ n1_ n2_ n3_ n4_; (try clear hb); (try clear hb2); (try clear hk); (try clear hi); (try clear ho0); have hcz29_0 : w28.cell? ⟨gb506, 0, none⟩ = some (.int .i64 a0_0) := (blk_cell BK506.out 0).trans rfl; have hcz29_1 : w28.cell? ⟨gb506, 1, none⟩ = some (.string a0_1) := (blk_cell BK506.out 1).trans rfl; have hfz29_0 := blk_frozen BK506.out 0; have hfz29_1 := blk_frozen BK506.out 1) | ((with_reducible refine gate_callee (f := 18) rfl ?_); refine goesL_ (some 31) rfl rfl Try.func18 (by kernel_rfl) rfl #[.agg #[.int .i64 a0_0, .string a0_1]] rfl zM ?_; (with_reducible refine (laws_toSigns.calls a0_0 a0_1 t520 t521 _ A14.out).mono ?_); rintro e w30 ⟨rfl, hb⟩; refine ⟨_, rfl, ?_⟩; have n0_ := Aside0.mk (Kd.R_below (zR HO512.out) hb); have n1_ := Aside0.mk (Kd.R_below (zR HO519.out) hb); have n2_ := Aside0.mk (blk_below (g := gb506) (o := .cells #[.int .i64 a0_0, .string a0_1] 23 (0, 0)) (zK BK506.out) hb); have n3_ := Aside0.mk (blk_below (g := gb516) (o := .cells #[.int .i64 t513, .string t514] 26 (0, 0)) (zK BK516.out) hb); have n4_ := Aside0.mk (below_step (by repeat (first | (with_reducible first | exact HB.out | apply below_alloc | apply pw_below_drewN | apply below_drew1 | refine below_set ?_ GE506.out | refine below_set ?_ GE516.out) | exact HB.out)) hb); clear HO512; clear HO519; clear BK506; clear BK516; clear HB; have HO512 := n0_; have HO519 := n1_; have BK506 := n2_; have BK516 := n3_; have HB := n4_; clear n0_ n1_ n2_ n3_ n4_; (try clear hb); (try clear hb2); (try clear hk); (try clear hi); obtain ⟨Ao31, co31, eo31⟩ := Kd.R_slice HO519.out; subst eo31) | ((with_reducible refine gate_callee (f := 40) rfl ?_); refine goesL_ (some 33) rfl rfl Try.func40 (by kernel_rfl) rfl #[.agg #[.int .i64 t520, .string t521], .slice Ao31 t517.length co31] rfl zM ?_; (with_reducible refine (impl_RenameSigns.calls k t520 t521 _ _ t517 t522 t523 t524 _ ?side1 ?side2 A15.out).mono ?_); (case side1 => repeat (first | exact (Kd.R_reads' HO519.out).2.2 | (with_reducible refine Kd.C_alloc ?_ _) | (with_reducible refine Kd.C_drewN ?_ _) | (with_reducible refine Kd.C_drew ?_))); (case side2 => exact (Kd.R_reads' HO519.out).2.1); rintro e w32 ⟨rfl, hb⟩; refine ⟨_, rfl, ?_⟩; have n0_ := Aside0.mk (Kd.R_below (zR HO512.out) hb); have n1_ := Aside0.mk (Kd.R_below (zR HO519.out) hb); have n2_ := Aside0.mk (blk_below (g := gb506) (o := .cells #[.int .i64 a0_0, .string a0_1] 23 (0, 0)) (zK BK506.out) hb); have n3_ := Aside0.mk (blk_below (g := gb516) (o := .cells #[.int .i64 t513, .string t514] 26 (0, 0)) (zK BK516.out) hb); have n4_ := Aside0.mk (below_step (by repeat (first | (with_reducible first | exact HB.out | apply below_alloc | apply pw_below_drewN | apply below_drew1 | refine below_set ?_ GE506.out | refine below_set ?_ GE516.out) | exact HB.out)) hb); clear HO512; clear HO519; clear BK506; clear BK516; clear HB; have HO512 := n0_; have HO519 := n1_; have BK506 := n2_; have BK516 := n3_; have HB := n4_; clear n0_ n1_ n2_ n3_ n4_; (try clear hb); (try clear hb2); (try clear hk); (try clear hi)) | ((with_reducible refine gate_dst (N := 9) rfl ?_); refine box_event ?hg (N := 9) ?hd (cs := #[.int .i64 0, .string (⟨#[]⟩ : ByteArray)]) (t := 26) ?hr ?_; (case hd => rfl); (case hg => rfl); (case hr => first | (go_simp; done) | (go_simp; rfl)); intro gb525 hg w33 hbox hb; have n0_ := Aside0.mk (Kd.R_below (zR HO512.out) hb); have n1_ := Aside0.mk (Kd.R_below (zR HO519.out) hb); have n2_ := Aside0.mk (blk_below (g := gb506) (o := .cells #[.int .i64 a0_0, .string a0_1] 23 (0, 0)) (zK BK506.out) hb); have n3_ := Aside0.mk (blk_below (g := gb516) (o := .cells #[.int .i64 t513, .string t514] 26 (0, 0)) (zK BK516.out) hb); have n4_ := Aside0.mk (below_step (by repeat (first | (with_reducible first | exact HB.out | apply below_alloc | apply pw_below_drewN | apply below_drew1 | refine below_set ?_ GE506.out | refine below_set ?_ GE516.out) | exact HB.out)) hb); have n5_ := Aside0.mk (hbox); have n6_ := Aside0.mk ((by rw [hg]; exact (below_size (by repeat (first | (with_reducible first | exact HB.out | apply below_alloc | apply pw_below_drewN | apply below_drew1 | refine below_set ?_ GE506.out | refine below_set ?_ GE516.out) | exact HB.out))) : w.heap.size ≤ gb525)); have n7_ := Aside0.mk ((by rw [hg]; exact (below_size (by repeat (first | (with_reducible first | exact HB.out | apply below_alloc | apply pw_below_drewN | apply below_drew1 | refine below_set ?_ GE506.out | refine below_set ?_ GE516.out) | exact HB.out))) : w.heap.size ≤ gb525)); have n8_ := Aside0.mk ((by rw [hg]; exact Nat.ne_of_lt (blk_lt (g := gb506) (o := .cells #[.int .i64 a0_0, .string a0_1] 23 (0, 0)) (zK BK506.out)) : gb506 ≠ gb525)); have n9_ := Aside0.mk ((by rw [hg]; exact Nat.ne_of_gt (blk_lt (g := gb506) (o := .cells #[.int .i64 a0_0, .string a0_1] 23 (0, 0)) (zK BK506.out)) : gb525 ≠ gb506)); have n10_ := Aside0.mk ((by rw [hg]; exact Nat.ne_of_lt (blk_lt (g := gb516) (o := .cells #[.int .i64 t513, .string t514] 26 (0, 0)) (zK BK516.out)) : gb516 ≠ gb525)); have n11_ := Aside0.mk ((by rw [hg]; exact Nat.ne_of_gt (blk_lt (g := gb516) (o := .cells #[.int .i64 t513, .string t514] 26 (0, 0)) (zK BK516.out)) : gb525 ≠ gb516)); clear HO512; clear HO519; clear BK506; clear BK516; clear HB; have HO512 := n0_; have HO519 := n1_; have BK506 := n2_; have BK516 := n3_; have HB := n4_; have BK525 := n5_; have GW525 := n6_; have GE525 := n7_; have NB506_525 := n8_; have NB525_506 := n9_; have NB516_525 := n10_; have NB525_516 := n11_; clear n0_ n1_ n2_ n3_ n4_ n5_ n6_ n7_ n8_ n9_ n10_ n11_; clear hb hbox hg; have hnb34 := NB525_506.out; have hnc34 := NB506_525.out; have hnb35 := NB525_516.out; have hnc35 := NB516_525.out; have hcz36_0 : w33.cell? ⟨gb525, 0, none⟩ = some (.int .i64 0) := (blk_cell BK525.out 0).trans rfl; have hcz36_1 : w33.cell? ⟨gb525, 1, none⟩ = some (.string (⟨#[]⟩ : ByteArray)) := (blk_cell BK525.out 1).trans rfl; have hfz36_0 := blk_frozen BK525.out 0; have hfz36_1 := blk_frozen BK525.out 1))
   (try simp only [Act.put, List.setIfInBounds_toArray, List.set_cons_zero, List.set_cons_succ])
   go_cut [44] (fun v44 wc => ∃ (kq : Nat) (x44_15 : Bool), v44 = .bool x44_15 ∧ Aside0 (laws_FnExactRenameSigns.j0 kq l1 t517 x44_15 = some r) ∧ Aside0 (kq ≤ k) ∧ Aside0 (Kd.R (Kd.int .i64) 3 wc w.heap.size (fun _ => True) (.slice Ao31 t517.length co31) t517) ∧ Aside0 (wc.heap[gb506]? = some (.cells #[.int .i64 a0_0, .string a0_1] 23 (0, 0))) ∧ Aside0 (wc.heap[gb516]? = some (.cells #[.int .i64 t513, .string t514] 26 (0, 0))) ∧ Aside0 (wc.heap[gb525]? = some (.cells #[.int .i64 t522, .string t523] 26 (0, 0))) ∧ Aside0 (Below w.heap.size w wc))
   case first =>
    have H := HC16.out
    clear HC16
    replace H := Option.bind_eq_some_iff.mp H
    obtain ⟨t526, A370, H⟩ := H
    replace H : (if t526 = true then (laws_FnExactRenameSigns.j0 k l1 t517 (t524 != t515)) else (laws_FnExactRenameSigns.j0 k l1 t517 true)) = some r := H
    have A37 := Aside0.mk A370
    clear A370
    by_cases c38 : t526 = true
    ·subst c38
     have H1 : (laws_FnExactRenameSigns.j0 k l1 t517 (t524 != t515)) = some r := by rw [if_pos rfl] at H; exact H
     clear H
     have H := H1
     clear H1
     have H' := Aside0.mk H
     clear H
     have hnb39 := NB525_506.out
     have hnc39 := NB506_525.out
     have hnb40 := NB525_516.out
     have hnc40 := NB516_525.out
     have hcz41_0 : w33.cell? ⟨gb525, 0, none⟩ = some (.int .i64 0) := (blk_cell BK525.out 0).trans rfl
     have hcz41_1 : w33.cell? ⟨gb525, 1, none⟩ = some (.string (⟨#[]⟩ : ByteArray)) := (blk_cell BK525.out 1).trans rfl
     have hfz41_0 := blk_frozen BK525.out 0
     have hfz41_1 := blk_frozen BK525.out 1
     have hnb42 := NB516_506.out
     have hnc42 := NB506_516.out
     have hcz43_0 : w33.cell? ⟨gb516, 0, none⟩ = some (.int .i64 t513) := (blk_cell BK516.out 0).trans rfl
     have hcz43_1 : w33.cell? ⟨gb516, 1, none⟩ = some (.string t514) := (blk_cell BK516.out 1).trans rfl
     have hfz43_0 := blk_frozen BK516.out 0
     have hfz43_1 := blk_frozen BK516.out 1
     go_wp2_with (first | ((with_reducible refine gate_callee (f := 22) rfl ?_); refine goesL_ (some 38) rfl rfl Try.func22 (by kernel_rfl) rfl #[.agg #[.int .i64 t522, .string t523], .agg #[.int .i64 t513, .string t514]] rfl zM ?_; (with_reducible refine (laws_eqSigns.calls t522 t523 t513 t514 true _ A37.out).mono ?_); rintro e w44 ⟨rfl, hb⟩; refine ⟨_, rfl, ?_⟩; have n0_ := Aside0.mk (Kd.R_below (by (with_reducible repeat (first | apply Kd.R_alloc | apply Kd.R_drewN | apply Kd.R_drew)); exact (Kd.R_mono (Kd.R_far (p := ⟨gb525, 1, none⟩) (Kd.R_far (p := ⟨gb525, 0, none⟩) (Kd.R_types HO512.out BK525.out (by decide)) (fun _ hk => hk.2) (.int .i64 t522)) (fun _ hk => hk.2) (.string t523)) (fun _ h_ => h_.1))) hb); have n1_ := Aside0.mk (Kd.R_below (by (with_reducible repeat (first | apply Kd.R_alloc | apply Kd.R_drewN | apply Kd.R_drew)); exact (Kd.R_mono (Kd.R_far (p := ⟨gb525, 1, none⟩) (Kd.R_far (p := ⟨gb525, 0, none⟩) (Kd.R_types HO519.out BK525.out (by decide)) (fun _ hk => hk.2) (.int .i64 t522)) (fun _ hk => hk.2) (.string t523)) (fun _ h_ => h_.1))) hb); have n2_ := Aside0.mk (blk_below (g := gb506) (o := .cells #[.int .i64 a0_0, .string a0_1] 23 (0, 0)) (by (with_reducible repeat (first | refine blk_drewN ?_ _ | refine blk_drew ?_ | refine blk_alloc ?_ _)); refine blk_far ?_ NB506_525.out _; (with_reducible repeat (first | refine blk_drewN ?_ _ | refine blk_drew ?_ | refine blk_alloc ?_ _)); refine blk_far ?_ NB506_525.out _; (with_reducible repeat (first | refine blk_drewN ?_ _ | refine blk_drew ?_ | refine blk_alloc ?_ _)); exact BK506.out) hb); have n3_ := Aside0.mk (blk_below (g := gb516) (o := .cells #[.int .i64 t513, .string t514] 26 (0, 0)) (by (with_reducible repeat (first | refine blk_drewN ?_ _ | refine blk_drew ?_ | refine blk_alloc ?_ _)); refine blk_far ?_ NB516_525.out _; (with_reducible repeat (first | refine blk_drewN ?_ _ | refine blk_drew ?_ | refine blk_alloc ?_ _)); refine blk_far ?_ NB516_525.out _; (with_reducible repeat (first | refine blk_drewN ?_ _ | refine blk_drew ?_ | refine blk_alloc ?_ _)); exact BK516.out) hb); have n4_ := Aside0.mk (blk_below (g := gb525) (o := .cells #[.int .i64 t522, .string t523] 26 (0, 0)) (by (with_reducible repeat (first | refine blk_drewN ?_ _ | refine blk_drew ?_ | refine blk_alloc ?_ _)); refine blk_put (cs := #[.int .i64 t522, .string (⟨#[]⟩ : ByteArray)]) ?_ 1 _ rfl; (with_reducible repeat (first | refine blk_drewN ?_ _ | refine blk_drew ?_ | refine blk_alloc ?_ _)); refine blk_put (cs := #[.int .i64 0, .string (⟨#[]⟩ : ByteArray)]) ?_ 0 _ rfl; (with_reducible repeat (first | refine blk_drewN ?_ _ | refine blk_drew ?_ | refine blk_alloc ?_ _)); exact BK525.out) hb); have n5_ := Aside0.mk (below_step (by repeat (first | (with_reducible first | exact HB.out | apply below_alloc | apply pw_below_drewN | apply below_drew1 | refine below_set ?_ GE506.out | refine below_set ?_ GE516.out | refine below_set ?_ GE525.out) | exact HB.out)) hb); clear HO512; clear HO519; clear BK506; clear BK516; clear BK525; clear HB; have HO512 := n0_; have HO519 := n1_; have BK506 := n2_; have BK516 := n3_; have BK525 := n4_; have HB := n5_; clear n0_ n1_ n2_ n3_ n4_ n5_; (try clear hb); (try clear hb2); (try clear hk); (try clear hi)))
     go_meet
     case rel => exact ⟨_, ((t524 != t515)), zF, H', ⟨by first | omega | exact Nat.le_refl _⟩, ⟨by (with_reducible repeat (first | apply Kd.R_alloc | apply Kd.R_drewN | apply Kd.R_drew)); exact Kd.R_mono HO519.out (fun _ hk => trivial)⟩, ⟨zK BK506.out⟩, ⟨zK BK516.out⟩, ⟨zK BK525.out⟩, ⟨by repeat (first | (with_reducible first | exact HB.out | apply below_alloc | apply pw_below_drewN | apply below_drew1 | refine below_set ?_ GE506.out | refine below_set ?_ GE516.out | refine below_set ?_ GE525.out) | exact HB.out)⟩⟩
    ·replace c38 := Bool.eq_false_iff.mpr c38
     subst c38
     have H1 : (laws_FnExactRenameSigns.j0 k l1 t517 true) = some r := by rw [if_neg (show ¬ (false = true) by decide)] at H; exact H
     clear H
     have H := H1
     clear H1
     have H' := Aside0.mk H
     clear H
     have hnb45 := NB525_506.out
     have hnc45 := NB506_525.out
     have hnb46 := NB525_516.out
     have hnc46 := NB516_525.out
     have hcz47_0 : w33.cell? ⟨gb525, 0, none⟩ = some (.int .i64 0) := (blk_cell BK525.out 0).trans rfl
     have hcz47_1 : w33.cell? ⟨gb525, 1, none⟩ = some (.string (⟨#[]⟩ : ByteArray)) := (blk_cell BK525.out 1).trans rfl
     have hfz47_0 := blk_frozen BK525.out 0
     have hfz47_1 := blk_frozen BK525.out 1
     have hnb48 := NB516_506.out
     have hnc48 := NB506_516.out
     have hcz49_0 : w33.cell? ⟨gb516, 0, none⟩ = some (.int .i64 t513) := (blk_cell BK516.out 0).trans rfl
     have hcz49_1 : w33.cell? ⟨gb516, 1, none⟩ = some (.string t514) := (blk_cell BK516.out 1).trans rfl
     have hfz49_0 := blk_frozen BK516.out 0
     have hfz49_1 := blk_frozen BK516.out 1
     go_wp2_with (first | ((with_reducible refine gate_callee (f := 22) rfl ?_); refine goesL_ (some 38) rfl rfl Try.func22 (by kernel_rfl) rfl #[.agg #[.int .i64 t522, .string t523], .agg #[.int .i64 t513, .string t514]] rfl zM ?_; (with_reducible refine (laws_eqSigns.calls t522 t523 t513 t514 false _ A37.out).mono ?_); rintro e w50 ⟨rfl, hb⟩; refine ⟨_, rfl, ?_⟩; have n0_ := Aside0.mk (Kd.R_below (by (with_reducible repeat (first | apply Kd.R_alloc | apply Kd.R_drewN | apply Kd.R_drew)); exact (Kd.R_mono (Kd.R_far (p := ⟨gb525, 1, none⟩) (Kd.R_far (p := ⟨gb525, 0, none⟩) (Kd.R_types HO512.out BK525.out (by decide)) (fun _ hk => hk.2) (.int .i64 t522)) (fun _ hk => hk.2) (.string t523)) (fun _ h_ => h_.1))) hb); have n1_ := Aside0.mk (Kd.R_below (by (with_reducible repeat (first | apply Kd.R_alloc | apply Kd.R_drewN | apply Kd.R_drew)); exact (Kd.R_mono (Kd.R_far (p := ⟨gb525, 1, none⟩) (Kd.R_far (p := ⟨gb525, 0, none⟩) (Kd.R_types HO519.out BK525.out (by decide)) (fun _ hk => hk.2) (.int .i64 t522)) (fun _ hk => hk.2) (.string t523)) (fun _ h_ => h_.1))) hb); have n2_ := Aside0.mk (blk_below (g := gb506) (o := .cells #[.int .i64 a0_0, .string a0_1] 23 (0, 0)) (by (with_reducible repeat (first | refine blk_drewN ?_ _ | refine blk_drew ?_ | refine blk_alloc ?_ _)); refine blk_far ?_ NB506_525.out _; (with_reducible repeat (first | refine blk_drewN ?_ _ | refine blk_drew ?_ | refine blk_alloc ?_ _)); refine blk_far ?_ NB506_525.out _; (with_reducible repeat (first | refine blk_drewN ?_ _ | refine blk_drew ?_ | refine blk_alloc ?_ _)); exact BK506.out) hb); have n3_ := Aside0.mk (blk_below (g := gb516) (o := .cells #[.int .i64 t513, .string t514] 26 (0, 0)) (by (with_reducible repeat (first | refine blk_drewN ?_ _ | refine blk_drew ?_ | refine blk_alloc ?_ _)); refine blk_far ?_ NB516_525.out _; (with_reducible repeat (first | refine blk_drewN ?_ _ | refine blk_drew ?_ | refine blk_alloc ?_ _)); refine blk_far ?_ NB516_525.out _; (with_reducible repeat (first | refine blk_drewN ?_ _ | refine blk_drew ?_ | refine blk_alloc ?_ _)); exact BK516.out) hb); have n4_ := Aside0.mk (blk_below (g := gb525) (o := .cells #[.int .i64 t522, .string t523] 26 (0, 0)) (by (with_reducible repeat (first | refine blk_drewN ?_ _ | refine blk_drew ?_ | refine blk_alloc ?_ _)); refine blk_put (cs := #[.int .i64 t522, .string (⟨#[]⟩ : ByteArray)]) ?_ 1 _ rfl; (with_reducible repeat (first | refine blk_drewN ?_ _ | refine blk_drew ?_ | refine blk_alloc ?_ _)); refine blk_put (cs := #[.int .i64 0, .string (⟨#[]⟩ : ByteArray)]) ?_ 0 _ rfl; (with_reducible repeat (first | refine blk_drewN ?_ _ | refine blk_drew ?_ | refine blk_alloc ?_ _)); exact BK525.out) hb); have n5_ := Aside0.mk (below_step (by repeat (first | (with_reducible first | exact HB.out | apply below_alloc | apply pw_below_drewN | apply below_drew1 | refine below_set ?_ GE506.out | refine below_set ?_ GE516.out | refine below_set ?_ GE525.out) | exact HB.out)) hb); clear HO512; clear HO519; clear BK506; clear BK516; clear BK525; clear HB; have HO512 := n0_; have HO519 := n1_; have BK506 := n2_; have BK516 := n3_; have BK525 := n4_; have HB := n5_; clear n0_ n1_ n2_ n3_ n4_ n5_; (try clear hb); (try clear hb2); (try clear hk); (try clear hi)))
     go_meet
     case rel => exact ⟨_, (true), zF, H', ⟨by first | omega | exact Nat.le_refl _⟩, ⟨by (with_reducible repeat (first | apply Kd.R_alloc | apply Kd.R_drewN | apply Kd.R_drew)); exact Kd.R_mono HO519.out (fun _ hk => trivial)⟩, ⟨zK BK506.out⟩, ⟨zK BK516.out⟩, ⟨zK BK525.out⟩, ⟨by repeat (first | (with_reducible first | exact HB.out | apply below_alloc | apply pw_below_drewN | apply below_drew1 | refine below_set ?_ GE506.out | refine below_set ?_ GE516.out | refine below_set ?_ GE525.out) | exact HB.out)⟩⟩
   case rest =>
    clear HC16
    try clear c1
    try clear c2
    try clear p2
    try clear c3
    try clear c3b0
    try clear c3b1
    try clear c4
    try clear c6
    try clear c6b0
    try clear c11
    try clear c16
    try clear c18
    try clear c22
    try clear c26
    try clear c34
    try clear c35
    try clear c38
    try clear c39
    try clear c40
    try clear c42
    try clear c45
    try clear c46
    try clear c48
    try clear hcz18_0
    try clear hcz18_1
    try clear hcz20_0
    try clear hcz20_1
    try clear hcz27_0
    try clear hcz27_1
    try clear hcz29_0
    try clear hcz29_1
    try clear hcz36_0
    try clear hcz36_1
    try clear hcz41_0
    try clear hcz41_1
    try clear hcz43_0
    try clear hcz43_1
    try clear hcz47_0
    try clear hcz47_1
    try clear hcz49_0
    try clear hcz49_1
    try clear hcz8_0
    try clear hcz8_1
    try clear hfz18_0
    try clear hfz18_1
    try clear hfz20_0
    try clear hfz20_1
    try clear hfz27_0
    try clear hfz27_1
    try clear hfz29_0
    try clear hfz29_1
    try clear hfz36_0
    try clear hfz36_1
    try clear hfz41_0
    try clear hfz41_1
    try clear hfz43_0
    try clear hfz43_1
    try clear hfz47_0
    try clear hfz47_1
    try clear hfz49_0
    try clear hfz49_1
    try clear hfz8_0
    try clear hfz8_1
    obtain ⟨kq, x44_15, rfl, HA, HJ15, HO_8, BK506, BK516, BK525, HB⟩ := hcut
    cases kq with
    | zero => exact absurd HA.out (by simp [laws_FnExactRenameSigns.j0])
    | succ kj15 =>
     have H := HA.out
     clear HA
     simp only [laws_FnExactRenameSigns.j0] at H
     by_cases c51 : x44_15 = true
     ·subst c51
      have H1 : (some false) = some r := by rw [if_pos rfl] at H; exact H
      clear H
      have H := H1
      clear H1
      obtain rfl := Option.some.inj H
      cases hr_
     ·replace c51 := Bool.eq_false_iff.mpr c51
      subst c51
      have H1 : ((laws_toIntS.f kj15 l1).bind fun t527 => ((laws_eqIntS.f kj15 t517 t527).bind fun t530 => (if t530 = true then (some true) else (some false)))) = some r := by rw [if_neg (show ¬ (false = true) by decide)] at H; exact H
      clear H
      have H := H1
      clear H1
      replace H := Option.bind_eq_some_iff.mp H
      obtain ⟨t527, A520, H⟩ := H
      replace H : ((laws_eqIntS.f kj15 t517 t527).bind fun t530 => (if t530 = true then (some true) else (some false))) = some r := H
      have A52 := Aside0.mk A520
      clear A520
      replace H := Option.bind_eq_some_iff.mp H
      obtain ⟨t530, A530, H⟩ := H
      replace H : (if t530 = true then (some true) else (some false)) = some r := H
      have A53 := Aside0.mk A530
      clear A530
      by_cases c54 : t530 = true
      ·subst c54
       have H1 : (some true) = some r := by rw [if_pos rfl] at H; exact H
       clear H
       have H := H1
       clear H1
       obtain rfl := Option.some.inj H
       go_wp2_with (first | ((with_reducible refine gate_callee (f := 39) rfl ?_); refine goesL_ (some 47) rfl rfl Try.func39 (by kernel_rfl) rfl #[.slice A1 l1.length c1] rfl zM ?_; (with_reducible refine (laws_toIntS.calls kj15 _ _ l1 t527 _ ?side1 ?side2 A52.out).mono ?_); (case side1 => repeat (first | exact (Kd.C_below HR1.out HB.out) | (with_reducible refine Kd.C_alloc ?_ _) | (with_reducible refine Kd.C_drewN ?_ _) | (with_reducible refine Kd.C_drew ?_))); (case side2 => exact HC1.out); rintro e w55 ⟨v528, rfl, ho0, hb⟩; refine ⟨_, rfl, ?_⟩; have n0_ := Aside0.mk (Kd.R_elder' (zR HO_8.out) (Kd.R_base ho0) hb); have n1_ := Aside0.mk (Kd.R_lower (Kd.R_new' ho0 (Kd.R_lt (zR HO_8.out))) (below_size (by repeat (first | (with_reducible first | exact HB.out | apply below_alloc | apply pw_below_drewN | apply below_drew1 | refine below_set ?_ GE506.out | refine below_set ?_ GE516.out | refine below_set ?_ GE525.out) | exact HB.out)))); have n2_ := Aside0.mk (blk_below (g := gb506) (o := .cells #[.int .i64 a0_0, .string a0_1] 23 (0, 0)) (zK BK506.out) hb); have n3_ := Aside0.mk (blk_below (g := gb516) (o := .cells #[.int .i64 t513, .string t514] 26 (0, 0)) (zK BK516.out) hb); have n4_ := Aside0.mk (blk_below (g := gb525) (o := .cells #[.int .i64 t522, .string t523] 26 (0, 0)) (zK BK525.out) hb); have n5_ := Aside0.mk (below_step (by repeat (first | (with_reducible first | exact HB.out | apply below_alloc | apply pw_below_drewN | apply below_drew1 | refine below_set ?_ GE506.out | refine below_set ?_ GE516.out | refine below_set ?_ GE525.out) | exact HB.out)) hb); clear HO_8; clear BK506; clear BK516; clear BK525; clear HB; have HO_8 := n0_; have HO529 := n1_; have BK506 := n2_; have BK516 := n3_; have BK525 := n4_; have HB := n5_; clear n0_ n1_ n2_ n3_ n4_ n5_; (try clear hb); (try clear hb2); (try clear hk); (try clear hi); (try clear ho0); obtain ⟨Ao56, co56, eo56⟩ := Kd.R_slice HO529.out; subst eo56) | ((with_reducible refine gate_callee (f := 35) rfl ?_); refine goesL_ (some 48) rfl rfl Try.func35 (by kernel_rfl) rfl #[.slice Ao31 t517.length co31, .slice Ao56 t527.length co56] rfl zM ?_; (with_reducible refine (laws_eqIntS.calls kj15 _ _ t517 _ _ t527 true _ ?side1 ?side2 ?side3 ?side4 A53.out).mono ?_); (case side1 => repeat (first | exact (Kd.R_reads' HO_8.out).2.2 | (with_reducible refine Kd.C_alloc ?_ _) | (with_reducible refine Kd.C_drewN ?_ _) | (with_reducible refine Kd.C_drew ?_))); (case side2 => exact (Kd.R_reads' HO_8.out).2.1); (case side3 => repeat (first | exact (Kd.R_reads' HO529.out).2.2 | (with_reducible refine Kd.C_alloc ?_ _) | (with_reducible refine Kd.C_drewN ?_ _) | (with_reducible refine Kd.C_drew ?_))); (case side4 => exact (Kd.R_reads' HO529.out).2.1); rintro e w' ⟨rfl, ⟨nd, rfl⟩⟩; refine ⟨_, rfl, ?_⟩))
       go_ret
       exact ⟨zE, by repeat (first | (with_reducible first | exact HB.out | apply below_alloc | apply pw_below_drewN | apply below_drew1 | refine below_set ?_ GE506.out | refine below_set ?_ GE516.out | refine below_set ?_ GE525.out) | exact HB.out)⟩
      ·replace c54 := Bool.eq_false_iff.mpr c54
       subst c54
       have H1 : (some false) = some r := by rw [if_neg (show ¬ (false = true) by decide)] at H; exact H
       clear H
       have H := H1
       clear H1
       obtain rfl := Option.some.inj H
       cases hr_
end Go.Proofs.Ytggbekkinkggfaa.PX
namespace Go.Proofs.Ytggbekkinkggfaa.M
open Go.RowKit Go.Proofs.YtggbekkinkggfaaW.PrintWords Go.Proofs.Ytggbekkinkggfaa.PX Go.Proofs.Ytggbekkinkggfaa.G
theorem nodup_le : ∀ (n : Nat) (L : List Nat), L.Nodup → (∀ x ∈ L, x < n) → L.length ≤ n := by
  intro n
  induction n with
  | zero =>
    intro L _ h
    cases L with
    | nil => exact Nat.le_refl _
    | cons x l => exact absurd (h x (List.mem_cons_self ..)) (by omega)
  | succ n ih =>
    intro L hd h
    by_cases hm : n ∈ L
    · have h1 := ih (L.erase n) (hd.erase _) (fun x hx => by
        have h2 := (List.Nodup.mem_erase_iff hd).1 hx
        have := h x h2.2
        have := h2.1
        omega)
      rw [List.length_erase_of_mem hm] at h1
      omega
    · have := ih L hd (fun x hx => by
        have h1 := h x hx
        have : x ≠ n := fun e => hm (e ▸ hx)
        omega)
      omega
theorem nodup_all {n : Nat} {L : List Nat} (hd : L.Nodup) (h : ∀ x ∈ L, x < n) (hl : L.length = n) {x : Nat} (hx : x < n) : x ∈ L := by
  refine Classical.byContradiction fun hn => ?_
  have := nodup_le n (x :: L) (List.nodup_cons.2 ⟨hn, hd⟩) (fun y hy => by
    rcases List.mem_cons.1 hy with e | e
    · omega
    · exact h y e)
  rw [List.length_cons] at this
  omega
/-- Different elements as a list of natural numbers. -/
theorem areD_up {n : Nat} {l : List Int} (h : areD n l = true) : ∃ L : List Nat, l = up L ∧ (∀ x ∈ L, x < n) ∧ L.Nodup := by
  have h' : ∀ (i : Nat) (hi : i < l.length), 0 ≤ l[i] ∧ l[i] < n ∧ ¬ l[i] ∈ l.take i := fun i hi => by
    have := List.all_eq_true.1 h i (List.mem_range.2 hi)
    rw [List.getD_eq_getElem?_getD, List.getElem?_eq_getElem hi] at this
    simp only [Option.getD_some, inR, Bool.and_eq_true, decide_eq_true_eq, Bool.not_eq_true'] at this
    refine ⟨this.1.1, this.1.2, fun hm => ?_⟩
    have h2 := List.contains_iff_mem.2 hm
    rw [this.2] at h2
    cases h2
  refine ⟨l.map Int.toNat, ?_, ?_, ?_⟩
  · unfold up
    rw [List.map_map]
    refine List.ext_getElem (by rw [List.length_map]) fun i h1 h2 => ?_
    rw [List.getElem_map]
    have := (h' i h1).1
    show l[i] = ((l[i].toNat : Nat) : Int)
    omega
  · intro x hx
    obtain ⟨y, hy, rfl⟩ := List.mem_map.1 hx
    obtain ⟨i, hi, rfl⟩ := List.getElem_of_mem hy
    have := h' i hi
    omega
  · refine List.pairwise_iff_getElem.2 fun i j hi hj hij e => ?_
    rw [List.length_map] at hi hj
    rw [List.getElem_map, List.getElem_map] at e
    have a := h' i hi
    have b := h' j hj
    refine b.2.2 ?_
    have : l[i] = l[j] := by omega
    rw [← this]
    have : (l.take j)[i]'(by rw [List.length_take]; omega) = l[i] := List.getElem_take ..
    rw [← this]
    exact List.getElem_mem _
theorem foldlM_allc {σ ρ α : Type} (c : α → Bool) (g : σ → α → σ) (v : ρ) (l : List α) : ∀ s, l.foldlM (fun s i => if c i then (.ok (g s i) : Except ρ σ) else .error v) s = if l.all c then .ok (l.foldl g s) else .error v := by
  induction l with
  | nil => intro s; rfl
  | cons x l ih =>
    intro s
    rw [List.foldlM_cons, List.all_cons]
    cases hx : c x with
    | true => exact ih (g s x)
    | false => rfl
theorem names_ev {n : Nat} (h0 : 3 ≤ n) (h1 : n ≤ 7) (l : List Int) (hl : l.length ≤ 9223372036854775807) : Ev (fun k => spec_l3Names.f k l (n : Int)) (areD n l && decide ((l.length : Int) = n)) := by
  unfold spec_l3Names.f
  have hm : spec_l1Max.f 0 (n : Int) = some (n : Int) := by unfold spec_l1Max.f; rw [if_neg (by omega)]
  refine ev_call hm (ev_pos (by omega) (ev_pos (by omega) ?_))
  rw [Int.toNat_natCast]
  have key := loop_up' (σ := List Bool) (ρ := Bool) (lo := 0) (n := l.length) (K := fun _ _ => some ((l.length : Int) == (n : Int))) (L := fun i s k => spec_l3Names.l0 k l (n : Int) s i)
    (fun i s => s.length = n ∧ ∀ x, x < n → s.getD x false = decide ((x : Int) ∈ l.take i)) (fun s i => if (inR n (l.getD i 0) && !((l.take i).contains (l.getD i 0))) then .ok (s.set (l.getD i 0).toNat true) else .error false)
    (fun s _ => ?_) (fun i _ hi s hs => ?_) (fun i _ hi s hs s' e => ?_) (by omega) (List.replicate n false) ⟨List.length_replicate .., fun x hx => ?_⟩
  · rw [foldlM_allc] at key
    have e : (List.range' 0 (l.length - 0)).all (fun i => inR n (l.getD i 0) && !((l.take i).contains (l.getD i 0))) = areD n l := by
      unfold areD
      rw [Nat.sub_zero, ← List.range_eq_range']
    rw [e] at key
    cases hd : areD n l with
    | true =>
      rw [hd] at key
      refine ev_cast (key _ (Ev.now _)) ?_
      rw [Bool.true_and]; rfl
    | false =>
      rw [hd] at key
      exact key
  · refine Goes.step ?_
    simp only [spec_l3Names.l0]
    exact Goes.neg (by omega) (Goes.ok s)
  · obtain ⟨hs1, hs2⟩ := hs
    have hr : rd l (i : Int) = l.getD i 0 := by unfold rd; rw [Int.toNat_natCast]
    refine Goes.step ?_
    simp only [spec_l3Names.l0, hr]
    refine Goes.pos (by omega) (Goes.pos (by omega) (Goes.call (spec_in _ _ _) ?_))
    generalize l.getD i 0 = y
    rw [wrap_id (x := (n : Int) - 1) (by omega) (by omega), wrap_id (by omega) (by omega)]
    by_cases hy : 0 ≤ y ∧ y < n
    · have e1 : inR n y = true := by simp only [inR, Bool.and_eq_true, decide_eq_true_eq]; omega
      rw [e1, Bool.true_and]
      refine Goes.pos (by simp only [Bool.and_eq_true, decide_eq_true_eq]; omega) (Goes.pos hy.1 (Goes.pos (by omega) ?_))
      have e2 : rdOf false s y = decide (y ∈ l.take i) := by
        show s.getD y.toNat false = _
        rw [hs2 y.toNat (by omega), Int.toNat_of_nonneg hy.1]
      rw [e2]
      by_cases hm : y ∈ l.take i
      · rw [List.contains_iff_mem.2 hm]
        exact Goes.pos (decide_eq_true hm) (Goes.ret _)
      · have e3 : (l.take i).contains y = false := by rw [Bool.eq_false_iff]; exact fun e => hm (List.contains_iff_mem.1 e)
        rw [e3]
        exact Goes.neg (by simp only [decide_eq_true_eq]; exact hm) (Goes.ok _)
    · have e1 : inR n y = false := by rw [Bool.eq_false_iff]; simp only [inR, ne_eq, Bool.and_eq_true, decide_eq_true_eq]; omega
      rw [e1, Bool.false_and]
      exact Goes.neg (by simp only [Bool.and_eq_true, decide_eq_true_eq]; omega) (Goes.ret _)
  · obtain ⟨hs1, hs2⟩ := hs
    split at e
    · rename_i hc
      cases e
      simp only [Bool.and_eq_true, inR, decide_eq_true_eq] at hc
      refine ⟨by rw [List.length_set]; exact hs1, fun x hx => ?_⟩
      rw [List.take_succ_eq_append_getElem hi]
      have ey : l.getD i 0 = l[i] := by rw [List.getD_eq_getElem?_getD, List.getElem?_eq_getElem hi]; rfl
      rw [ey] at hc
      rw [ey, List.getD_eq_getElem?_getD, List.getElem?_set]
      by_cases hx' : l[i].toNat = x
      · rw [if_pos hx', if_pos (by omega)]
        have : (x : Int) ∈ l.take i ++ [l[i]] := by
          rw [← hx', Int.toNat_of_nonneg hc.1.1]
          exact List.mem_append_right _ (List.mem_singleton.2 rfl)
        rw [decide_eq_true this]; rfl
      · rw [if_neg hx', ← List.getD_eq_getElem?_getD, hs2 x hx]
        congr 1
        rw [List.mem_append, List.mem_singleton]
        refine propext ⟨Or.inl, fun h => ?_⟩
        rcases h with h | h
        · exact h
        · exact absurd (by rw [← h]; rfl) hx'
    · cases e
  · rw [List.take_zero, List.getD_eq_getElem?_getD, List.getElem?_replicate, if_pos hx]
    rfl
def invL (L : List Nat) : List Nat := (List.range L.length).map fun x => L.idxOf x
theorem invL_length (L : List Nat) : (invL L).length = L.length := by rw [invL, List.length_map, List.length_range]
theorem invL_getD {L : List Nat} {x : Nat} (hx : x < L.length) : (invL L).getD x 0 = L.idxOf x := by
  rw [List.getD_eq_getElem?_getD, List.getElem?_eq_getElem (by rw [invL_length]; exact hx)]
  simp [invL]
theorem turned_ev {n : Nat} {L : List Nat} (hn : n ≤ 7) (hd : L.Nodup) (hm : ∀ x ∈ L, x < n) (hl : L.length = n) : Ev (fun k => spec_l3Turned.f k (up L)) (up (invL L)) := by
  unfold spec_l3Turned.f
  rw [up_length]
  refine ev_pos (by omega) (ev_pos (by rw [Int.toNat_natCast]; omega) ?_)
  rw [Int.toNat_natCast]
  have key := loop_up' (σ := List Int) (ρ := List Int) (lo := 0) (n := L.length) (K := fun s _ => some (up (invL L))) (L := fun i s k => spec_l3Turned.l0 k (up L) s i)
    (fun i s => s.length = n ∧ ∀ k (hk : k < L.length), k < i → s.getD L[k] 0 = k) (fun s i => .ok (s.set (L.getD i 0) (i : Int)))
    (fun s hs => ?_) (fun i _ hi s hs => ?_) (fun i _ hi s hs s' e => ?_) (by omega) (List.replicate L.length 0) ⟨by rw [List.length_replicate]; exact hl, fun k hk h => absurd h (by omega)⟩
  · rw [foldlM_ok] at key
    exact key _ (Ev.now _)
  · obtain ⟨hs1, hs2⟩ := hs
    refine Goes.step ?_
    simp only [spec_l3Turned.l0, up_length]
    refine Goes.neg (by omega) ?_
    have e : s = up (invL L) := by
      refine list_ext0 (by rw [up_length, invL_length, hs1, hl]) fun x hx => ?_
      have hxm := nodup_all hd hm hl (x := x) (by omega)
      have hxi := List.idxOf_lt_length_iff.2 hxm
      have h1 := hs2 (L.idxOf x) hxi hxi
      rw [List.getElem_idxOf hxi] at h1
      rw [h1]
      have : (up (invL L)).getD x 0 = rd (up (invL L)) (x : Int) := by unfold rd; rw [Int.toNat_natCast]
      rw [this, rd_up (by rw [invL_length]; omega), invL_getD (by omega)]
    rw [← e]
    exact Goes.ok (K := fun s _ => some s) s
  · obtain ⟨hs1, hs2⟩ := hs
    have hg : L.getD i 0 = L[i] := by rw [List.getD_eq_getElem?_getD, List.getElem?_eq_getElem hi]; rfl
    have hlt := hm L[i] (List.getElem_mem hi)
    refine Goes.step ?_
    simp only [spec_l3Turned.l0, up_length, rd_up hi]
    refine Goes.pos (by omega) (Goes.pos (by omega) (Goes.pos (by omega) (Goes.pos (by rw [hg]; omega) ?_)))
    rw [wrap_id (by omega) (by omega), Int.toNat_natCast]
    exact Goes.ok _
  · obtain ⟨hs1, hs2⟩ := hs
    cases e
    have hg : L.getD i 0 = L[i] := by rw [List.getD_eq_getElem?_getD, List.getElem?_eq_getElem hi]; rfl
    have hlt := hm L[i] (List.getElem_mem hi)
    refine ⟨by rw [List.length_set]; exact hs1, fun k hk hki => ?_⟩
    rw [hg, List.getD_eq_getElem?_getD, List.getElem?_set]
    by_cases e : L[i] = L[k]
    · have : i = k := Classical.byContradiction fun hne => by
        rcases Nat.lt_or_gt_of_ne hne with g | g
        · exact List.pairwise_iff_getElem.1 hd i k hi hk g e
        · exact List.pairwise_iff_getElem.1 hd k i hk hi g e.symm
      subst this
      rw [if_pos rfl, if_pos (by omega)]; rfl
    · rw [if_neg e, ← List.getD_eq_getElem?_getD]
      exact hs2 k hk (by have : k ≠ i := fun h => e (by subst h; rfl); omega)
/-- Three ascending elements have a place. -/
theorem place_of {n a b c : Nat} (h0 : 3 ≤ n) (h1 : n ≤ 7) (hab : a < b) (hbc : b < c) (hc : c < n) : ∃ p, ∃ hp : p < (tripN n).length, (tripN n)[p] = ⟨(a : Int), (b : Int), (c : Int)⟩ ∧ lookT (tripN n) 0 (ix3 a b c) = some (false, p) ∧ lookT (tripN n) 0 (ix3 b a c) = some (true, p) ∧ lookT (tripN n) 0 (ix3 c b a) = some (true, p) ∧ lookT (tripN n) 0 (ix3 a c b) = some (true, p) ∧ lookT (tripN n) 0 (ix3 c a b) = some (false, p) ∧ lookT (tripN n) 0 (ix3 b c a) = some (false, p) := by
  have hm := trips_mem hab hbc hc
  obtain ⟨p, hp, e⟩ := List.getElem_of_mem hm
  have eN := tripN_L h0 h1
  have hp' : p < (tripN n).length := by rw [eN, List.length_map]; exact hp
  have e2 : (tripN n)[p] = ⟨(a : Int), (b : Int), (c : Int)⟩ := by
    simp only [eN, List.getElem_map, e]
  obtain ⟨a', b', c', e3, _, _, _, hlk⟩ := trip_at h0 h1 hp'
  rw [e2] at e3
  injection e3 with i1 i2 i3
  obtain rfl := Int.ofNat_inj.1 i1
  obtain rfl := Int.ofNat_inj.1 i2
  obtain rfl := Int.ofNat_inj.1 i3
  obtain ⟨neg, q, f0, _, f1, f2, f3, f4, f5, _⟩ := look_of (a := a) (b := b) (c := c) h0 h1 (by omega) (by omega) hc (by omega) (by omega) (by omega)
  rw [hlk] at f0
  cases f0
  exact ⟨p, hp', e2, hlk, f1, f2, f3, f4, f5⟩
/-- A function of three elements that changes sign under exchanges, at a place's elements in any order. -/
theorem alt_look {n x y z q : Nat} {neg : Bool} {f : Nat → Nat → Nat → Int} (h0 : 3 ≤ n) (h1 : n ≤ 7) (hx : x < n) (hy : y < n) (hz : z < n) (hxy : x ≠ y) (hyz : y ≠ z) (hxz : x ≠ z)
    (s1 : ∀ a b c, a < n → b < n → c < n → f b a c = -f a b c) (s2 : ∀ a b c, a < n → b < n → c < n → f a c b = -f a b c) (hl : lookT (tripN n) 0 (ix3 x y z) = some (neg, q)) :
    ∃ a b c : Nat, ∃ hq : q < (tripN n).length, (tripN n)[q] = ⟨(a : Int), (b : Int), (c : Int)⟩ ∧ a < b ∧ b < c ∧ c < n ∧ f x y z = sgv neg (f a b c) := by
  have key : ∀ a b c : Nat, a < b → b < c → c < n → ∀ g : Bool, (∀ p, (∃ hp : p < (tripN n).length, (tripN n)[p] = ⟨(a : Int), (b : Int), (c : Int)⟩ ∧ lookT (tripN n) 0 (ix3 a b c) = some (false, p) ∧ lookT (tripN n) 0 (ix3 b a c) = some (true, p) ∧ lookT (tripN n) 0 (ix3 c b a) = some (true, p) ∧ lookT (tripN n) 0 (ix3 a c b) = some (true, p) ∧ lookT (tripN n) 0 (ix3 c a b) = some (false, p) ∧ lookT (tripN n) 0 (ix3 b c a) = some (false, p)) → lookT (tripN n) 0 (ix3 x y z) = some (g, p)) → f x y z = sgv g (f a b c) →
      ∃ a b c : Nat, ∃ hq : q < (tripN n).length, (tripN n)[q] = ⟨(a : Int), (b : Int), (c : Int)⟩ ∧ a < b ∧ b < c ∧ c < n ∧ f x y z = sgv neg (f a b c) := by
    intro a b c hab hbc hc g hg hf
    obtain ⟨p, hp⟩ := place_of h0 h1 hab hbc hc
    have := hg p hp
    rw [hl] at this
    cases this
    exact ⟨a, b, c, hp.1, hp.2.1, hab, hbc, hc, hf⟩
  rcases Nat.lt_or_gt_of_ne hxy with a1 | a1 <;> rcases Nat.lt_or_gt_of_ne hyz with a2 | a2 <;> rcases Nat.lt_or_gt_of_ne hxz with a3 | a3
  · exact key x y z a1 a2 hz false (fun p h => h.2.2.1) rfl
  · omega
  · refine key x z y a3 a2 hy true (fun p h => h.2.2.2.2.2.1) ?_
    show f x y z = -(f x z y)
    rw [s2 x y z hx hy hz]; omega
  · refine key z x y a3 a1 hy false (fun p h => h.2.2.2.2.2.2.2) ?_
    show f x y z = f z x y
    rw [s1 x z y hx hz hy, s2 x y z hx hy hz]; omega
  · refine key y x z a1 a3 hz true (fun p h => h.2.2.2.1) ?_
    show f x y z = -(f y x z)
    rw [s1 x y z hx hy hz]; omega
  · refine key y z x a2 a3 hx false (fun p h => h.2.2.2.2.2.2.1) ?_
    show f x y z = f y z x
    rw [s2 y x z hy hx hz, s1 x y z hx hy hz]; omega
  · omega
  · refine key z y x a2 a1 hx true (fun p h => h.2.2.2.2.1) ?_
    show f x y z = -(f z y x)
    rw [s1 y z x hy hz hx, s2 y x z hy hx hz, s1 x y z hx hy hz]; omega
/-- The text of a table, by its threes. -/
theorem txtS_trips {n : Nat} {s : Nat → Int} (g : Nat × Nat × Nat → UInt8) (h0 : 3 ≤ n) (h1 : n ≤ 7) (h : ∀ (p : Nat) (hp : p < (tripN n).length) (a b c : Nat), (tripN n)[p] = ⟨(a : Int), (b : Int), (c : Int)⟩ → sgC (s p) = g (a, b, c)) : mkB ((tripsL n).map g) = txtS n s := by
  unfold txtS
  congr 1
  have e := tripN_L h0 h1
  have el : (tripsL n).length = (tripN n).length := by rw [e, List.length_map]
  refine List.ext_getElem (by rw [List.length_map, List.length_map, List.length_range, el]) fun p hp1 hp2 => ?_
  rw [List.length_map, List.length_range] at hp2
  simp only [List.getElem_map, List.getElem_range]
  have hp : p < (tripsL n).length := by omega
  have e1 : (tripN n)[p] = ⟨((tripsL n)[p].1 : Int), ((tripsL n)[p].2.1 : Int), ((tripsL n)[p].2.2 : Int)⟩ := by
    simp only [e, List.getElem_map]
  exact (h p hp2 _ _ _ e1).symm
theorem pk0_trips (n : Nat) (t : ByteArray) (l : List Nat) : pk0 n t l 0 l.length = (tripsL l.length).map fun q => byt n t l q.1 q.2.1 q.2.2 := by
  simp only [pk0, pk1, pk2, tripsL, upFrom, List.map_flatMap, List.map_map]
  rfl
/-- The sign of three renamed elements. -/
def renF (n : Nat) (t : ByteArray) (L : List Nat) (x y z : Nat) : Int := chi n t (L.idxOf x) (L.idxOf y) (L.idxOf z)
def renS (n : Nat) (t : ByteArray) (L : List Nat) : Nat → Int := fun q => renF n t L (tripAt n q).f0.toNat (tripAt n q).f1.toNat (tripAt n q).f2.toNat
section
variable {n : Nat} {t : ByteArray} (h : areOk n t = true) {L : List Nat} (hm : ∀ x ∈ L, x < n) (hd : L.Nodup) (hl : L.length = n)
include h hm hd hl
theorem ren_swap : (∀ a b c, a < n → b < n → c < n → renF n t L b a c = -renF n t L a b c) ∧ (∀ a b c, a < n → b < n → c < n → renF n t L a c b = -renF n t L a b c) := by
  obtain ⟨⟨h0, h1⟩, _, _⟩ := (areOk_iff _ _).1 h
  have hi : ∀ x, x < n → L.idxOf x < 7 := fun x hx => by
    have := List.idxOf_lt_length_iff.2 (nodup_all hd hm hl hx)
    omega
  exact ⟨fun a b c ha hb hc => chi_swap1 t (by omega) (by omega) (hi a ha) (hi b hb) (hi c hc), fun a b c ha hb hc => chi_swap2 t (by omega) (by omega) (hi a ha) (hi b hb) (hi c hc)⟩
theorem rename_ev : Ev (fun k => impl_chi_rename.f k (tblL n t) (up L)) ((n : Int), txtS n (renS n t L)) := by
  obtain ⟨⟨h0, h1⟩, _, _⟩ := (areOk_iff _ _).1 h
  have h0 : 3 ≤ n := by omega
  have h1 : n ≤ 7 := by omega
  have hlen := trip_len h0 h1
  obtain ⟨w1, w2⟩ := ren_swap h hm hd hl
  have hg : ∀ {i : Nat} (hi : i < n), L.getD i 0 = L[i] := fun {i} hi => by rw [List.getD_eq_getElem?_getD, List.getElem?_eq_getElem (by omega)]; rfl
  have hlt : ∀ {i : Nat} (hi : i < n), L.getD i 0 < n := fun {i} hi => by rw [hg hi]; exact hm _ (List.getElem_mem _)
  have hne : ∀ {i j : Nat} (hi : i < n) (hj : j < n), i ≠ j → L.getD i 0 ≠ L.getD j 0 := fun {i j} hi hj hij e => by
    rw [hg hi, hg hj] at e
    rcases Nat.lt_or_gt_of_ne hij with g | g
    · exact List.pairwise_iff_getElem.1 hd i j (by omega) (by omega) g e
    · exact List.pairwise_iff_getElem.1 hd j i (by omega) (by omega) g e.symm
  have hidx : ∀ {i : Nat} (hi : i < n), L.idxOf (L.getD i 0) = i := fun {i} hi => by
    rw [hg hi]
    have hlt : L.idxOf L[i] < L.length := List.idxOf_lt_length_iff.2 (List.getElem_mem _)
    have h2 : L[L.idxOf L[i]] = L[i] := List.getElem_idxOf hlt
    refine Classical.byContradiction fun hne => ?_
    rcases Nat.lt_or_gt_of_ne hne with g | g
    · exact List.pairwise_iff_getElem.1 hd _ i hlt (by omega) g h2
    · exact List.pairwise_iff_getElem.1 hd i _ (by omega) hlt g h2.symm
  unfold impl_chi_rename.f
  rw [tbl_n]
  refine Ev.bind (triples_ev h0 h1) ?_
  rw [tblS_zero]
  have key := loop_up' (σ := Nat → Int) (ρ := Int × ByteArray) (lo := 0) (n := (tripN n).length) (K := fun _ _ => some ((n : Int), txtS n (renS n t L))) (L := fun i s k => impl_chi_rename.l0 k (tblL n t) (up L) (tblS n s) (tripN n) ((tripN n).length : Int) i)
    (fun i s => ∀ (p : Nat) (hp : p < (tripN n).length), p < i → ∀ neg q, lookT (tripN n) 0 (ix3 (L.getD (tripAt n p).f0.toNat 0) (L.getD (tripAt n p).f1.toNat 0) (L.getD (tripAt n p).f2.toNat 0)) = some (neg, q) → s q = renS n t L q)
    (fun s p => match lookT (tripN n) 0 (ix3 (L.getD (tripAt n p).f0.toNat 0) (L.getD (tripAt n p).f1.toNat 0) (L.getD (tripAt n p).f2.toNat 0)) with | some z => .ok (upd s z.2 (renS n t L z.2)) | none => .ok s)
    (fun s hs => ?_) (fun p _ hp s hs => ?_) (fun p _ hp s hs s' e => ?_) (by omega) (fun _ => 0) (fun p hp hp' => absurd hp' (by omega))
  · have hok : ∀ (l : List Nat) (s : Nat → Int), ∃ s', l.foldlM (fun s p => match lookT (tripN n) 0 (ix3 (L.getD (tripAt n p).f0.toNat 0) (L.getD (tripAt n p).f1.toNat 0) (L.getD (tripAt n p).f2.toNat 0)) with | some z => (.ok (upd s z.2 (renS n t L z.2)) : Except (Int × ByteArray) (Nat → Int)) | none => .ok s) s = .ok s' := by
      intro l
      induction l with
      | nil => intro s; exact ⟨s, rfl⟩
      | cons x l ih =>
        intro s
        rw [List.foldlM_cons]
        split
        · exact ih _
        · exact ih _
    obtain ⟨s', hs'⟩ := hok (List.range' 0 ((tripN n).length - 0)) (fun _ => 0)
    rw [hs'] at key
    exact key _ (Ev.now _)
  · refine Goes.step ?_
    simp only [impl_chi_rename.l0]
    refine Goes.neg (by omega) (Goes.pos (tblS_length _ _) (Goes.ev (signs_ev s h0 h1) ?_))
    have e : txtS n s = txtS n (renS n t L) := txtS_congr fun q hq => by
      obtain ⟨a, b, c, e1, hab, hbc, hc, hlk⟩ := trip_at h0 h1 hq
      have ha' : L.idxOf a < n := by have := List.idxOf_lt_length_iff.2 (nodup_all hd hm hl (x := a) (by omega)); omega
      have hb' : L.idxOf b < n := by have := List.idxOf_lt_length_iff.2 (nodup_all hd hm hl (x := b) (by omega)); omega
      have hc' : L.idxOf c < n := by have := List.idxOf_lt_length_iff.2 (nodup_all hd hm hl (x := c) (by omega)); omega
      have back : ∀ {x : Nat}, x < n → L.getD (L.idxOf x) 0 = x := fun {x} hx => by
        have h3 := List.idxOf_lt_length_iff.2 (nodup_all hd hm hl hx)
        rw [List.getD_eq_getElem?_getD, List.getElem?_eq_getElem h3]
        exact List.getElem_idxOf h3
      have inj : ∀ {x y : Nat}, x < n → y < n → x ≠ y → L.idxOf x ≠ L.idxOf y := fun {x y} hx hy hxy e => hxy (by rw [← back hx, ← back hy, e])
      obtain ⟨p', hp', q0, q1, q2, q3, q4, q5, q6⟩ := place_of h0 h1 hab hbc hc
      have hqp : p' = q := by rw [hlk] at q1; cases q1; rfl
      subst hqp
      have fin : ∀ i j k : Nat, i < j → j < k → k < n → (∃ g, lookT (tripN n) 0 (ix3 (L.getD i 0) (L.getD j 0) (L.getD k 0)) = some (g, p')) → s p' = renS n t L p' := by
        intro i j k hij hjk hk ⟨g, hg'⟩
        obtain ⟨p, hp, e5, _⟩ := place_of h0 h1 hij hjk hk
        refine hs p hp hp g p' ?_
        rw [tripAt_eq hp, e5]
        exact hg'
      have n1 := inj (x := a) (y := b) (by omega) (by omega) (by omega)
      have n2 := inj (x := b) (y := c) (by omega) (by omega) (by omega)
      have n3 := inj (x := a) (y := c) (by omega) (by omega) (by omega)
      have ba := back (x := a) (by omega)
      have bb := back (x := b) (by omega)
      have bc := back (x := c) (by omega)
      rcases Nat.lt_or_gt_of_ne n1 with g1 | g1 <;> rcases Nat.lt_or_gt_of_ne n2 with g2 | g2 <;> rcases Nat.lt_or_gt_of_ne n3 with g3 | g3
      · exact fin _ _ _ g1 g2 hc' ⟨_, by rw [ba, bb, bc]; exact q1⟩
      · omega
      · exact fin _ _ _ g3 g2 hb' ⟨_, by rw [ba, bb, bc]; exact q4⟩
      · exact fin _ _ _ g3 g1 hb' ⟨_, by rw [ba, bb, bc]; exact q5⟩
      · exact fin _ _ _ g1 g3 hc' ⟨_, by rw [ba, bb, bc]; exact q2⟩
      · exact fin _ _ _ g2 g3 ha' ⟨_, by rw [ba, bb, bc]; exact q6⟩
      · omega
      · exact fin _ _ _ g2 g1 ha' ⟨_, by rw [ba, bb, bc]; exact q3⟩
    rw [e]
    exact Goes.ok (K := fun _ _ => some ((n : Int), txtS n (renS n t L))) s
  · obtain ⟨a, b, c, e1, hab, hbc, hc, hlk⟩ := trip_at h0 h1 hp
    have ha0 : a < n := by omega
    have hb0 : b < n := by omega
    simp only [tripAt_eq hp, e1, Int.toNat_natCast]
    obtain ⟨neg, q, f0, hq, _⟩ := look_of h0 h1 (hlt ha0) (hlt hb0) (hlt hc) (hne ha0 hb0 (by omega)) (hne hb0 hc (by omega)) (hne ha0 hc (by omega))
    rw [f0]
    obtain ⟨a', b', c', hq', e2, _, _, _, e3⟩ := alt_look (f := renF n t L) h0 h1 (hlt ha0) (hlt hb0) (hlt hc) (hne ha0 hb0 (by omega)) (hne hb0 hc (by omega)) (hne ha0 hc (by omega)) w1 w2 f0
    have e4 : renS n t L q = sgv neg (sgB t p) := by
      have e5 : renF n t L (L.getD a 0) (L.getD b 0) (L.getD c 0) = sgB t p := by
        unfold renF
        rw [hidx ha0, hidx hb0, hidx hc, chi_chiS, chiS_at _ hlk]
        rfl
      rw [e5] at e3
      unfold renS
      rw [tripAt_eq hq', e2]
      simp only [Int.toNat_natCast]
      rw [e3]
      cases neg <;> simp [sgv]
    refine Goes.step ?_
    simp only [impl_chi_rename.l0, rd_trip hp, e1, up_length]
    rw [rd_up (i := a) (by omega), rd_up (i := b) (by omega), rd_up (i := c) (by omega), tblL_S, tblS_rd n (sgB t) (by omega) (by omega) (by omega), chiS_at _ hlk]
    have hset : impl_chi_set.f (tblS n s) ((L.getD a 0 : Nat) : Int) ((L.getD b 0 : Nat) : Int) ((L.getD c 0 : Nat) : Int) (sgv false (sgB t p)) = some (tblS n (upd s q (renS n t L q))) := by
      have ba := hlt ha0
      have bb := hlt hb0
      have bc := hlt hc
      show impl_chi_set.f (tblS n s) ((L.getD a 0 : Nat) : Int) ((L.getD b 0 : Nat) : Int) ((L.getD c 0 : Nat) : Int) (sgB t p) = _
      rw [set_some _ _ _ _ _ (tblS_length _ _) (by omega) (by omega) (by omega) (sgB_cases t p)]
      simp only [Int.toNat_natCast]
      rw [set_tblS s _ h0 h1 (hlt ha0) (hlt hb0) (hlt hc) (hne ha0 hb0 (by omega)) (hne hb0 hc (by omega)) (hne ha0 hc (by omega)) f0, e4]
    refine Goes.pos (by omega) (Goes.pos (by omega) (Goes.pos (by omega) (Goes.pos (by omega) (Goes.pos (by omega) (Goes.pos (by omega) (Goes.pos (by omega) (Goes.pos (by omega) (Goes.pos (by omega) (Goes.pos (by omega) (Goes.pos (by omega) (Goes.pos (by omega) (Goes.pos (tblS_length _ _) (Goes.call hset ?_)))))))))))))
    rw [wrap_id (by omega) (by omega)]
    exact Goes.ok (K := fun s k => impl_chi_rename.l0 k (tblS n (sgB t)) (up L) (tblS n s) (tripN n) ((tripN n).length : Int) ((p + 1 : Nat) : Int)) _
  · intro p2 hp2 hlt2 neg q hq
    have hcase : p2 < p ∨ p2 = p := by omega
    split at e
    · rename_i z hz
      cases e
      by_cases hqz : q = z.2
      · subst hqz; exact upd_self _ _ _
      · rw [upd_ne _ _ hqz]
        rcases hcase with g | g
        · exact hs p2 hp2 g neg q hq
        · subst g
          rw [hq] at hz
          cases hz
          exact absurd rfl hqz
    · rename_i hz
      cases e
      rcases hcase with g | g
      · exact hs p2 hp2 g neg q hq
      · subst g
        rw [hq] at hz
        cases hz
end
theorem ren_same {n : Nat} {t : ByteArray} (h : areOk n t = true) {L : List Nat} (hl : L.length = n) : mkB (pk0 n t (invL L) 0 (invL L).length) = txtS n (renS n t L) := by
  obtain ⟨⟨h0, h1⟩, _, _⟩ := (areOk_iff _ _).1 h
  rw [pk0_trips, invL_length, hl]
  refine txtS_trips _ (by omega) (by omega) fun p hp a b c e => ?_
  obtain ⟨a', b', c', e', hab, hbc, hc, _⟩ := trip_at (by omega) (by omega) hp
  rw [e] at e'
  injection e' with i1 i2 i3
  obtain rfl := Int.ofNat_inj.1 i1
  obtain rfl := Int.ofNat_inj.1 i2
  obtain rfl := Int.ofNat_inj.1 i3
  unfold renS byt
  rw [tripAt_eq hp, e]
  simp only [Int.toNat_natCast]
  rw [invL_getD (by omega), invL_getD (by omega), invL_getD (by omega)]
  rfl
theorem inv_facts {n : Nat} {L : List Nat} (hm : ∀ x ∈ L, x < n) (hd : L.Nodup) (hl : L.length = n) : (invL L).length = n ∧ (∀ x ∈ invL L, x < n) ∧ (invL L).Nodup := by
  refine ⟨by rw [invL_length, hl], fun x hx => ?_, ?_⟩
  · obtain ⟨y, hy, rfl⟩ := List.mem_map.1 hx
    have := List.idxOf_lt_length_iff.2 (nodup_all hd hm hl (x := y) (by have := List.mem_range.1 hy; omega))
    omega
  · refine List.pairwise_iff_getElem.2 fun i j hi hj hij e => ?_
    rw [invL_length] at hi hj
    simp only [invL, List.getElem_map, List.getElem_range] at e
    have h3 := List.idxOf_lt_length_iff.2 (nodup_all hd hm hl (x := i) (by omega))
    have h4 := List.idxOf_lt_length_iff.2 (nodup_all hd hm hl (x := j) (by omega))
    have e5 : L[L.idxOf i] = i := List.getElem_idxOf h3
    have e6 : L[L.idxOf j] = j := List.getElem_idxOf h4
    have : i = j := by rw [← e5, ← e6]; simp only [e]
    omega
/-- What RenameSigns answers. -/
def renA (n : Int) (t : ByteArray) (l : List Int) : Int × ByteArray × Bool := if areOk n t = true ∧ (l.length : Int) = n ∧ areD n l = true then (n, txtS n.toNat (renS n.toNat t (l.map Int.toNat)), true) else (0, ⟨#[]⟩, false)
theorem up_toNat (L : List Nat) : (up L).map Int.toNat = L := by
  unfold up
  rw [List.map_map]
  exact (List.map_congr_left fun x _ => rfl).trans (List.map_id L)
theorem impl_ren (n : Int) (t : ByteArray) (l : List Int) (hs : t.size ≤ 9223372036854775807) (hl : l.length ≤ 9223372036854775807) : Ev (fun k => impl_RenameSigns.f k n t l) (renA n t l) := by
  unfold impl_RenameSigns.f renA
  have hj : Ev (fun k => impl_RenameSigns.j0 k l true n t) (0, (⟨#[]⟩ : ByteArray), false) := by
    refine ev_step ?_
    simp only [impl_RenameSigns.j0]
    exact ev_pos (by trivial) (Ev.now _)
  refine Ev.bind (impl_are n t hs) ?_
  by_cases h : areOk n t = true
  · refine ev_pos h ?_
    by_cases h2 : (l.length : Int) = n
    · refine ev_pos h2 (Ev.bind (different_ev n l hl) ?_)
      by_cases h3 : areD n l = true
      · rw [if_pos ⟨h, h2, h3⟩, h3]
        obtain ⟨⟨h0, h1⟩, _, _⟩ := (areOk_iff _ _).1 h
        obtain ⟨N, rfl⟩ : ∃ N : Nat, n = (N : Int) := Int.eq_ofNat_of_zero_le (by omega)
        obtain ⟨L, rfl, hm, hd⟩ := areD_up h3
        rw [up_length] at h2
        rw [up_toNat, Int.toNat_natCast]
        refine ev_step ?_
        simp only [impl_RenameSigns.j0]
        exact ev_neg (by decide) (Ev.bind (tableOf_ev h) (ev_pos (tblL_length _ _) (Ev.bind (rename_ev h hm hd (by omega)) (Ev.now _))))
      · rw [if_neg (fun e => h3 e.2.2), Bool.eq_false_iff.mpr h3]
        exact hj
    · rw [if_neg (fun e => h2 e.2.1)]
      exact ev_neg h2 hj
  · rw [if_neg (fun e => h e.1)]
    exact ev_neg h hj
theorem spec_ren (n : Int) (t : ByteArray) (l : List Int) (hs : t.size ≤ 9223372036854775807) (hl : l.length ≤ 9223372036854775807) : Ev (fun k => spec_RenameSigns.f k n t l) (renA n t l) := by
  unfold spec_RenameSigns.f renA
  have hj : Ev (fun k => spec_RenameSigns.j0 k l true n t) (0, (⟨#[]⟩ : ByteArray), false) := by
    refine ev_step ?_
    simp only [spec_RenameSigns.j0]
    exact ev_pos (by trivial) (Ev.now _)
  refine Ev.bind (spec_are n t hs) ?_
  by_cases h : areOk n t = true
  · refine ev_pos h ?_
    obtain ⟨⟨h0, h1⟩, _, _⟩ := (areOk_iff _ _).1 h
    obtain ⟨N, rfl⟩ : ∃ N : Nat, n = (N : Int) := Int.eq_ofNat_of_zero_le (by omega)
    refine Ev.bind (names_ev (by omega) (by omega) l hl) ?_
    by_cases h3 : (l.length : Int) = N ∧ areD N l = true
    · rw [if_pos ⟨h, h3⟩, h3.2, decide_eq_true h3.1]
      obtain ⟨L, rfl, hm, hd⟩ := areD_up h3.2
      have h2 := h3.1
      rw [up_length] at h2
      rw [up_toNat, Int.toNat_natCast]
      refine ev_step ?_
      simp only [spec_RenameSigns.j0]
      obtain ⟨f1, f2, f3⟩ := inv_facts hm hd (by omega)
      refine ev_neg (by decide) (Ev.bind (turned_ev (by omega) hd hm (by omega)) (Ev.bind (pick_ev h (by omega) f2 f3) (ev_cast (Ev.now _) ?_)))
      rw [ren_same h (by omega), f1]
    · rw [if_neg (fun e => h3 e.2)]
      have : (areD N l && decide ((l.length : Int) = N)) = false := by
        rw [Bool.eq_false_iff]
        simp only [ne_eq, Bool.and_eq_true, decide_eq_true_eq]
        exact fun e => h3 ⟨e.2, e.1⟩
      rw [this]
      exact hj
  · rw [if_neg (fun e => h e.1)]
    exact ev_neg h hj
end Go.Proofs.Ytggbekkinkggfaa.M
namespace Go.Proofs.Ytggbekkinkggfaa.Pure
open Go.RowKit Go.Proofs.YtggbekkinkggfaaW.PrintWords Go.Proofs.Ytggbekkinkggfaa.PX Go.Proofs.Ytggbekkinkggfaa.M
theorem FnExactRenameSigns (n : Int) (t : ByteArray) (l : List Int) (_ : (Lit.int .i64 n).wf = true) (hs : t.size ≤ 9223372036854775807) :
    ∃ k, laws_FnExactRenameSigns.f k n t l = some true := by
  refine Ev.rounds (r := true) ?_
  unfold laws_FnExactRenameSigns.f
  by_cases h : (l.length : Int) > 1048576
  · exact ev_pos h (Ev.now _)
  refine ev_neg h ?_
  obtain ⟨r, hr⟩ := sz_signs n t
  refine ev_call hr ?_
  by_cases h : r < 0
  · exact ev_pos h (Ev.now _)
  refine ev_neg h (ev_call (a := (n, t)) rfl (Ev.bind (toIntS_ev l (by omega)) (Ev.bind (spec_ren n t l hs (by omega)) (Ev.bind (toIntS_ev l (by omega)) (ev_call (a := (n, t)) rfl (Ev.bind (impl_ren n t l hs (by omega)) (ev_call (eqSigns_self _ _) (ev_pos rfl ?_))))))))
  refine ev_step ?_
  simp only [laws_FnExactRenameSigns.j0]
  exact ev_neg (by simp) (Ev.bind (toIntS_ev l (by omega)) (Ev.bind (eqIntS_self l (by omega)) (ev_pos rfl (Ev.now _))))
end Go.Proofs.Ytggbekkinkggfaa.Pure
namespace Go.Proofs.Ytggbekkinkggfaa.fnExactRenameSigns
open Go.ChangeShapes Go.WideShapes Go.ChangeAt Go.RowKit Go.Joins
open Go.ChangeMaps (open_string shut_string)
set_option linter.unusedVariables false
theorem own : ownKnob Try.prog.godebug = none := by kernel_rfl
theorem str_mk {H : Type} {enc : TypeId × Value → H} {P : Program} {w : World} {base : Nat} {spare : Nat → Bool} {held : Bool} {t : TypeId} {s : ByteArray} (ht : P.underlying t = some .string) (hs : s.size ≤ maxLen) : DataW.trod enc P w base spare held 1 t [.string s] = some (.lit (.string s.data.toList), []) := by
  simp [DataW.trod, ht, hs]
theorem laidOut : laidOutB Try.prog = true := by kernel_rfl
def IsRow (k : IntKind) (w : World) (a : Option Addr) (len cap : Nat) (zs : List Int) : Prop :=
  (a = none ∧ len = 0 ∧ cap = 0 ∧ zs = []) ∨
  ∃ x, a = some x ∧ len ≤ cap ∧ cap ≤ maxLen ∧ zs.length = cap ∧ (∀ i, i < zs.length → w.cell? (x.add i) = some (.int k (zs.getD i 0))) ∧ ∀ n ∈ zs, (Lit.int k n).wf = true
set_option maxRecDepth 100000 in
theorem lifted (os : Os) (started : os.Started) (H : Type) (enc : TypeId × Value → H) :
    ReturnsInHanded {} Try.checked os 11 .any (Rows.fnExactRenameSignsSpec.pre6 enc Try.prog Try.f11 Rows.fnExactRenameSignsRow.domain false) (Rows.fnExactRenameSignsSpec.post enc Try.prog Try.f11 false true false false) := by
  refine returnsInHanded_of_change_sized (C := Try.checked) own started (by kernel_rfl) Try.func11
    (ChangeSpec.witness6 (enc := enc) (C := Try.checked) false ⟨#[], #[.agg #[.int .i64 0, .string ByteArray.empty], .slice none 0 0], []⟩ 8 (by kernel_rfl) (by kernel_rfl) (by kernel_rfl) (by kernel_rfl)) ?_
  intro W base args ds gs before hval0 hW hcnd hsz0 _
  have hsz : (DataW.weightsEach Try.prog (Try.f11.params.toList ++ Rows.fnExactRenameSignsSpec.plain.varTypes Try.prog) (ds ++ gs)).all (· ≤ reachBytes) = true := hsz0
  have hval : ∀ (j : Nat) t v, Try.f11.params[j]? = some t → args[j]? = some v → Value.okWide Try.prog W .any base t v := hval0
  have hW' := hW
  obtain ⟨p, q, hA0, hV, rfl, hfz, hnd⟩ := hW
  have hA : DataW.TrodAll enc Try.prog W 0 (fun _ => true) true Try.f11.params.toList args.toList ds p := hA0
  rw [Try.params11] at hA hval hsz
  obtain ⟨v0, vs0, d0, ds0, p0, q0, hargs, rfl, rfl, h0, r0⟩ := trodAll_cons hA
  obtain ⟨v1, vs1, d1, ds1, p1, q1, rfl, rfl, rfl, h1, r1⟩ := trodAll_cons r0
  obtain ⟨rfl, rfl, rfl⟩ := trodAll_nil r1
  obtain rfl : args = #[v0, v1] := by cases args; simp_all
  obtain ⟨rfl, rfl⟩ := trodVars_none hV
  obtain ⟨c0_0, c0_1, y0_0, y0_1, m0, rfl, rfl, rfl, hy0_0, hy0_1⟩ := open_agg2 Try.underlying23 (by kernel_rfl) (by kernel_rfl) (hval 0 23 v0 rfl rfl) h0
  obtain ⟨a0_0, e0_0, rfl, wa0⟩ := DataW.trod_int Try.underlying3 hy0_0
  obtain ⟨a0_1, e0_1, rfl, ws0⟩ := DataW.trod_string Try.underlying9 hy0_1
  simp only [List.cons.injEq, and_true] at e0_0 e0_1
  subst e0_0 e0_1
  obtain ⟨a1, len1, cap1, rfl⟩ := okWide_slice Try.underlying38 (hval 1 38 v1 rfl rfl)
  have k1 := h1
  have lt1 : ∀ x ∈ p1, x.block < W.heap.size := by obtain ⟨m, hm⟩ := k1; exact DataW.trod_lt m _ _ _ hm
  obtain ⟨z1, w1⟩ : ∃ zs, IsRow .i64 W a1 len1 cap1 zs := by
    obtain ⟨fuel, hf⟩ := h1
    rcases open_ints Try.underlying38 Try.underlying3 (by kernel_rfl) hf with ⟨hcs, _⟩ | ⟨x, l, c, zs, hcs, _, hl, hm, hz, _, hcell, hwz⟩
    · simp [Value.cells] at hcs
      obtain ⟨rfl, rfl, rfl⟩ := hcs
      exact ⟨[], .inl ⟨rfl, rfl, rfl, rfl⟩⟩
    · simp [Value.cells] at hcs
      obtain ⟨rfl, rfl, rfl⟩ := hcs
      exact ⟨zs, .inr ⟨_, rfl, hl, hm, by simpa using hz, hcell, hwz⟩⟩
  obtain ⟨l1, rfl, hr1, hm1, hw1, hc1⟩ := Go.Proofs.YtggbekkinkggfaaW.PrintWords.ReadsInt.ofRowC w1
  clear hA0 hval0 hsz0 hsz
  obtain ⟨k, hP⟩ := Pure.FnExactRenameSigns a0_0 a0_1 l1 wa0 ws0
  refine (PX.laws_FnExactRenameSigns.calls k a0_0 a0_1 _ _ l1 true W (Go.Proofs.YtggbekkinkggfaaW.PrintWords.Kd.C_of_reads (d := (0 : Int)) (h1 := fun _ => rfl) hr1) hc1 hP rfl).mono fun e W' ⟨he, bel⟩ => ?_
  subst he
  exact ⟨_, rfl, _, _, _, [], _, [], hW', trodAll_mk1 (shut_bool Try.underlying4 _), (trodAll_cons_mk (shut_agg2 Try.underlying23 (by kernel_rfl) (by kernel_rfl) ⟨_, trod_int_mk 0 Try.underlying3 wa0⟩ ⟨_, str_mk Try.underlying9 ws0⟩) (trodAll_cons_mk (Below.trod laidOut (by kernel_rfl) (of_decide_eq_true (by kernel_rfl)) k1 bel lt1) trodAll_mk0)), rfl, bel.frame _, fun h => by cases h⟩
theorem over : Rows.fnExactRenameSignsRow.holds Try.pinned (OpenSpec.ofChange Rows.fnExactRenameSignsSpec) :=
  OpenClaim.holds_of_wide 11 Try.f11 rfl rfl rfl rfl rfl rfl rfl ⟨rfl, rfl, rfl, rfl, rfl⟩ rfl rfl rfl rfl rfl (by kernel_rfl) Try.func11 (by kernel_rfl)
    (of_decide_eq_true (by kernel_rfl)) (by unfold Func.isWrapper; first | (rw [if_pos (by decide +kernel)]; kernel_rfl) | (rw [if_neg (by decide +kernel)]; exact ⟨rfl, rfl⟩))
    (fun os started H enc _ => lifted os started H enc)
theorem proved : Rows.FnExactRenameSignsSaid := over
#print axioms proved
end Go.Proofs.Ytggbekkinkggfaa.fnExactRenameSigns
namespace Go.Proofs.Ytggbekkinkggfaa
/-- The row, under a short name, for the claim. -/
theorem fnExactRenameSigns_holds : Rows.FnExactRenameSignsSaid := fnExactRenameSigns.proved
end Go.Proofs.Ytggbekkinkggfaa
