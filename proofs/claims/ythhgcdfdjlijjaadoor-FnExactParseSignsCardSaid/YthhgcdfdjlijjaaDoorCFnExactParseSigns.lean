/- FnExactParseSigns returns true for all arguments and leaves them as they were. No condition. -/
import Derived.Test.YthhgcdfdjlijjaaDoorProg
import Derived.Test.YthhgcdfdjlijjaaDoorRows
import Derived.Test.YthhgcdfdjlijjaaDoorTie
import Derived.Test.YthhgcdfdjlijjaaDoorCards
import Derived.SevenTiedAt
import Derived.WalkKit
import Derived.ProofKit
import Derived.OpenShut
import Derived.ShutString
import Derived.ChangeOld
import Derived.Below
import Derived.SizedLaws
import Derived.Lib.SmallJoins
import Derived.ChangeSame
import Derived.Test.YthhgcdfdjlijjaaDoorV1
import Derived.Test.YthhgcdfdjlijjaaDoorBexgqmu1
import Derived.Test.YthhgcdfdjlijjaaDoorBkvibfp1
import Derived.Test.YthhgcdfdjlijjaaDoorBpznkkj1
set_option linter.unusedVariables false
set_option linter.unusedSimpArgs false
namespace Go.Proofs.YthhgcdfdjlijjaaDoor.PX
open Go.RowKit Go.Proofs.YthhgcdfdjlijjaaDoor.G Go.Proofs.YthhgcdfdjlijjaaDoorW.PrintWords Go.Proofs.YthhgcdfdjlijjaaDoorW.PrintLast Go.Proofs.YthhgcdfdjlijjaaDoorW.PrintMore
attribute [local go_sem] max2_int min2_int max_two min_two max_three min_three max_four min_four   -- for this text's walks alone
set_option linter.unusedVariables false
set_option linter.unusedSimpArgs false
/-! ### spec_AreSigns: function 37 -/
mutual
def spec_AreSigns.j0 : Nat → Bool → Int → ByteArray → Option (Bool)
 | 0, _, _, _ => none
 | k + 1, x24, x130000, x130001 => if x24 = true then (some false) else (spec_AreSigns.l0 k 0 x130000 x130001)
def spec_AreSigns.l0 : Nat → Int → Int → ByteArray → Option (Bool)
 | 0, _, _, _ => none
 | k + 1, x3, x130000, x130001 => if x3 < (x130001.size : Int) then (if 0 ≤ x3 then (if (bt x130001 x3) = 43 then (spec_AreSigns.l0 k (wrap64 (x3 + 1)) x130000 x130001) else (if (bt x130001 x3) = 45 then (spec_AreSigns.l0 k (wrap64 (x3 + 1)) x130000 x130001) else (some false))) else (none)) else (some true)
end
def spec_AreSigns.f (k : Nat) (a0_0 : Int) (a0_1 : ByteArray) : Option (Bool) := (spec_l1In.f a0_0 3 7).bind fun t130 => (if t130 = true then (spec_AreSigns.j0 k ((a0_1.size : Int) != (wrap64 (Int.tdiv (wrap64 ((wrap64 (a0_0 * (wrap64 (a0_0 - 1)))) * (wrap64 (a0_0 - 2)))) 6))) a0_0 a0_1) else (spec_AreSigns.j0 k true a0_0 a0_1))
set_option maxHeartbeats 8000000 in
set_option maxRecDepth 100000 in
theorem spec_AreSigns.calls (k : Nat) (a0_0 : Int) (a0_1 : ByteArray) (r : Bool) (w : World) (h : spec_AreSigns.f k a0_0 a0_1 = some r) :
  Calls Tryd.prog 37 #[.agg #[.int .i64 a0_0, .string a0_1]] w fun e w' => e = .returned (.bool r) ∧ Below w.heap.size w w' := by
 have hu28 := Tryd.underlying28
 have HB := Aside0.mk (Below.refl w.heap.size w)
 have H : ((spec_l1In.f a0_0 3 7).bind fun t130 => (if t130 = true then (spec_AreSigns.j0 k ((a0_1.size : Int) != (wrap64 (Int.tdiv (wrap64 ((wrap64 (a0_0 * (wrap64 (a0_0 - 1)))) * (wrap64 (a0_0 - 2)))) 6))) a0_0 a0_1) else (spec_AreSigns.j0 k true a0_0 a0_1))) = some r := h
 clear h
 have HC2 := Aside0.mk H
 clear H
 go_enter Tryd.func37, Tryd.ntmps37
 go_upto_region 1 with (first | ((with_reducible refine gate_dst (N := 1) rfl ?_); (try (refine gate_guard (by rfl) ?_; dsimp only)); refine zBx (N := 1) #[.int .i64 a0_0, .string a0_1] 28 ?_; intro gb129 hg w3 hbox hb; have BK129 := Aside0.mk (hbox); have GW129 := zS hg; have GE129 := zS hg; replace HB := zX hb; clear hb hbox hg))
 (try simp only [Act.put, List.setIfInBounds_toArray, List.set_cons_zero, List.set_cons_succ])
 go_cut [24] (fun v24 wc => ∃ (kq : Nat) (x24_1 : Bool), v24 = .bool x24_1 ∧ Aside0 (spec_AreSigns.j0 kq x24_1 a0_0 a0_1 = some r) ∧ Aside0 (kq ≤ k) ∧ Aside0 (wc.heap[gb129]? = some (.cells #[.int .i64 a0_0, .string a0_1] 28 (0, 0))) ∧ Aside0 (Below w.heap.size w wc))
 case first =>
  have H := HC2.out
  clear HC2
  obtain ⟨t130, A4, H⟩ := zO H
  by_cases c5 : t130 = true
  ·subst c5
   replace H := (if_pos rfl).symm.trans H
   have H' := Aside0.mk H; clear H
   obtain ⟨hcz6_0, hcz6_1, hfz6_0, hfz6_1⟩ := zq2 BK129.out
   go_wp2_with (first | ((with_reducible refine gate_callee (f := 55) rfl ?_); refine zD (some 6) Tryd.func55 #[.int .i64 a0_0, .int .i64 3, .int .i64 7] ?_; (with_reducible refine (spec_l1In.calls a0_0 3 7 true _ A4.out).mono ?_); rintro e w' ⟨rfl, ⟨nd, rfl⟩⟩; refine ⟨_, rfl, ?_⟩))
   go_meet
   case rel => exact ⟨_, (((a0_1.size : Int) != (wrap64 (Int.tdiv (wrap64 ((wrap64 (a0_0 * (wrap64 (a0_0 - 1)))) * (wrap64 (a0_0 - 2)))) 6)))), zF, H', ⟨by first | omega | exact Nat.le_refl _⟩, ⟨zK BK129.out⟩, ⟨zG GE129.out⟩⟩
  replace c5 := Bool.eq_false_iff.mpr c5
  subst c5
  replace H := (if_neg zFf).symm.trans H
  have H' := Aside0.mk H; clear H
  obtain ⟨hcz7_0, hcz7_1, hfz7_0, hfz7_1⟩ := zq2 BK129.out
  go_wp2_with (first | ((with_reducible refine gate_callee (f := 55) rfl ?_); refine zD (some 6) Tryd.func55 #[.int .i64 a0_0, .int .i64 3, .int .i64 7] ?_; (with_reducible refine (spec_l1In.calls a0_0 3 7 false _ A4.out).mono ?_); rintro e w' ⟨rfl, ⟨nd, rfl⟩⟩; refine ⟨_, rfl, ?_⟩))
  go_meet
  case rel => exact ⟨_, (true), zF, H', ⟨by first | omega | exact Nat.le_refl _⟩, ⟨zK BK129.out⟩, ⟨zG GE129.out⟩⟩
 case rest =>
 clear HC2
 obtain ⟨kq, x24_1, rfl, HA, HJ1, BK129, HB⟩ := hcut
 cases kq with
 | zero => exact absurd HA.out (by simp [spec_AreSigns.j0])
 | succ kj1 =>
 have H := HA.out
 clear HA
 simp only [spec_AreSigns.j0] at H
 by_cases c8 : x24_1 = true
 ·subst c8
  replace H := (if_pos rfl).symm.trans H
  obtain rfl := Option.some.inj H
  go_wp2
  go_ret
  exact ⟨zE, zG GE129.out⟩
 replace c8 := Bool.eq_false_iff.mpr c8
 subst c8
 replace H := (if_neg zFf).symm.trans H
 have H' := Aside0.mk H; clear H
 go_wp2
 go_loopg [3] kj1 (fun kq v3 w' => ∃ (x3_2 : Int), v3 = .int .i64 x3_2 ∧ Aside0 (spec_AreSigns.l0 kq x3_2 a0_0 a0_1 = some r) ∧ Aside0 (kq ≤ kj1) ∧ Aside0 (w'.heap[gb129]? = some (.cells #[.int .i64 a0_0, .string a0_1] 28 (0, 0))) ∧ Aside0 (Below w.heap.size w w'))
 case atStart => exact ⟨(0), zF, H', ⟨Nat.le_refl _⟩, ⟨zK BK129.out⟩, ⟨zG GE129.out⟩⟩
 case round =>
 clear H'
 try clear c8
 obtain ⟨x3_2, rfl, HA, HK2, BK129, HB⟩ := hrel
 cases gk with
 | zero => exact absurd HA.out (by simp [spec_AreSigns.l0])
 | succ k2 =>
 have H := HA.out
 clear HA
 simp only [spec_AreSigns.l0] at H
 by_cases c9 : x3_2 < (a0_1.size : Int)
 ·rw [if_pos c9] at H
  have c9b0 : decide (x3_2 < (a0_1.size : Int)) = true := decide_eq_true c9
  clear c9
  by_cases c10 : 0 ≤ x3_2
  ·rw [if_pos c10] at H
   have c10b0 : decide (0 ≤ x3_2) = true := decide_eq_true c10
   clear c10
   by_cases c12 : (bt a0_1 x3_2) = 43
   ·rw [if_pos c12] at H
    have c12b0 : ((bt a0_1 x3_2) == 43) = true := beq_iff_eq.mpr c12
    have c12b1 : ((bt a0_1 x3_2) != 43) = false := bne_eq_false_iff_eq.mpr c12
    clear c12
    have H' := Aside0.mk H; clear H
    obtain ⟨hcz13_0, hcz13_1, hfz13_0, hfz13_1⟩ := zq2 BK129.out
    have p11 : 0 ≤ (x3_2 : Int) := zA
    have q11 : x3_2 < (a0_1.size : Int) := zA
    have hx11 := bt_at a0_1 x3_2
    replace p11 := eq_true p11
    replace q11 := eq_true q11
    go_wp2
    go_roundg k2
    case measure => have := HJ1.out; have := HK2.out; omega
    case rel => exact ⟨(wrap64 (x3_2 + 1)), zF, H', ⟨by have := HJ1.out; have := HK2.out; omega⟩, ⟨zK BK129.out⟩, ⟨zG GE129.out⟩⟩
   rw [if_neg c12] at H
   have c12b0 : ((bt a0_1 x3_2) == 43) = false := beq_eq_false_iff_ne.mpr c12
   have c12b1 : ((bt a0_1 x3_2) != 43) = true := bne_iff_ne.mpr c12
   by_cases c15 : (bt a0_1 x3_2) = 45
   ·rw [if_pos c15] at H
    have c15b0 : ((bt a0_1 x3_2) == 45) = true := beq_iff_eq.mpr c15
    have c15b1 : ((bt a0_1 x3_2) != 45) = false := bne_eq_false_iff_eq.mpr c15
    clear c15
    have H' := Aside0.mk H; clear H
    obtain ⟨hcz16_0, hcz16_1, hfz16_0, hfz16_1⟩ := zq2 BK129.out
    have p11 : 0 ≤ (x3_2 : Int) := zA
    have q11 : x3_2 < (a0_1.size : Int) := zA
    have hx11 := bt_at a0_1 x3_2
    replace p11 := eq_true p11
    replace q11 := eq_true q11
    have p14 : 0 ≤ (x3_2 : Int) := zA
    have q14 : x3_2 < (a0_1.size : Int) := zA
    have hx14 := bt_at a0_1 x3_2
    replace p14 := eq_true p14
    replace q14 := eq_true q14
    go_wp2
    go_roundg k2
    case measure => have := HJ1.out; have := HK2.out; omega
    case rel => exact ⟨(wrap64 (x3_2 + 1)), zF, H', ⟨by have := HJ1.out; have := HK2.out; omega⟩, ⟨zK BK129.out⟩, ⟨zG GE129.out⟩⟩
   rw [if_neg c15] at H
   have c15b0 : ((bt a0_1 x3_2) == 45) = false := beq_eq_false_iff_ne.mpr c15
   have c15b1 : ((bt a0_1 x3_2) != 45) = true := bne_iff_ne.mpr c15
   obtain rfl := Option.some.inj H
   obtain ⟨hcz17_0, hcz17_1, hfz17_0, hfz17_1⟩ := zq2 BK129.out
   have p11 : 0 ≤ (x3_2 : Int) := zA
   have q11 : x3_2 < (a0_1.size : Int) := zA
   have hx11 := bt_at a0_1 x3_2
   replace p11 := eq_true p11
   replace q11 := eq_true q11
   have p14 : 0 ≤ (x3_2 : Int) := zA
   have q14 : x3_2 < (a0_1.size : Int) := zA
   have hx14 := bt_at a0_1 x3_2
   replace p14 := eq_true p14
   replace q14 := eq_true q14
   go_wp2
   go_ret
   exact ⟨zE, zG GE129.out⟩
  rw [if_neg c10] at H
  exact absurd H (by simp)
 rw [if_neg c9] at H
 have c9b0 : decide (x3_2 < (a0_1.size : Int)) = false := decide_eq_false c9
 clear c9
 obtain rfl := Option.some.inj H
 obtain ⟨hcz18_0, hcz18_1, hfz18_0, hfz18_1⟩ := zq2 BK129.out
 go_wp2
 go_ret
 exact ⟨zE, zG GE129.out⟩
/-! ### spec_SplitByte: function 51 -/
def spec_SplitByte.l0 : Nat → ByteArray → Int → List ByteArray → Int → Int → Option (List ByteArray)
 | 0, _, _, _, _, _ => none
 | k + 1, x0, x1, x5, x6, x7 => if x7 ≤ (x0.size : Int) then (if x7 = (x0.size : Int) then (if 0 ≤ x6 then (if x6 ≤ x7 then (if x5.length < 8796093022208 then (spec_SplitByte.l0 k x0 x1 (x5 ++ [x0.extract (x6 : Int).toNat (x7 : Int).toNat]) (wrap64 (x7 + 1)) (wrap64 (x7 + 1))) else (none)) else (none)) else (none)) else (if 0 ≤ x7 then (if x7 < (x0.size : Int) then (if (bt x0 x7) = x1 then (if 0 ≤ x6 then (if x6 ≤ x7 then (if x5.length < 8796093022208 then (spec_SplitByte.l0 k x0 x1 (x5 ++ [x0.extract (x6 : Int).toNat (x7 : Int).toNat]) (wrap64 (x7 + 1)) (wrap64 (x7 + 1))) else (none)) else (none)) else (none)) else (spec_SplitByte.l0 k x0 x1 x5 x6 (wrap64 (x7 + 1)))) else (none)) else (none))) else (some x5)
def spec_SplitByte.f (k : Nat) (a0 : ByteArray) (a1 : Int) : Option (List ByteArray) := spec_SplitByte.l0 k a0 a1 (([] : List ByteArray)) 0 0
set_option maxHeartbeats 8000000 in
set_option maxRecDepth 100000 in
theorem spec_SplitByte.calls (k : Nat) (a0 : ByteArray) (a1 : Int) (r : List ByteArray) (w : World) (h : spec_SplitByte.f k a0 a1 = some r) :
  Calls Tryd.prog 51 #[.string a0, .int .u8 a1] w fun e w' => ∃ v0_ : Value, e = .returned (v0_) ∧ Kd.R Kd.string 9 w' w.heap.size (fun _ => True) v0_ r ∧ Below w.heap.size w w' := by
 have HB := Aside0.mk (Below.refl w.heap.size w)
 have H : (spec_SplitByte.l0 k a0 a1 (([] : List ByteArray)) 0 0) = some r := h
 clear h
 obtain ⟨y368, hy368⟩ : ∃ y_ : List ByteArray, y_ = (([] : List ByteArray)) := ⟨_, rfl⟩
 replace H : (spec_SplitByte.l0 k a0 a1 y368 0 0) = some r := by first | (rw [hy368]; with_reducible exact H) | (have H2_ := (Option.bind_some _ _).symm.trans H; rw [hy368]; with_reducible exact H2_) | (have H2_ := (Option.bind_some _ _).symm.trans H; with_reducible exact H2_) | with_reducible exact H | (rw [hy368]; exact H) | exact H
 have Ny368 := Aside0.mk hy368
 clear hy368
 have H' := Aside0.mk H; clear H
 go_enter Tryd.func51, Tryd.ntmps51
 go_wp2_with (first | ((with_reducible refine gate_dst (N := 8) rfl ?_); refine Kd.R_lit Kd.string _ 9 ?hg (N := 8) ?hd (xs := ([] : List ByteArray)) (inner := []) (ok := fun _ => True) (okp := fun _ => True) ?hr ?hp (fun _ hk => hk) trivial (Below.refl _ _) (Nat.le_refl _) (by simp) ?_; (case hd => rfl); (case hg => rfl); (case hr => first | (go_simp; done) | (go_simp; rfl)); (case hp => exact (Reps.none _ _)); intro v369 w3 ho4 hb hg_ hnew_; clear hg_ hnew_; (first | rw [← Ny368.out] at ho4 | (simp only [Int.reduceToNat] at ho4; rw [← Ny368.out] at ho4)); have HO370 := Aside0.mk (Kd.R_lower ho4 (below_size zB)); replace HB := zX hb; clear hb ho4))
 go_loopg [5, 6, 7] k (fun kq v5 v6 v7 w' => ∃ (x5_1 : List ByteArray) (x6_1 : Int) (x7_1 : Int), v6 = .int .i64 x6_1 ∧ v7 = .int .i64 x7_1 ∧ Aside0 (spec_SplitByte.l0 kq a0 a1 x5_1 x6_1 x7_1 = some r) ∧ Aside0 (kq ≤ k) ∧ Aside0 (Kd.R Kd.string 9 w' w.heap.size (fun _ => True) v5 x5_1) ∧ Aside0 (Below w.heap.size w w'))
 case atStart => exact ⟨(y368), (0), (0), zF, zF, H', ⟨Nat.le_refl _⟩, ⟨zR HO370.out⟩, ⟨zB⟩⟩
 case round =>
 clear H'
 obtain ⟨x5_1, x6_1, x7_1, rfl, rfl, HA, HK1, HO_5, HB⟩ := hrel
 cases gk with
 | zero => exact absurd HA.out (by simp [spec_SplitByte.l0])
 | succ k1 =>
 have H := HA.out
 clear HA
 simp only [spec_SplitByte.l0] at H
 by_cases c5 : x7_1 ≤ (a0.size : Int)
 ·rw [if_pos c5] at H
  have c5b0 : decide (x7_1 ≤ (a0.size : Int)) = true := decide_eq_true c5
  clear c5
  by_cases c6 : x7_1 = (a0.size : Int)
  ·rw [if_pos c6] at H
   have c6b0 : (x7_1 == (a0.size : Int)) = true := beq_iff_eq.mpr c6
   have c6b1 : (x7_1 != (a0.size : Int)) = false := bne_eq_false_iff_eq.mpr c6
   clear c6
   by_cases c7 : 0 ≤ x6_1
   ·rw [if_pos c7] at H
    have c7b0 := eq_true c7
    have c7b1 : decide (0 ≤ x6_1) = true := decide_eq_true c7
    clear c7
    by_cases c8 : x6_1 ≤ x7_1
    ·rw [if_pos c8] at H
     have c8b0 := eq_true c8
     have c8b1 : decide (x6_1 ≤ x7_1) = true := decide_eq_true c8
     clear c8
     have c9b0 := eq_true (zA : x7_1 ≤ (a0.size : Int))
     by_cases c10 : x5_1.length < 8796093022208
     ·rw [if_pos c10] at H
      have LMc10 := Aside0.mk c10
      clear c10
      obtain ⟨y371, hy371⟩ : ∃ y_ : List ByteArray, y_ = (x5_1 ++ [a0.extract (x6_1 : Int).toNat (x7_1 : Int).toNat]) := ⟨_, rfl⟩
      replace H : (spec_SplitByte.l0 k1 a0 a1 y371 (wrap64 (x7_1 + 1)) (wrap64 (x7_1 + 1))) = some r := by first | (rw [hy371]; with_reducible exact H) | (have H2_ := (Option.bind_some _ _).symm.trans H; rw [hy371]; with_reducible exact H2_) | (have H2_ := (Option.bind_some _ _).symm.trans H; with_reducible exact H2_) | with_reducible exact H | (rw [hy371]; exact H) | exact H
      have Ny371 := Aside0.mk hy371
      clear hy371
      have H' := Aside0.mk H; clear H
      go_wp2_with (first | ((with_reducible refine gate_builtin (b := .append) (xs := #[.tmp 26, .tmp 31]) rfl ?_); at_builtin; refine Kd.R_append Kd.string (w0 := w) w.heap.size rfl (.tmp 26) (.tmp 31) 53 9 (.string ⟨#[]⟩) 16 rfl Tryd.underlying53 info9 rfl (by decide) (by omega) u5 x5_1 (a0.extract (x6_1 : Int).toNat (x7_1 : Int).toNat) [.string (a0.extract (x6_1 : Int).toNat (x7_1 : Int).toNat)] (fun _ => True) (fun _ => False) rfl rfl ?aP (fun _ hk => hk.elim) ?aF ?aO ?aB ?aS ?aL ?_; (case aP => exact rfl); (case aB => exact zB); (case aF => exact (fun _ _ => trivial)); (case aO => exact (zR HO_5.out)); (case aS => exact (below_size zB)); (case aL => have := LMc10.out; omega); intro v372 w11 ho hb hg hat; rw [← Ny371.out] at ho; have n0_ := Aside0.mk (hb); have n1_ := Aside0.mk (ho); clear HB; clear HO_5; have HB := n0_; have HO373 := n1_; clear n0_ n1_; clear ho hb hg hat))
      go_roundg k1
      case measure => have := HK1.out; omega
      case rel => exact ⟨(y371), (wrap64 (x7_1 + 1)), (wrap64 (x7_1 + 1)), zF, zF, H', ⟨by have := HK1.out; omega⟩, ⟨zR HO373.out⟩, ⟨zB⟩⟩
     rw [if_neg c10] at H
     exact absurd H (by simp)
    rw [if_neg c8] at H
    exact absurd H (by simp)
   rw [if_neg c7] at H
   exact absurd H (by simp)
  rw [if_neg c6] at H
  have c6b0 : (x7_1 == (a0.size : Int)) = false := beq_eq_false_iff_ne.mpr c6
  have c6b1 : (x7_1 != (a0.size : Int)) = true := bne_iff_ne.mpr c6
  by_cases c12 : 0 ≤ x7_1
  ·rw [if_pos c12] at H
   have c12b0 : decide (0 ≤ x7_1) = true := decide_eq_true c12
   clear c12
   by_cases c13 : x7_1 < (a0.size : Int)
   ·rw [if_pos c13] at H
    have c13b0 : decide (x7_1 < (a0.size : Int)) = true := decide_eq_true c13
    clear c13
    by_cases c15 : (bt a0 x7_1) = a1
    ·rw [if_pos c15] at H
     have c15b0 : ((bt a0 x7_1) == a1) = true := beq_iff_eq.mpr c15
     have c15b1 : ((bt a0 x7_1) != a1) = false := bne_eq_false_iff_eq.mpr c15
     clear c15
     by_cases c16 : 0 ≤ x6_1
     ·rw [if_pos c16] at H
      have c16b0 := eq_true c16
      have c16b1 : decide (0 ≤ x6_1) = true := decide_eq_true c16
      clear c16
      by_cases c17 : x6_1 ≤ x7_1
      ·rw [if_pos c17] at H
       have c17b0 := eq_true c17
       have c17b1 : decide (x6_1 ≤ x7_1) = true := decide_eq_true c17
       clear c17
       have c18b0 := eq_true (zA : x7_1 ≤ (a0.size : Int))
       by_cases c19 : x5_1.length < 8796093022208
       ·rw [if_pos c19] at H
        have LMc19 := Aside0.mk c19
        clear c19
        obtain ⟨y374, hy374⟩ : ∃ y_ : List ByteArray, y_ = (x5_1 ++ [a0.extract (x6_1 : Int).toNat (x7_1 : Int).toNat]) := ⟨_, rfl⟩
        replace H : (spec_SplitByte.l0 k1 a0 a1 y374 (wrap64 (x7_1 + 1)) (wrap64 (x7_1 + 1))) = some r := by first | (rw [hy374]; with_reducible exact H) | (have H2_ := (Option.bind_some _ _).symm.trans H; rw [hy374]; with_reducible exact H2_) | (have H2_ := (Option.bind_some _ _).symm.trans H; with_reducible exact H2_) | with_reducible exact H | (rw [hy374]; exact H) | exact H
        have Ny374 := Aside0.mk hy374
        clear hy374
        have H' := Aside0.mk H; clear H
        have p14 : 0 ≤ (x7_1 : Int) := zA
        have q14 : x7_1 < (a0.size : Int) := zA
        have hx14 := bt_at a0 x7_1
        replace p14 := eq_true p14
        replace q14 := eq_true q14
        go_wp2_with (first | ((with_reducible refine gate_builtin (b := .append) (xs := #[.tmp 26, .tmp 31]) rfl ?_); at_builtin; refine Kd.R_append Kd.string (w0 := w) w.heap.size rfl (.tmp 26) (.tmp 31) 53 9 (.string ⟨#[]⟩) 16 rfl Tryd.underlying53 info9 rfl (by decide) (by omega) u5 x5_1 (a0.extract (x6_1 : Int).toNat (x7_1 : Int).toNat) [.string (a0.extract (x6_1 : Int).toNat (x7_1 : Int).toNat)] (fun _ => True) (fun _ => False) rfl rfl ?aP (fun _ hk => hk.elim) ?aF ?aO ?aB ?aS ?aL ?_; (case aP => exact rfl); (case aB => exact zB); (case aF => exact (fun _ _ => trivial)); (case aO => exact (zR HO_5.out)); (case aS => exact (below_size zB)); (case aL => have := LMc19.out; omega); intro v375 w20 ho hb hg hat; rw [← Ny374.out] at ho; have n0_ := Aside0.mk (hb); have n1_ := Aside0.mk (ho); clear HB; clear HO_5; have HB := n0_; have HO376 := n1_; clear n0_ n1_; clear ho hb hg hat))
        go_roundg k1
        case measure => have := HK1.out; omega
        case rel => exact ⟨(y374), (wrap64 (x7_1 + 1)), (wrap64 (x7_1 + 1)), zF, zF, H', ⟨by have := HK1.out; omega⟩, ⟨zR HO376.out⟩, ⟨zB⟩⟩
       rw [if_neg c19] at H
       exact absurd H (by simp)
      rw [if_neg c17] at H
      exact absurd H (by simp)
     rw [if_neg c16] at H
     exact absurd H (by simp)
    rw [if_neg c15] at H
    have c15b0 : ((bt a0 x7_1) == a1) = false := beq_eq_false_iff_ne.mpr c15
    have c15b1 : ((bt a0 x7_1) != a1) = true := bne_iff_ne.mpr c15
    have H' := Aside0.mk H; clear H
    have p14 : 0 ≤ (x7_1 : Int) := zA
    have q14 : x7_1 < (a0.size : Int) := zA
    have hx14 := bt_at a0 x7_1
    replace p14 := eq_true p14
    replace q14 := eq_true q14
    go_wp2
    go_roundg k1
    case measure => have := HK1.out; omega
    case rel => exact ⟨(x5_1), (x6_1), (wrap64 (x7_1 + 1)), zF, zF, H', ⟨by have := HK1.out; omega⟩, ⟨zR HO_5.out⟩, ⟨zB⟩⟩
   rw [if_neg c13] at H
   exact absurd H (by simp)
  rw [if_neg c12] at H
  exact absurd H (by simp)
 rw [if_neg c5] at H
 have c5b0 : decide (x7_1 ≤ (a0.size : Int)) = false := decide_eq_false c5
 clear c5
 obtain rfl := Option.some.inj H
 go_wp2
 go_ret
 exact ⟨_, zE, zR HO_5.out, zB⟩
/-! ### spec_ParseSigns: function 29 -/
def spec_ParseSigns.j0 : Nat → List ByteArray → Int → Bool → Option (Int × ByteArray × Bool)
 | 0, _, _, _ => none
 | k + 1, x4, x5, x23 => if x23 = true then (some (0, (⟨#[]⟩ : ByteArray), false)) else (if 1 < (x4.length : Int) then ((spec_AreSigns.f k x5 (rdOf ByteArray.empty x4 1)).bind fun t386 => (if t386 = true then (some (x5, rdOf ByteArray.empty x4 1, true)) else (some (0, (⟨#[]⟩ : ByteArray), false)))) else (none))
def spec_ParseSigns.f (k : Nat) (a0 : ByteArray) : Option (Int × ByteArray × Bool) := (spec_SplitByte.f k a0 58).bind fun t378 => (if 0 < (t378.length : Int) then ((spec_ParseInt.f k (rdOf ByteArray.empty t378 0)).bind fun bt382 => (if (t378.length : Int) = 2 then (spec_ParseSigns.j0 k t378 bt382.1 (!bt382.2)) else (spec_ParseSigns.j0 k t378 bt382.1 true))) else (none))
set_option maxHeartbeats 8000000 in
set_option maxRecDepth 100000 in
theorem spec_ParseSigns.calls (k : Nat) (a0 : ByteArray) (r1 : Int) (r2 : ByteArray) (r3 : Bool) (w : World) (h : spec_ParseSigns.f k a0 = some (r1, r2, r3)) :
  Calls Tryd.prog 29 #[.string a0] w fun e w' => e = .returned (.tuple #[.agg #[.int .i64 r1, .string r2], .bool r3]) ∧ Below w.heap.size w w' := by
 have hu28 := Tryd.underlying28
 have HB := Aside0.mk (Below.refl w.heap.size w)
 have H : ((spec_SplitByte.f k a0 58).bind fun t378 => (if 0 < (t378.length : Int) then ((spec_ParseInt.f k (rdOf ByteArray.empty t378 0)).bind fun bt382 => (if (t378.length : Int) = 2 then (spec_ParseSigns.j0 k t378 bt382.1 (!bt382.2)) else (spec_ParseSigns.j0 k t378 bt382.1 true))) else (none))) = some (r1, r2, r3) := h
 clear h
 obtain ⟨t378, A2, H⟩ := zO H
 by_cases c3 : 0 < (t378.length : Int)
 ·rw [if_pos c3] at H
  have c3b0 : decide (0 < (t378.length : Int)) = true := decide_eq_true c3
  have c3b1 : decide (0 < t378.length) = true := decide_eq_true (by omega)
  clear c3
  obtain ⟨⟨t382, t383⟩, A4, H⟩ := zO H
  dsimp only at H
  have HC5 := Aside0.mk H
  clear H
  go_enter Tryd.func29, Tryd.ntmps29
  go_upto_region 3 with (first | ((with_reducible refine gate_dst (N := 2) rfl ?_); refine zBx (N := 2) #[.int .i64 0, .string (⟨#[]⟩ : ByteArray)] 28 ?_; intro gb377 hg w6 hbox hb; have BK377 := Aside0.mk (hbox); have GW377 := zS hg; have GE377 := zS hg; replace HB := zX hb; clear hb hbox hg) | ((with_reducible refine gate_callee (f := 51) rfl ?_); refine zD (some 9) Tryd.func51 #[.string a0, .int .u8 58] ?_; (with_reducible refine (spec_SplitByte.calls k a0 58 t378 _ A2.out).mono ?_); rintro e w7 ⟨v379, rfl, ho0, hb⟩; refine ⟨_, rfl, ?_⟩; have HO380 := Aside0.mk (Kd.R_lower ho0 (below_size (zG GE377.out))); replace BK377 := zV BK377.out hb; replace HB := zX1 GE377.out hb; (try clear hb); (try clear ho0); obtain ⟨Ao8, co8, eo8⟩ := Kd.R_slice HO380.out; subst eo8; have p381 : 0 ≤ (0 : Int) := (by omega); have q381 : 0 < (t378.length : Int) := zA; obtain ⟨ad381, e381, hx381_0⟩ := Kd.at_string (Kd.R_reads' HO380.out).2.2 0 p381 q381; cases e381; have qi381 : (0 < t378.length) = True := eq_true (by omega); (try rw [show ((0 : Int)).toNat = 0 from rfl] at hx381_0); (try rw [Addr.add_zero'] at hx381_0); replace p381 := eq_true p381; replace q381 := eq_true q381) | ((with_reducible refine gate_callee (f := 22) rfl ?_); refine zD (some 14) Tryd.func22 #[.string (rdOf ByteArray.empty t378 0)] ?_; (with_reducible refine (spec_ParseInt.calls k (rdOf ByteArray.empty t378 0) t382 t383 _ A4.out).mono ?_); rintro e w9 ⟨rfl, hb⟩; refine ⟨_, rfl, ?_⟩; replace HO380 := zW HO380.out hb; replace BK377 := zV BK377.out hb; replace HB := zX1 GE377.out hb; (try clear hb)))
  (try simp only [Act.put, List.setIfInBounds_toArray, List.set_cons_zero, List.set_cons_succ])
  go_cut [23] (fun v23 wc => ∃ (kq : Nat) (x23_4 : Bool), v23 = .bool x23_4 ∧ Aside0 (spec_ParseSigns.j0 kq t378 t382 x23_4 = some (r1, r2, r3)) ∧ Aside0 (kq ≤ k) ∧ Aside0 (Kd.R Kd.string 9 wc w.heap.size (fun _ => True) (.slice (some ad381) t378.length co8) t378) ∧ Aside0 (wc.heap[gb377]? = some (.cells #[.int .i64 0, .string (⟨#[]⟩ : ByteArray)] 28 (0, 0))) ∧ Aside0 (Below w.heap.size w wc))
  case first =>
   have H := HC5.out
   clear HC5
   by_cases c10 : (t378.length : Int) = 2
   ·rw [if_pos c10] at H
    have c10b0 : ((t378.length : Int) == 2) = true := beq_iff_eq.mpr c10
    have c10b1 : ((t378.length : Int) != 2) = false := bne_eq_false_iff_eq.mpr c10
    clear c10
    (first | rw [c10b0] | (simp only [i64_w, i32_w]; rw [c10b0]) | skip)
    have H' := Aside0.mk H; clear H
    go_wp2
    go_meet
    case rel => exact ⟨_, (!t383), zF, H', ⟨by first | omega | exact Nat.le_refl _⟩, ⟨zR HO380.out⟩, ⟨zK BK377.out⟩, ⟨zG GE377.out⟩⟩
   rw [if_neg c10] at H
   have c10b0 : ((t378.length : Int) == 2) = false := beq_eq_false_iff_ne.mpr c10
   have c10b1 : ((t378.length : Int) != 2) = true := bne_iff_ne.mpr c10
   (first | rw [c10b0] | (simp only [i64_w, i32_w]; rw [c10b0]) | skip)
   have H' := Aside0.mk H; clear H
   go_wp2
   go_meet
   case rel => exact ⟨_, (true), zF, H', ⟨by first | omega | exact Nat.le_refl _⟩, ⟨zR HO380.out⟩, ⟨zK BK377.out⟩, ⟨zG GE377.out⟩⟩
  case rest =>
  clear HC5
  try clear c3
  try clear c3b0
  try clear c3b1
  try clear hx381_0
  try clear p381
  try clear q381
  obtain ⟨kq, x23_4, rfl, HA, HJ4, HO_4, BK377, HB⟩ := hcut
  cases kq with
  | zero => exact absurd HA.out (by simp [spec_ParseSigns.j0])
  | succ kj4 =>
  have H := HA.out
  clear HA
  simp only [spec_ParseSigns.j0] at H
  by_cases c11 : x23_4 = true
  ·subst c11
   replace H := (if_pos rfl).symm.trans H
   simp only [Option.some.injEq, Prod.mk.injEq] at H
   obtain ⟨rfl, rfl, rfl⟩ := H
   obtain ⟨hcz12_0, hcz12_1, hfz12_0, hfz12_1⟩ := zq2 BK377.out
   go_wp2
   refine bodyPost_ret (results_ct rfl _ _ gb377 28 #[.int .i64 0, .string (⟨#[]⟩ : ByteArray)] (0, 0) _ rfl (zk0 BK377.out) Tryd.underlying28 rfl (by kernel_rfl)) rfl ?_
   exact ⟨zE, zG GE377.out⟩
  replace c11 := Bool.eq_false_iff.mpr c11
  subst c11
  replace H := (if_neg zFf).symm.trans H
  by_cases c13 : 1 < (t378.length : Int)
  ·rw [if_pos c13] at H
   have c13b0 : decide (1 < (t378.length : Int)) = true := decide_eq_true c13
   have c13b1 : decide (1 < t378.length) = true := decide_eq_true (by omega)
   clear c13
   obtain ⟨t386, A14, H⟩ := zO H
   by_cases c15 : t386 = true
   ·subst c15
    replace H := (if_pos rfl).symm.trans H
    simp only [Option.some.injEq, Prod.mk.injEq] at H
    obtain ⟨rfl, rfl, rfl⟩ := H
    have p384 : 0 ≤ (1 : Int) := (by omega)
    have q384 : 1 < (t378.length : Int) := zA
    obtain ⟨ad384, e384, hx384_0⟩ := Kd.at_string (Kd.R_reads' HO_4.out).2.2 1 p384 q384
    obtain rfl : ad381 = ad384 := (by injection e384)
    (try simp only [show (1 : Int).toNat = 1 from rfl, Nat.reduceMul, Nat.reduceEqDiff, Go.Addr.add, ↓reduceIte] at hx384_0)
    have qi384 : (1 < t378.length) = True := eq_true (by omega)
    (try rw [show ((1 : Int)).toNat = 1 from rfl] at hx384_0)
    replace p384 := eq_true p384
    replace q384 := eq_true q384
    go_wp2_with (first | ((with_reducible refine gate_dst (N := 7) rfl ?_); refine zBx (N := 7) #[.int .i64 0, .string (⟨#[]⟩ : ByteArray)] 28 ?_; intro gb385 hg w16 hbox hb; replace HO_4 := zW HO_4.out hb; have BK385 := Aside0.mk (hbox); have GW385 := zSg hg (zG GE377.out); have GE385 := zSg hg (zG GE377.out); have NB377_385 := zL hg BK377.out; have NB385_377 := zLg hg BK377.out; replace BK377 := zV BK377.out hb; replace HB := zX1 GE377.out hb; clear hb hbox hg; have hnb17 := NB385_377.out; have hnc17 := NB377_385.out; obtain ⟨hcz18_0, hcz18_1, hfz18_0, hfz18_1⟩ := zq2 BK385.out) | ((with_reducible refine gate_callee (f := 37) rfl ?_); refine zD (some 31) Tryd.func37 #[.agg #[.int .i64 t382, .string (rdOf ByteArray.empty t378 1)]] ?_; (with_reducible refine (spec_AreSigns.calls kj4 t382 (rdOf ByteArray.empty t378 1) true _ A14.out).mono ?_); rintro e w19 ⟨rfl, hb⟩; refine ⟨_, rfl, ?_⟩; replace HO_4 := Aside0.mk (Kd.R_below (by (with_reducible repeat (first | apply Kd.R_alloc | apply Kd.R_drewN | apply Kd.R_drew)); exact (Kd.R_mono (Kd.R_far (p := ⟨gb385, 1, none⟩) (Kd.R_far (p := ⟨gb385, 0, none⟩) (Kd.R_types HO_4.out BK385.out (by decide)) (fun _ hk => hk.2) (.int .i64 t382)) (fun _ hk => hk.2) (.string (rdOf ByteArray.empty t378 1))) (fun _ h_ => h_.1))) hb); replace BK377 := Aside0.mk (blk_below (g := gb377) (o := .cells #[.int .i64 0, .string (⟨#[]⟩ : ByteArray)] 28 (0, 0)) (zk2 BK377.out NB377_385.out NB377_385.out) hb); replace BK385 := Aside0.mk (blk_below (g := gb385) (o := .cells #[.int .i64 t382, .string (rdOf ByteArray.empty t378 1)] 28 (0, 0)) (zk0 BK385.out) hb); replace HB := Aside0.mk (below_step (zG2 GE377.out GE385.out) hb); (try clear hb); obtain ⟨hcz20_0, hcz20_1, hfz20_0, hfz20_1⟩ := zq2 BK385.out; obtain ⟨hcz21_0, hcz21_1, hfz21_0, hfz21_1⟩ := zq2 BK377.out))
    refine bodyPost_ret (results_ct rfl _ _ gb377 28 #[.int .i64 t382, .string (rdOf ByteArray.empty t378 1)] (0, 0) _ rfl (zk0 BK377.out) Tryd.underlying28 rfl (by kernel_rfl)) rfl ?_
    exact ⟨zE, zG2 GE377.out GE385.out⟩
   replace c15 := Bool.eq_false_iff.mpr c15
   subst c15
   replace H := (if_neg zFf).symm.trans H
   simp only [Option.some.injEq, Prod.mk.injEq] at H
   obtain ⟨rfl, rfl, rfl⟩ := H
   have p384 : 0 ≤ (1 : Int) := (by omega)
   have q384 : 1 < (t378.length : Int) := zA
   obtain ⟨ad384, e384, hx384_0⟩ := Kd.at_string (Kd.R_reads' HO_4.out).2.2 1 p384 q384
   obtain rfl : ad381 = ad384 := (by injection e384)
   (try simp only [show (1 : Int).toNat = 1 from rfl, Nat.reduceMul, Nat.reduceEqDiff, Go.Addr.add, ↓reduceIte] at hx384_0)
   have qi384 : (1 < t378.length) = True := eq_true (by omega)
   (try rw [show ((1 : Int)).toNat = 1 from rfl] at hx384_0)
   replace p384 := eq_true p384
   replace q384 := eq_true q384
   go_wp2_with (first | ((with_reducible refine gate_dst (N := 7) rfl ?_); refine zBx (N := 7) #[.int .i64 0, .string (⟨#[]⟩ : ByteArray)] 28 ?_; intro gb385 hg w22 hbox hb; replace HO_4 := zW HO_4.out hb; have BK385 := Aside0.mk (hbox); have GW385 := zSg hg (zG GE377.out); have GE385 := zSg hg (zG GE377.out); have NB377_385 := zL hg BK377.out; have NB385_377 := zLg hg BK377.out; replace BK377 := zV BK377.out hb; replace HB := zX1 GE377.out hb; clear hb hbox hg; have hnb23 := NB385_377.out; have hnc23 := NB377_385.out; obtain ⟨hcz24_0, hcz24_1, hfz24_0, hfz24_1⟩ := zq2 BK385.out) | ((with_reducible refine gate_callee (f := 37) rfl ?_); refine zD (some 31) Tryd.func37 #[.agg #[.int .i64 t382, .string (rdOf ByteArray.empty t378 1)]] ?_; (with_reducible refine (spec_AreSigns.calls kj4 t382 (rdOf ByteArray.empty t378 1) false _ A14.out).mono ?_); rintro e w25 ⟨rfl, hb⟩; refine ⟨_, rfl, ?_⟩; replace HO_4 := Aside0.mk (Kd.R_below (by (with_reducible repeat (first | apply Kd.R_alloc | apply Kd.R_drewN | apply Kd.R_drew)); exact (Kd.R_mono (Kd.R_far (p := ⟨gb385, 1, none⟩) (Kd.R_far (p := ⟨gb385, 0, none⟩) (Kd.R_types HO_4.out BK385.out (by decide)) (fun _ hk => hk.2) (.int .i64 t382)) (fun _ hk => hk.2) (.string (rdOf ByteArray.empty t378 1))) (fun _ h_ => h_.1))) hb); replace BK377 := Aside0.mk (blk_below (g := gb377) (o := .cells #[.int .i64 0, .string (⟨#[]⟩ : ByteArray)] 28 (0, 0)) (zk2 BK377.out NB377_385.out NB377_385.out) hb); replace BK385 := Aside0.mk (blk_below (g := gb385) (o := .cells #[.int .i64 t382, .string (rdOf ByteArray.empty t378 1)] 28 (0, 0)) (zk0 BK385.out) hb); replace HB := Aside0.mk (below_step (zG2 GE377.out GE385.out) hb); (try clear hb); obtain ⟨hcz26_0, hcz26_1, hfz26_0, hfz26_1⟩ := zq2 BK377.out))
   refine bodyPost_ret (results_ct rfl _ _ gb377 28 #[.int .i64 0, .string (⟨#[]⟩ : ByteArray)] (0, 0) _ rfl (zk0 BK377.out) Tryd.underlying28 rfl (by kernel_rfl)) rfl ?_
   exact ⟨zE, zG2 GE377.out GE385.out⟩
  rw [if_neg c13] at H
  exact absurd H (by simp)
 rw [if_neg c3] at H
 exact absurd H (by simp)
/-! ### impl_AreSigns: function 38 -/
mutual
def impl_AreSigns.j0 : Nat → Bool → Int → ByteArray → Option (Bool)
 | 0, _, _, _ => none
 | k + 1, x28, x138000, x138001 => if x28 = true then (some false) else (impl_AreSigns.l0 k 0 x138000 x138001)
def impl_AreSigns.l0 : Nat → Int → Int → ByteArray → Option (Bool)
 | 0, _, _, _ => none
 | k + 1, x3, x138000, x138001 => if x3 < (x138001.size : Int) then (if 0 ≤ x3 then (if (bt x138001 x3) = 43 then (impl_AreSigns.l0 k (wrap64 (x3 + 1)) x138000 x138001) else (if (bt x138001 x3) = 45 then (impl_AreSigns.l0 k (wrap64 (x3 + 1)) x138000 x138001) else (some false))) else (none)) else (some true)
end
def impl_AreSigns.f (k : Nat) (a0_0 : Int) (a0_1 : ByteArray) : Option (Bool) := if a0_0 < 3 then (impl_AreSigns.j0 k true a0_0 a0_1) else (if a0_0 > 7 then (impl_AreSigns.j0 k true a0_0 a0_1) else (impl_AreSigns.j0 k ((a0_1.size : Int) != (wrap64 (Int.tdiv (wrap64 ((wrap64 (a0_0 * (wrap64 (a0_0 - 1)))) * (wrap64 (a0_0 - 2)))) 6))) a0_0 a0_1))
set_option maxHeartbeats 8000000 in
set_option maxRecDepth 100000 in
theorem impl_AreSigns.calls (k : Nat) (a0_0 : Int) (a0_1 : ByteArray) (r : Bool) (w : World) (h : impl_AreSigns.f k a0_0 a0_1 = some r) :
  Calls Tryd.prog 38 #[.agg #[.int .i64 a0_0, .string a0_1]] w fun e w' => e = .returned (.bool r) ∧ Below w.heap.size w w' := by
 have hu28 := Tryd.underlying28
 have HB := Aside0.mk (Below.refl w.heap.size w)
 have H : (if a0_0 < 3 then (impl_AreSigns.j0 k true a0_0 a0_1) else (if a0_0 > 7 then (impl_AreSigns.j0 k true a0_0 a0_1) else (impl_AreSigns.j0 k ((a0_1.size : Int) != (wrap64 (Int.tdiv (wrap64 ((wrap64 (a0_0 * (wrap64 (a0_0 - 1)))) * (wrap64 (a0_0 - 2)))) 6))) a0_0 a0_1))) = some r := h
 clear h
 have HC2 := Aside0.mk H
 clear H
 go_enter Tryd.func38, Tryd.ntmps38
 go_upto_region 1 with (first | ((with_reducible refine gate_dst (N := 1) rfl ?_); (try (refine gate_guard (by rfl) ?_; dsimp only)); refine zBx (N := 1) #[.int .i64 a0_0, .string a0_1] 28 ?_; intro gb137 hg w3 hbox hb; have BK137 := Aside0.mk (hbox); have GW137 := zS hg; have GE137 := zS hg; replace HB := zX hb; clear hb hbox hg))
 (try simp only [Act.put, List.setIfInBounds_toArray, List.set_cons_zero, List.set_cons_succ])
 go_cut [28] (fun v28 wc => ∃ (kq : Nat) (x28_1 : Bool), v28 = .bool x28_1 ∧ Aside0 (impl_AreSigns.j0 kq x28_1 a0_0 a0_1 = some r) ∧ Aside0 (kq ≤ k) ∧ Aside0 (wc.heap[gb137]? = some (.cells #[.int .i64 a0_0, .string a0_1] 28 (0, 0))) ∧ Aside0 (Below w.heap.size w wc))
 case first =>
  have H := HC2.out
  clear HC2
  by_cases c4 : a0_0 < 3
  ·rw [if_pos c4] at H
   have c4b0 : decide (a0_0 < 3) = true := decide_eq_true c4
   clear c4
   (first | rw [c4b0] | (simp only [i64_w, i32_w]; rw [c4b0]) | skip)
   have H' := Aside0.mk H; clear H
   obtain ⟨hcz5_0, hcz5_1, hfz5_0, hfz5_1⟩ := zq2 BK137.out
   go_wp2
   go_meet
   case rel => exact ⟨_, (true), zF, H', ⟨by first | omega | exact Nat.le_refl _⟩, ⟨zK BK137.out⟩, ⟨zG GE137.out⟩⟩
  rw [if_neg c4] at H
  have c4b0 : decide (a0_0 < 3) = false := decide_eq_false c4
  clear c4
  (first | rw [c4b0] | (simp only [i64_w, i32_w]; rw [c4b0]) | skip)
  by_cases c6 : a0_0 > 7
  ·rw [if_pos c6] at H
   have c6b0 : decide (7 < a0_0) = true := decide_eq_true c6
   clear c6
   have H' := Aside0.mk H; clear H
   obtain ⟨hcz7_0, hcz7_1, hfz7_0, hfz7_1⟩ := zq2 BK137.out
   go_wp2
   go_meet
   case rel => exact ⟨_, (true), zF, H', ⟨by first | omega | exact Nat.le_refl _⟩, ⟨zK BK137.out⟩, ⟨zG GE137.out⟩⟩
  rw [if_neg c6] at H
  have c6b0 : decide (7 < a0_0) = false := decide_eq_false c6
  clear c6
  have H' := Aside0.mk H; clear H
  obtain ⟨hcz8_0, hcz8_1, hfz8_0, hfz8_1⟩ := zq2 BK137.out
  go_wp2
  go_meet
  case rel => exact ⟨_, (((a0_1.size : Int) != (wrap64 (Int.tdiv (wrap64 ((wrap64 (a0_0 * (wrap64 (a0_0 - 1)))) * (wrap64 (a0_0 - 2)))) 6)))), zF, H', ⟨by first | omega | exact Nat.le_refl _⟩, ⟨zK BK137.out⟩, ⟨zG GE137.out⟩⟩
 case rest =>
 clear HC2
 obtain ⟨kq, x28_1, rfl, HA, HJ1, BK137, HB⟩ := hcut
 cases kq with
 | zero => exact absurd HA.out (by simp [impl_AreSigns.j0])
 | succ kj1 =>
 have H := HA.out
 clear HA
 simp only [impl_AreSigns.j0] at H
 by_cases c9 : x28_1 = true
 ·subst c9
  replace H := (if_pos rfl).symm.trans H
  obtain rfl := Option.some.inj H
  go_wp2
  go_ret
  exact ⟨zE, zG GE137.out⟩
 replace c9 := Bool.eq_false_iff.mpr c9
 subst c9
 replace H := (if_neg zFf).symm.trans H
 have H' := Aside0.mk H; clear H
 go_wp2
 go_loopg [3] kj1 (fun kq v3 w' => ∃ (x3_2 : Int), v3 = .int .i64 x3_2 ∧ Aside0 (impl_AreSigns.l0 kq x3_2 a0_0 a0_1 = some r) ∧ Aside0 (kq ≤ kj1) ∧ Aside0 (w'.heap[gb137]? = some (.cells #[.int .i64 a0_0, .string a0_1] 28 (0, 0))) ∧ Aside0 (Below w.heap.size w w'))
 case atStart => exact ⟨(0), zF, H', ⟨Nat.le_refl _⟩, ⟨zK BK137.out⟩, ⟨zG GE137.out⟩⟩
 case round =>
 clear H'
 try clear c9
 obtain ⟨x3_2, rfl, HA, HK2, BK137, HB⟩ := hrel
 cases gk with
 | zero => exact absurd HA.out (by simp [impl_AreSigns.l0])
 | succ k2 =>
 have H := HA.out
 clear HA
 simp only [impl_AreSigns.l0] at H
 by_cases c10 : x3_2 < (a0_1.size : Int)
 ·rw [if_pos c10] at H
  have c10b0 : decide (x3_2 < (a0_1.size : Int)) = true := decide_eq_true c10
  clear c10
  by_cases c11 : 0 ≤ x3_2
  ·rw [if_pos c11] at H
   have c11b0 : decide (0 ≤ x3_2) = true := decide_eq_true c11
   clear c11
   by_cases c13 : (bt a0_1 x3_2) = 43
   ·rw [if_pos c13] at H
    have c13b0 : ((bt a0_1 x3_2) == 43) = true := beq_iff_eq.mpr c13
    have c13b1 : ((bt a0_1 x3_2) != 43) = false := bne_eq_false_iff_eq.mpr c13
    clear c13
    have H' := Aside0.mk H; clear H
    obtain ⟨hcz14_0, hcz14_1, hfz14_0, hfz14_1⟩ := zq2 BK137.out
    have p12 : 0 ≤ (x3_2 : Int) := zA
    have q12 : x3_2 < (a0_1.size : Int) := zA
    have hx12 := bt_at a0_1 x3_2
    replace p12 := eq_true p12
    replace q12 := eq_true q12
    go_wp2
    go_roundg k2
    case measure => have := HJ1.out; have := HK2.out; omega
    case rel => exact ⟨(wrap64 (x3_2 + 1)), zF, H', ⟨by have := HJ1.out; have := HK2.out; omega⟩, ⟨zK BK137.out⟩, ⟨zG GE137.out⟩⟩
   rw [if_neg c13] at H
   have c13b0 : ((bt a0_1 x3_2) == 43) = false := beq_eq_false_iff_ne.mpr c13
   have c13b1 : ((bt a0_1 x3_2) != 43) = true := bne_iff_ne.mpr c13
   by_cases c16 : (bt a0_1 x3_2) = 45
   ·rw [if_pos c16] at H
    have c16b0 : ((bt a0_1 x3_2) == 45) = true := beq_iff_eq.mpr c16
    have c16b1 : ((bt a0_1 x3_2) != 45) = false := bne_eq_false_iff_eq.mpr c16
    clear c16
    have H' := Aside0.mk H; clear H
    obtain ⟨hcz17_0, hcz17_1, hfz17_0, hfz17_1⟩ := zq2 BK137.out
    have p12 : 0 ≤ (x3_2 : Int) := zA
    have q12 : x3_2 < (a0_1.size : Int) := zA
    have hx12 := bt_at a0_1 x3_2
    replace p12 := eq_true p12
    replace q12 := eq_true q12
    have p15 : 0 ≤ (x3_2 : Int) := zA
    have q15 : x3_2 < (a0_1.size : Int) := zA
    have hx15 := bt_at a0_1 x3_2
    replace p15 := eq_true p15
    replace q15 := eq_true q15
    go_wp2
    go_roundg k2
    case measure => have := HJ1.out; have := HK2.out; omega
    case rel => exact ⟨(wrap64 (x3_2 + 1)), zF, H', ⟨by have := HJ1.out; have := HK2.out; omega⟩, ⟨zK BK137.out⟩, ⟨zG GE137.out⟩⟩
   rw [if_neg c16] at H
   have c16b0 : ((bt a0_1 x3_2) == 45) = false := beq_eq_false_iff_ne.mpr c16
   have c16b1 : ((bt a0_1 x3_2) != 45) = true := bne_iff_ne.mpr c16
   obtain rfl := Option.some.inj H
   obtain ⟨hcz18_0, hcz18_1, hfz18_0, hfz18_1⟩ := zq2 BK137.out
   have p12 : 0 ≤ (x3_2 : Int) := zA
   have q12 : x3_2 < (a0_1.size : Int) := zA
   have hx12 := bt_at a0_1 x3_2
   replace p12 := eq_true p12
   replace q12 := eq_true q12
   have p15 : 0 ≤ (x3_2 : Int) := zA
   have q15 : x3_2 < (a0_1.size : Int) := zA
   have hx15 := bt_at a0_1 x3_2
   replace p15 := eq_true p15
   replace q15 := eq_true q15
   go_wp2
   go_ret
   exact ⟨zE, zG GE137.out⟩
  rw [if_neg c11] at H
  exact absurd H (by simp)
 rw [if_neg c10] at H
 have c10b0 : decide (x3_2 < (a0_1.size : Int)) = false := decide_eq_false c10
 clear c10
 obtain rfl := Option.some.inj H
 obtain ⟨hcz19_0, hcz19_1, hfz19_0, hfz19_1⟩ := zq2 BK137.out
 go_wp2
 go_ret
 exact ⟨zE, zG GE137.out⟩
/-! ### impl_SplitByte: function 52 -/
def impl_SplitByte.l0 : Nat → ByteArray → Int → List ByteArray → Int → Int → Option (List ByteArray)
 | 0, _, _, _, _, _ => none
 | k + 1, x0, x1, x5, x6, x7 => if x7 ≤ (x0.size : Int) then (if x7 = (x0.size : Int) then (if 0 ≤ x6 then (if x6 ≤ x7 then (if x5.length < 8796093022208 then (impl_SplitByte.l0 k x0 x1 (x5 ++ [x0.extract (x6 : Int).toNat (x7 : Int).toNat]) (wrap64 (x7 + 1)) (wrap64 (x7 + 1))) else (none)) else (none)) else (none)) else (if 0 ≤ x7 then (if x7 < (x0.size : Int) then (if (bt x0 x7) = x1 then (if 0 ≤ x6 then (if x6 ≤ x7 then (if x5.length < 8796093022208 then (impl_SplitByte.l0 k x0 x1 (x5 ++ [x0.extract (x6 : Int).toNat (x7 : Int).toNat]) (wrap64 (x7 + 1)) (wrap64 (x7 + 1))) else (none)) else (none)) else (none)) else (impl_SplitByte.l0 k x0 x1 x5 x6 (wrap64 (x7 + 1)))) else (none)) else (none))) else (some x5)
def impl_SplitByte.f (k : Nat) (a0 : ByteArray) (a1 : Int) : Option (List ByteArray) := impl_SplitByte.l0 k a0 a1 ([] : List ByteArray) 0 0
set_option maxHeartbeats 8000000 in
set_option maxRecDepth 100000 in
theorem impl_SplitByte.calls (k : Nat) (a0 : ByteArray) (a1 : Int) (r : List ByteArray) (w : World) (h : impl_SplitByte.f k a0 a1 = some r) :
  Calls Tryd.prog 52 #[.string a0, .int .u8 a1] w fun e w' => ∃ v0_ : Value, e = .returned (v0_) ∧ Kd.R Kd.string 9 w' w.heap.size (fun _ => True) v0_ r ∧ Below w.heap.size w w' := by
 have HB := Aside0.mk (Below.refl w.heap.size w)
 have H : (impl_SplitByte.l0 k a0 a1 ([] : List ByteArray) 0 0) = some r := h
 clear h
 have H' := Aside0.mk H; clear H
 go_enter Tryd.func52, Tryd.ntmps52
 go_wp2
 go_loopg [5, 6, 7] k (fun kq v5 v6 v7 w' => ∃ (x5_1 : List ByteArray) (x6_1 : Int) (x7_1 : Int), v6 = .int .i64 x6_1 ∧ v7 = .int .i64 x7_1 ∧ Aside0 (impl_SplitByte.l0 kq a0 a1 x5_1 x6_1 x7_1 = some r) ∧ Aside0 (kq ≤ k) ∧ Aside0 (Kd.R Kd.string 9 w' w.heap.size (fun _ => True) v5 x5_1) ∧ Aside0 (Below w.heap.size w w'))
 case atStart => exact ⟨(([] : List ByteArray)), (0), (0), zF, zF, H', ⟨Nat.le_refl _⟩, ⟨by first | exact Kd.R_nil _ _ _ _ _ | exact Kd.N_nil _ _ _ _ _ | exact Kd.V_nil _ _ _ _ _ | exact Kd.Q_nil _ _ _ _ _ | exact Kd.S_nil _ _ _ _ _⟩, ⟨zB⟩⟩
 case round =>
 clear H'
 obtain ⟨x5_1, x6_1, x7_1, rfl, rfl, HA, HK1, HO_5, HB⟩ := hrel
 cases gk with
 | zero => exact absurd HA.out (by simp [impl_SplitByte.l0])
 | succ k1 =>
 have H := HA.out
 clear HA
 simp only [impl_SplitByte.l0] at H
 by_cases c3 : x7_1 ≤ (a0.size : Int)
 ·rw [if_pos c3] at H
  have c3b0 : decide (x7_1 ≤ (a0.size : Int)) = true := decide_eq_true c3
  clear c3
  by_cases c4 : x7_1 = (a0.size : Int)
  ·rw [if_pos c4] at H
   have c4b0 : (x7_1 == (a0.size : Int)) = true := beq_iff_eq.mpr c4
   have c4b1 : (x7_1 != (a0.size : Int)) = false := bne_eq_false_iff_eq.mpr c4
   clear c4
   by_cases c5 : 0 ≤ x6_1
   ·rw [if_pos c5] at H
    have c5b0 := eq_true c5
    have c5b1 : decide (0 ≤ x6_1) = true := decide_eq_true c5
    clear c5
    by_cases c6 : x6_1 ≤ x7_1
    ·rw [if_pos c6] at H
     have c6b0 := eq_true c6
     have c6b1 : decide (x6_1 ≤ x7_1) = true := decide_eq_true c6
     clear c6
     have c7b0 := eq_true (zA : x7_1 ≤ (a0.size : Int))
     by_cases c8 : x5_1.length < 8796093022208
     ·rw [if_pos c8] at H
      have LMc8 := Aside0.mk c8
      clear c8
      obtain ⟨y387, hy387⟩ : ∃ y_ : List ByteArray, y_ = (x5_1 ++ [a0.extract (x6_1 : Int).toNat (x7_1 : Int).toNat]) := ⟨_, rfl⟩
      replace H : (impl_SplitByte.l0 k1 a0 a1 y387 (wrap64 (x7_1 + 1)) (wrap64 (x7_1 + 1))) = some r := by first | (rw [hy387]; with_reducible exact H) | (have H2_ := (Option.bind_some _ _).symm.trans H; rw [hy387]; with_reducible exact H2_) | (have H2_ := (Option.bind_some _ _).symm.trans H; with_reducible exact H2_) | with_reducible exact H | (rw [hy387]; exact H) | exact H
      have Ny387 := Aside0.mk hy387
      clear hy387
      have H' := Aside0.mk H; clear H
      go_wp2_with (first | ((with_reducible refine gate_builtin (b := .append) (xs := #[.tmp 25, .tmp 30]) rfl ?_); at_builtin; refine Kd.R_append Kd.string (w0 := w) w.heap.size rfl (.tmp 25) (.tmp 30) 53 9 (.string ⟨#[]⟩) 16 rfl Tryd.underlying53 info9 rfl (by decide) (by omega) u5 x5_1 (a0.extract (x6_1 : Int).toNat (x7_1 : Int).toNat) [.string (a0.extract (x6_1 : Int).toNat (x7_1 : Int).toNat)] (fun _ => True) (fun _ => False) rfl rfl ?aP (fun _ hk => hk.elim) ?aF ?aO ?aB ?aS ?aL ?_; (case aP => exact rfl); (case aB => exact zB); (case aF => exact (fun _ _ => trivial)); (case aO => exact (zR HO_5.out)); (case aS => exact (below_size zB)); (case aL => have := LMc8.out; omega); intro v388 w9 ho hb hg hat; rw [← Ny387.out] at ho; have n0_ := Aside0.mk (hb); have n1_ := Aside0.mk (ho); clear HB; clear HO_5; have HB := n0_; have HO389 := n1_; clear n0_ n1_; clear ho hb hg hat))
      go_roundg k1
      case measure => have := HK1.out; omega
      case rel => exact ⟨(y387), (wrap64 (x7_1 + 1)), (wrap64 (x7_1 + 1)), zF, zF, H', ⟨by have := HK1.out; omega⟩, ⟨zR HO389.out⟩, ⟨zB⟩⟩
     rw [if_neg c8] at H
     exact absurd H (by simp)
    rw [if_neg c6] at H
    exact absurd H (by simp)
   rw [if_neg c5] at H
   exact absurd H (by simp)
  rw [if_neg c4] at H
  have c4b0 : (x7_1 == (a0.size : Int)) = false := beq_eq_false_iff_ne.mpr c4
  have c4b1 : (x7_1 != (a0.size : Int)) = true := bne_iff_ne.mpr c4
  by_cases c10 : 0 ≤ x7_1
  ·rw [if_pos c10] at H
   have c10b0 : decide (0 ≤ x7_1) = true := decide_eq_true c10
   clear c10
   by_cases c11 : x7_1 < (a0.size : Int)
   ·rw [if_pos c11] at H
    have c11b0 : decide (x7_1 < (a0.size : Int)) = true := decide_eq_true c11
    clear c11
    by_cases c13 : (bt a0 x7_1) = a1
    ·rw [if_pos c13] at H
     have c13b0 : ((bt a0 x7_1) == a1) = true := beq_iff_eq.mpr c13
     have c13b1 : ((bt a0 x7_1) != a1) = false := bne_eq_false_iff_eq.mpr c13
     clear c13
     by_cases c14 : 0 ≤ x6_1
     ·rw [if_pos c14] at H
      have c14b0 := eq_true c14
      have c14b1 : decide (0 ≤ x6_1) = true := decide_eq_true c14
      clear c14
      by_cases c15 : x6_1 ≤ x7_1
      ·rw [if_pos c15] at H
       have c15b0 := eq_true c15
       have c15b1 : decide (x6_1 ≤ x7_1) = true := decide_eq_true c15
       clear c15
       have c16b0 := eq_true (zA : x7_1 ≤ (a0.size : Int))
       by_cases c17 : x5_1.length < 8796093022208
       ·rw [if_pos c17] at H
        have LMc17 := Aside0.mk c17
        clear c17
        obtain ⟨y390, hy390⟩ : ∃ y_ : List ByteArray, y_ = (x5_1 ++ [a0.extract (x6_1 : Int).toNat (x7_1 : Int).toNat]) := ⟨_, rfl⟩
        replace H : (impl_SplitByte.l0 k1 a0 a1 y390 (wrap64 (x7_1 + 1)) (wrap64 (x7_1 + 1))) = some r := by first | (rw [hy390]; with_reducible exact H) | (have H2_ := (Option.bind_some _ _).symm.trans H; rw [hy390]; with_reducible exact H2_) | (have H2_ := (Option.bind_some _ _).symm.trans H; with_reducible exact H2_) | with_reducible exact H | (rw [hy390]; exact H) | exact H
        have Ny390 := Aside0.mk hy390
        clear hy390
        have H' := Aside0.mk H; clear H
        have p12 : 0 ≤ (x7_1 : Int) := zA
        have q12 : x7_1 < (a0.size : Int) := zA
        have hx12 := bt_at a0 x7_1
        replace p12 := eq_true p12
        replace q12 := eq_true q12
        go_wp2_with (first | ((with_reducible refine gate_builtin (b := .append) (xs := #[.tmp 25, .tmp 30]) rfl ?_); at_builtin; refine Kd.R_append Kd.string (w0 := w) w.heap.size rfl (.tmp 25) (.tmp 30) 53 9 (.string ⟨#[]⟩) 16 rfl Tryd.underlying53 info9 rfl (by decide) (by omega) u5 x5_1 (a0.extract (x6_1 : Int).toNat (x7_1 : Int).toNat) [.string (a0.extract (x6_1 : Int).toNat (x7_1 : Int).toNat)] (fun _ => True) (fun _ => False) rfl rfl ?aP (fun _ hk => hk.elim) ?aF ?aO ?aB ?aS ?aL ?_; (case aP => exact rfl); (case aB => exact zB); (case aF => exact (fun _ _ => trivial)); (case aO => exact (zR HO_5.out)); (case aS => exact (below_size zB)); (case aL => have := LMc17.out; omega); intro v391 w18 ho hb hg hat; rw [← Ny390.out] at ho; have n0_ := Aside0.mk (hb); have n1_ := Aside0.mk (ho); clear HB; clear HO_5; have HB := n0_; have HO392 := n1_; clear n0_ n1_; clear ho hb hg hat))
        go_roundg k1
        case measure => have := HK1.out; omega
        case rel => exact ⟨(y390), (wrap64 (x7_1 + 1)), (wrap64 (x7_1 + 1)), zF, zF, H', ⟨by have := HK1.out; omega⟩, ⟨zR HO392.out⟩, ⟨zB⟩⟩
       rw [if_neg c17] at H
       exact absurd H (by simp)
      rw [if_neg c15] at H
      exact absurd H (by simp)
     rw [if_neg c14] at H
     exact absurd H (by simp)
    rw [if_neg c13] at H
    have c13b0 : ((bt a0 x7_1) == a1) = false := beq_eq_false_iff_ne.mpr c13
    have c13b1 : ((bt a0 x7_1) != a1) = true := bne_iff_ne.mpr c13
    have H' := Aside0.mk H; clear H
    have p12 : 0 ≤ (x7_1 : Int) := zA
    have q12 : x7_1 < (a0.size : Int) := zA
    have hx12 := bt_at a0 x7_1
    replace p12 := eq_true p12
    replace q12 := eq_true q12
    go_wp2
    go_roundg k1
    case measure => have := HK1.out; omega
    case rel => exact ⟨(x5_1), (x6_1), (wrap64 (x7_1 + 1)), zF, zF, H', ⟨by have := HK1.out; omega⟩, ⟨zR HO_5.out⟩, ⟨zB⟩⟩
   rw [if_neg c11] at H
   exact absurd H (by simp)
  rw [if_neg c10] at H
  exact absurd H (by simp)
 rw [if_neg c3] at H
 have c3b0 : decide (x7_1 ≤ (a0.size : Int)) = false := decide_eq_false c3
 clear c3
 obtain rfl := Option.some.inj H
 go_wp2
 go_ret
 exact ⟨_, zE, zR HO_5.out, zB⟩
/-! ### impl_ParseSigns: function 30 -/
def impl_ParseSigns.j0 : Nat → List ByteArray → Int → Bool → Option (Int × ByteArray × Bool)
 | 0, _, _, _ => none
 | k + 1, x4, x5, x23 => if x23 = true then (some (0, (⟨#[]⟩ : ByteArray), false)) else (if 1 < (x4.length : Int) then ((impl_AreSigns.f k x5 (rdOf ByteArray.empty x4 1)).bind fun t402 => (if t402 = true then (some (x5, rdOf ByteArray.empty x4 1, true)) else (some (0, (⟨#[]⟩ : ByteArray), false)))) else (none))
def impl_ParseSigns.f (k : Nat) (a0 : ByteArray) : Option (Int × ByteArray × Bool) := (impl_SplitByte.f k a0 58).bind fun t394 => (if 0 < (t394.length : Int) then ((impl_ParseNumber.f (rdOf ByteArray.empty t394 0)).bind fun bt398 => (if bt398.2 = true then (impl_ParseSigns.j0 k t394 bt398.1 ((t394.length : Int) != 2)) else (impl_ParseSigns.j0 k t394 bt398.1 true))) else (none))
theorem zl88_0 {p q p0 : Prop} (g : p) (g0 : p0) (h : p → p0 → q := by intro zg_ z0_; repeat (first | (with_reducible first | exact zg_ | apply below_alloc | apply pw_below_drewN | apply below_drew1 | refine below_set ?_ z0_) | exact zg_)) : q := h g g0
set_option maxHeartbeats 8000000 in
set_option maxRecDepth 100000 in
theorem impl_ParseSigns.calls (k : Nat) (a0 : ByteArray) (r1 : Int) (r2 : ByteArray) (r3 : Bool) (w : World) (h : impl_ParseSigns.f k a0 = some (r1, r2, r3)) (hT : T2 w) :
  Calls Tryd.prog 30 #[.string a0] w fun e w' => e = .returned (.tuple #[.agg #[.int .i64 r1, .string r2], .bool r3]) ∧ Below w.heap.size w w' := by
 have HT := Aside0.mk hT
 clear hT
 have hu28 := Tryd.underlying28
 have HB := Aside0.mk (Below.refl w.heap.size w)
 have H : ((impl_SplitByte.f k a0 58).bind fun t394 => (if 0 < (t394.length : Int) then ((impl_ParseNumber.f (rdOf ByteArray.empty t394 0)).bind fun bt398 => (if bt398.2 = true then (impl_ParseSigns.j0 k t394 bt398.1 ((t394.length : Int) != 2)) else (impl_ParseSigns.j0 k t394 bt398.1 true))) else (none))) = some (r1, r2, r3) := h
 clear h
 obtain ⟨t394, A2, H⟩ := zO H
 by_cases c3 : 0 < (t394.length : Int)
 ·rw [if_pos c3] at H
  have c3b0 : decide (0 < (t394.length : Int)) = true := decide_eq_true c3
  have c3b1 : decide (0 < t394.length) = true := decide_eq_true (by omega)
  clear c3
  obtain ⟨⟨t398, t399⟩, A4, H⟩ := zO H
  dsimp only at H
  have HC5 := Aside0.mk H
  clear H
  go_enter Tryd.func30, Tryd.ntmps30
  go_upto_region 3 with (first | ((with_reducible refine gate_dst (N := 2) rfl ?_); (try (refine gate_guard (by rfl) ?_; dsimp only)); refine zBx (N := 2) #[.int .i64 0, .string (⟨#[]⟩ : ByteArray)] 28 ?_; intro gb393 hg w6 hbox hb; have BK393 := Aside0.mk (hbox); have GW393 := zS hg; have GE393 := zS hg; replace HB := zX hb; clear hb hbox hg) | ((with_reducible refine gate_callee (f := 52) rfl ?_); refine zD (some 9) Tryd.func52 #[.string a0, .int .u8 58] ?_; (with_reducible refine (impl_SplitByte.calls k a0 58 t394 _ A2.out).mono ?_); rintro e w7 ⟨v395, rfl, ho0, hb⟩; refine ⟨_, rfl, ?_⟩; have HO396 := Aside0.mk (Kd.R_lower ho0 (below_size (zG GE393.out))); replace BK393 := zV BK393.out hb; replace HB := zX1 GE393.out hb; (try clear hb); (try clear ho0); obtain ⟨Ao8, co8, eo8⟩ := Kd.R_slice HO396.out; subst eo8; have p397 : 0 ≤ (0 : Int) := (by omega); have q397 : 0 < (t394.length : Int) := zA; obtain ⟨ad397, e397, hx397_0⟩ := Kd.at_string (Kd.R_reads' HO396.out).2.2 0 p397 q397; cases e397; have qi397 : (0 < t394.length) = True := eq_true (by omega); (try rw [show ((0 : Int)).toNat = 0 from rfl] at hx397_0); (try rw [Addr.add_zero'] at hx397_0); replace p397 := eq_true p397; replace q397 := eq_true q397) | ((with_reducible refine gate_callee (f := 25) rfl ?_); refine zD (some 14) Tryd.func25 #[.string (rdOf ByteArray.empty t394 0)] ?_; (with_reducible refine (impl_ParseNumber.calls (rdOf ByteArray.empty t394 0) t398 t399 _ A4.out (HT.out.below ?sideT)).mono ?_); (case sideT => exact (zl88_0 HB.out GE393.out)); rintro e w9 ⟨rfl, hb⟩; refine ⟨_, rfl, ?_⟩; replace HO396 := zW HO396.out hb; replace BK393 := zV BK393.out hb; replace HB := zX1 GE393.out hb; (try clear hb)))
  (try simp only [Act.put, List.setIfInBounds_toArray, List.set_cons_zero, List.set_cons_succ])
  go_cut [23] (fun v23 wc => ∃ (kq : Nat) (x23_4 : Bool), v23 = .bool x23_4 ∧ Aside0 (impl_ParseSigns.j0 kq t394 t398 x23_4 = some (r1, r2, r3)) ∧ Aside0 (kq ≤ k) ∧ Aside0 (Kd.R Kd.string 9 wc w.heap.size (fun _ => True) (.slice (some ad397) t394.length co8) t394) ∧ Aside0 (wc.heap[gb393]? = some (.cells #[.int .i64 0, .string (⟨#[]⟩ : ByteArray)] 28 (0, 0))) ∧ Aside0 (Below w.heap.size w wc))
  case first =>
   have H := HC5.out
   clear HC5
   by_cases c10 : t399 = true
   ·subst c10
    replace H := (if_pos rfl).symm.trans H
    have H' := Aside0.mk H; clear H
    go_wp2
    go_meet
    case rel => exact ⟨_, (((t394.length : Int) != 2)), zF, H', ⟨by first | omega | exact Nat.le_refl _⟩, ⟨zR HO396.out⟩, ⟨zK BK393.out⟩, ⟨zG GE393.out⟩⟩
   replace c10 := Bool.eq_false_iff.mpr c10
   subst c10
   replace H := (if_neg zFf).symm.trans H
   have H' := Aside0.mk H; clear H
   go_wp2
   go_meet
   case rel => exact ⟨_, (true), zF, H', ⟨by first | omega | exact Nat.le_refl _⟩, ⟨zR HO396.out⟩, ⟨zK BK393.out⟩, ⟨zG GE393.out⟩⟩
  case rest =>
  clear HC5
  try clear c3
  try clear c3b0
  try clear c3b1
  try clear hx397_0
  try clear p397
  try clear q397
  obtain ⟨kq, x23_4, rfl, HA, HJ4, HO_4, BK393, HB⟩ := hcut
  cases kq with
  | zero => exact absurd HA.out (by simp [impl_ParseSigns.j0])
  | succ kj4 =>
  have H := HA.out
  clear HA
  simp only [impl_ParseSigns.j0] at H
  by_cases c11 : x23_4 = true
  ·subst c11
   replace H := (if_pos rfl).symm.trans H
   simp only [Option.some.injEq, Prod.mk.injEq] at H
   obtain ⟨rfl, rfl, rfl⟩ := H
   obtain ⟨hcz12_0, hcz12_1, hfz12_0, hfz12_1⟩ := zq2 BK393.out
   go_wp2
   refine bodyPost_ret (results_ct rfl _ _ gb393 28 #[.int .i64 0, .string (⟨#[]⟩ : ByteArray)] (0, 0) _ rfl (zk0 BK393.out) Tryd.underlying28 rfl (by kernel_rfl)) rfl ?_
   exact ⟨zE, zG GE393.out⟩
  replace c11 := Bool.eq_false_iff.mpr c11
  subst c11
  replace H := (if_neg zFf).symm.trans H
  by_cases c13 : 1 < (t394.length : Int)
  ·rw [if_pos c13] at H
   have c13b0 : decide (1 < (t394.length : Int)) = true := decide_eq_true c13
   have c13b1 : decide (1 < t394.length) = true := decide_eq_true (by omega)
   clear c13
   obtain ⟨t402, A14, H⟩ := zO H
   by_cases c15 : t402 = true
   ·subst c15
    replace H := (if_pos rfl).symm.trans H
    simp only [Option.some.injEq, Prod.mk.injEq] at H
    obtain ⟨rfl, rfl, rfl⟩ := H
    have p400 : 0 ≤ (1 : Int) := (by omega)
    have q400 : 1 < (t394.length : Int) := zA
    obtain ⟨ad400, e400, hx400_0⟩ := Kd.at_string (Kd.R_reads' HO_4.out).2.2 1 p400 q400
    obtain rfl : ad397 = ad400 := (by injection e400)
    (try simp only [show (1 : Int).toNat = 1 from rfl, Nat.reduceMul, Nat.reduceEqDiff, Go.Addr.add, ↓reduceIte] at hx400_0)
    have qi400 : (1 < t394.length) = True := eq_true (by omega)
    (try rw [show ((1 : Int)).toNat = 1 from rfl] at hx400_0)
    replace p400 := eq_true p400
    replace q400 := eq_true q400
    go_wp2_with (first | ((with_reducible refine gate_dst (N := 7) rfl ?_); (try (refine gate_guard (by rfl) ?_; dsimp only)); refine zBx (N := 7) #[.int .i64 0, .string (⟨#[]⟩ : ByteArray)] 28 ?_; intro gb401 hg w16 hbox hb; replace HO_4 := zW HO_4.out hb; have BK401 := Aside0.mk (hbox); have GW401 := zSg hg (zG GE393.out); have GE401 := zSg hg (zG GE393.out); have NB393_401 := zL hg BK393.out; have NB401_393 := zLg hg BK393.out; replace BK393 := zV BK393.out hb; replace HB := zX1 GE393.out hb; clear hb hbox hg; have hnb17 := NB401_393.out; have hnc17 := NB393_401.out; obtain ⟨hcz18_0, hcz18_1, hfz18_0, hfz18_1⟩ := zq2 BK401.out) | ((with_reducible refine gate_callee (f := 38) rfl ?_); refine zD (some 31) Tryd.func38 #[.agg #[.int .i64 t398, .string (rdOf ByteArray.empty t394 1)]] ?_; (with_reducible refine (impl_AreSigns.calls kj4 t398 (rdOf ByteArray.empty t394 1) true _ A14.out).mono ?_); rintro e w19 ⟨rfl, hb⟩; refine ⟨_, rfl, ?_⟩; replace HO_4 := Aside0.mk (Kd.R_below (by (with_reducible repeat (first | apply Kd.R_alloc | apply Kd.R_drewN | apply Kd.R_drew)); exact (Kd.R_mono (Kd.R_far (p := ⟨gb401, 1, none⟩) (Kd.R_far (p := ⟨gb401, 0, none⟩) (Kd.R_types HO_4.out BK401.out (by decide)) (fun _ hk => hk.2) (.int .i64 t398)) (fun _ hk => hk.2) (.string (rdOf ByteArray.empty t394 1))) (fun _ h_ => h_.1))) hb); replace BK393 := Aside0.mk (blk_below (g := gb393) (o := .cells #[.int .i64 0, .string (⟨#[]⟩ : ByteArray)] 28 (0, 0)) (zk2 BK393.out NB393_401.out NB393_401.out) hb); replace BK401 := Aside0.mk (blk_below (g := gb401) (o := .cells #[.int .i64 t398, .string (rdOf ByteArray.empty t394 1)] 28 (0, 0)) (zk0 BK401.out) hb); replace HB := Aside0.mk (below_step (zG2 GE393.out GE401.out) hb); (try clear hb); obtain ⟨hcz20_0, hcz20_1, hfz20_0, hfz20_1⟩ := zq2 BK401.out; obtain ⟨hcz21_0, hcz21_1, hfz21_0, hfz21_1⟩ := zq2 BK393.out))
    refine bodyPost_ret (results_ct rfl _ _ gb393 28 #[.int .i64 t398, .string (rdOf ByteArray.empty t394 1)] (0, 0) _ rfl (zk0 BK393.out) Tryd.underlying28 rfl (by kernel_rfl)) rfl ?_
    exact ⟨zE, zG2 GE393.out GE401.out⟩
   replace c15 := Bool.eq_false_iff.mpr c15
   subst c15
   replace H := (if_neg zFf).symm.trans H
   simp only [Option.some.injEq, Prod.mk.injEq] at H
   obtain ⟨rfl, rfl, rfl⟩ := H
   have p400 : 0 ≤ (1 : Int) := (by omega)
   have q400 : 1 < (t394.length : Int) := zA
   obtain ⟨ad400, e400, hx400_0⟩ := Kd.at_string (Kd.R_reads' HO_4.out).2.2 1 p400 q400
   obtain rfl : ad397 = ad400 := (by injection e400)
   (try simp only [show (1 : Int).toNat = 1 from rfl, Nat.reduceMul, Nat.reduceEqDiff, Go.Addr.add, ↓reduceIte] at hx400_0)
   have qi400 : (1 < t394.length) = True := eq_true (by omega)
   (try rw [show ((1 : Int)).toNat = 1 from rfl] at hx400_0)
   replace p400 := eq_true p400
   replace q400 := eq_true q400
   go_wp2_with (first | ((with_reducible refine gate_dst (N := 7) rfl ?_); (try (refine gate_guard (by rfl) ?_; dsimp only)); refine zBx (N := 7) #[.int .i64 0, .string (⟨#[]⟩ : ByteArray)] 28 ?_; intro gb401 hg w22 hbox hb; replace HO_4 := zW HO_4.out hb; have BK401 := Aside0.mk (hbox); have GW401 := zSg hg (zG GE393.out); have GE401 := zSg hg (zG GE393.out); have NB393_401 := zL hg BK393.out; have NB401_393 := zLg hg BK393.out; replace BK393 := zV BK393.out hb; replace HB := zX1 GE393.out hb; clear hb hbox hg; have hnb23 := NB401_393.out; have hnc23 := NB393_401.out; obtain ⟨hcz24_0, hcz24_1, hfz24_0, hfz24_1⟩ := zq2 BK401.out) | ((with_reducible refine gate_callee (f := 38) rfl ?_); refine zD (some 31) Tryd.func38 #[.agg #[.int .i64 t398, .string (rdOf ByteArray.empty t394 1)]] ?_; (with_reducible refine (impl_AreSigns.calls kj4 t398 (rdOf ByteArray.empty t394 1) false _ A14.out).mono ?_); rintro e w25 ⟨rfl, hb⟩; refine ⟨_, rfl, ?_⟩; replace HO_4 := Aside0.mk (Kd.R_below (by (with_reducible repeat (first | apply Kd.R_alloc | apply Kd.R_drewN | apply Kd.R_drew)); exact (Kd.R_mono (Kd.R_far (p := ⟨gb401, 1, none⟩) (Kd.R_far (p := ⟨gb401, 0, none⟩) (Kd.R_types HO_4.out BK401.out (by decide)) (fun _ hk => hk.2) (.int .i64 t398)) (fun _ hk => hk.2) (.string (rdOf ByteArray.empty t394 1))) (fun _ h_ => h_.1))) hb); replace BK393 := Aside0.mk (blk_below (g := gb393) (o := .cells #[.int .i64 0, .string (⟨#[]⟩ : ByteArray)] 28 (0, 0)) (zk2 BK393.out NB393_401.out NB393_401.out) hb); replace BK401 := Aside0.mk (blk_below (g := gb401) (o := .cells #[.int .i64 t398, .string (rdOf ByteArray.empty t394 1)] 28 (0, 0)) (zk0 BK401.out) hb); replace HB := Aside0.mk (below_step (zG2 GE393.out GE401.out) hb); (try clear hb); obtain ⟨hcz26_0, hcz26_1, hfz26_0, hfz26_1⟩ := zq2 BK393.out))
   refine bodyPost_ret (results_ct rfl _ _ gb393 28 #[.int .i64 0, .string (⟨#[]⟩ : ByteArray)] (0, 0) _ rfl (zk0 BK393.out) Tryd.underlying28 rfl (by kernel_rfl)) rfl ?_
   exact ⟨zE, zG2 GE393.out GE401.out⟩
  rw [if_neg c13] at H
  exact absurd H (by simp)
 rw [if_neg c3] at H
 exact absurd H (by simp)
/-! ### laws_eqSigns: function 31 -/
def laws_eqSigns.f (a0_0 : Int) (a0_1 : ByteArray) (a1_0 : Int) (a1_1 : ByteArray) : Option (Bool) := if a0_0 = a1_0 then (if a0_1.toList = a1_1.toList then (some true) else (some false)) else (some false)
set_option maxHeartbeats 8000000 in
set_option maxRecDepth 100000 in
theorem laws_eqSigns.calls (a0_0 : Int) (a0_1 : ByteArray) (a1_0 : Int) (a1_1 : ByteArray) (r : Bool) (w : World) (h : laws_eqSigns.f a0_0 a0_1 a1_0 a1_1 = some r) :
  Calls Tryd.prog 31 #[.agg #[.int .i64 a0_0, .string a0_1], .agg #[.int .i64 a1_0, .string a1_1]] w fun e w' => e = .returned (.bool r) ∧ Below w.heap.size w w' := by
 have hu28 := Tryd.underlying28
 have HB := Aside0.mk (Below.refl w.heap.size w)
 have H : (if a0_0 = a1_0 then (if a0_1.toList = a1_1.toList then (some true) else (some false)) else (some false)) = some r := h
 clear h
 by_cases c3 : a0_0 = a1_0
 ·rw [if_pos c3] at H
  have c3b0 : (a0_0 == a1_0) = true := beq_iff_eq.mpr c3
  have c3b1 : (a0_0 != a1_0) = false := bne_eq_false_iff_eq.mpr c3
  clear c3
  by_cases c4 : a0_1.toList = a1_1.toList
  ·rw [if_pos c4] at H
   have c4b0 : (a0_1.toList == a1_1.toList) = true := beq_iff_eq.mpr c4
   have c4b1 : (a0_1.toList != a1_1.toList) = false := bne_eq_false_iff_eq.mpr c4
   clear c4
   obtain rfl := Option.some.inj H
   go_enter Tryd.func31, Tryd.ntmps31
   go_wp2_with (first | ((with_reducible refine gate_dst (N := 2) rfl ?_); refine zBx (N := 2) #[.int .i64 a0_0, .string a0_1] 28 ?_; intro gb403 hg w5 hbox hb; have BK403 := Aside0.mk (hbox); have GW403 := zS hg; have GE403 := zS hg; replace HB := zX hb; clear hb hbox hg) | ((with_reducible refine gate_dst (N := 3) rfl ?_); refine zBx (N := 3) #[.int .i64 a1_0, .string a1_1] 28 ?_; intro gb404 hg w6 hbox hb; have BK404 := Aside0.mk (hbox); have GW404 := zSg hg (zG GE403.out); have GE404 := zSg hg (zG GE403.out); have NB403_404 := zL hg BK403.out; have NB404_403 := zLg hg BK403.out; replace BK403 := zV BK403.out hb; replace HB := zX1 GE403.out hb; clear hb hbox hg; have hnb7 := NB403_404.out; have hnc7 := NB404_403.out; obtain ⟨hcz8_0, hcz8_1, hfz8_0, hfz8_1⟩ := zq2 BK403.out; obtain ⟨hcz9_0, hcz9_1, hfz9_0, hfz9_1⟩ := zq2 BK404.out))
   go_ret
   exact ⟨zE, zG2 GE403.out GE404.out⟩
  rw [if_neg c4] at H
  have c4b0 : (a0_1.toList == a1_1.toList) = false := beq_eq_false_iff_ne.mpr c4
  have c4b1 : (a0_1.toList != a1_1.toList) = true := bne_iff_ne.mpr c4
  obtain rfl := Option.some.inj H
  go_enter Tryd.func31, Tryd.ntmps31
  go_wp2_with (first | ((with_reducible refine gate_dst (N := 2) rfl ?_); refine zBx (N := 2) #[.int .i64 a0_0, .string a0_1] 28 ?_; intro gb403 hg w10 hbox hb; have BK403 := Aside0.mk (hbox); have GW403 := zS hg; have GE403 := zS hg; replace HB := zX hb; clear hb hbox hg) | ((with_reducible refine gate_dst (N := 3) rfl ?_); refine zBx (N := 3) #[.int .i64 a1_0, .string a1_1] 28 ?_; intro gb404 hg w11 hbox hb; have BK404 := Aside0.mk (hbox); have GW404 := zSg hg (zG GE403.out); have GE404 := zSg hg (zG GE403.out); have NB403_404 := zL hg BK403.out; have NB404_403 := zLg hg BK403.out; replace BK403 := zV BK403.out hb; replace HB := zX1 GE403.out hb; clear hb hbox hg; have hnb12 := NB403_404.out; have hnc12 := NB404_403.out; obtain ⟨hcz13_0, hcz13_1, hfz13_0, hfz13_1⟩ := zq2 BK403.out; obtain ⟨hcz14_0, hcz14_1, hfz14_0, hfz14_1⟩ := zq2 BK404.out))
  go_ret
  exact ⟨zE, zG2 GE403.out GE404.out⟩
 rw [if_neg c3] at H
 have c3b0 : (a0_0 == a1_0) = false := beq_eq_false_iff_ne.mpr c3
 have c3b1 : (a0_0 != a1_0) = true := bne_iff_ne.mpr c3
 obtain rfl := Option.some.inj H
 go_enter Tryd.func31, Tryd.ntmps31
 go_wp2_with (first | ((with_reducible refine gate_dst (N := 2) rfl ?_); refine zBx (N := 2) #[.int .i64 a0_0, .string a0_1] 28 ?_; intro gb403 hg w15 hbox hb; have BK403 := Aside0.mk (hbox); have GW403 := zS hg; have GE403 := zS hg; replace HB := zX hb; clear hb hbox hg) | ((with_reducible refine gate_dst (N := 3) rfl ?_); refine zBx (N := 3) #[.int .i64 a1_0, .string a1_1] 28 ?_; intro gb404 hg w16 hbox hb; have BK404 := Aside0.mk (hbox); have GW404 := zSg hg (zG GE403.out); have GE404 := zSg hg (zG GE403.out); have NB403_404 := zL hg BK403.out; have NB404_403 := zLg hg BK403.out; replace BK403 := zV BK403.out hb; replace HB := zX1 GE403.out hb; clear hb hbox hg; have hnb17 := NB403_404.out; have hnc17 := NB404_403.out; obtain ⟨hcz18_0, hcz18_1, hfz18_0, hfz18_1⟩ := zq2 BK403.out; obtain ⟨hcz19_0, hcz19_1, hfz19_0, hfz19_1⟩ := zq2 BK404.out))
 go_ret
 exact ⟨zE, zG2 GE403.out GE404.out⟩
/-! ### laws_FnExactParseSigns: function 9 -/
def laws_FnExactParseSigns.f (k : Nat) (a0 : ByteArray) : Option (Bool) := if (a0.size : Int) > 1048576 then (some true) else ((spec_ParseSigns.f k a0).bind fun bt405 => ((impl_ParseSigns.f k a0).bind fun bt409 => ((laws_eqSigns.f bt409.1 bt409.2.1 bt405.1 bt405.2.1).bind fun t413 => (if t413 = true then (if (bt409.2.2 != bt405.2.2) = true then (some false) else (some true)) else (some false)))))
theorem zl90_0 {p q p0 : Prop} (g : p) (g0 : p0) (h : p → p0 → q := by intro zg_ z0_; repeat (first | (with_reducible first | exact zg_ | apply below_alloc | apply pw_below_drewN | apply below_drew1 | refine below_set ?_ z0_) | exact zg_)) : q := h g g0
set_option maxHeartbeats 8000000 in
set_option maxRecDepth 100000 in
theorem laws_FnExactParseSigns.calls (k : Nat) (a0 : ByteArray) (r : Bool) (w : World) (h : laws_FnExactParseSigns.f k a0 = some r) (hr_ : r = true) (hT : T2 w) :
  Calls Tryd.prog 9 #[.string a0] w fun e w' => e = .returned (.bool r) ∧ Below w.heap.size w w' := by
 have HT := Aside0.mk hT
 clear hT
 have hu28 := Tryd.underlying28
 have HB := Aside0.mk (Below.refl w.heap.size w)
 have H : (if (a0.size : Int) > 1048576 then (some true) else ((spec_ParseSigns.f k a0).bind fun bt405 => ((impl_ParseSigns.f k a0).bind fun bt409 => ((laws_eqSigns.f bt409.1 bt409.2.1 bt405.1 bt405.2.1).bind fun t413 => (if t413 = true then (if (bt409.2.2 != bt405.2.2) = true then (some false) else (some true)) else (some false)))))) = some r := h
 clear h
 by_cases c2 : (a0.size : Int) > 1048576
 ·rw [if_pos c2] at H
  have c2b0 : decide (1048576 < (a0.size : Int)) = true := decide_eq_true c2
  have c2b1 : decide (1048576 < a0.size) = true := decide_eq_true (by omega)
  clear c2
  obtain rfl := Option.some.inj H
  go_enter Tryd.func9, Tryd.ntmps9
  go_wp2
  go_ret
  exact ⟨zE, zB⟩
 rw [if_neg c2] at H
 have c2b0 : decide (1048576 < (a0.size : Int)) = false := decide_eq_false c2
 have c2b1 : decide (1048576 < a0.size) = false := decide_eq_false (by omega)
 clear c2
 obtain ⟨⟨t405, t406, t407⟩, A3, H⟩ := zO H
 dsimp only at H
 obtain ⟨⟨t409, t410, t411⟩, A4, H⟩ := zO H
 dsimp only at H
 obtain ⟨t413, A5, H⟩ := zO H
 by_cases c6 : t413 = true
 ·subst c6
  replace H := (if_pos rfl).symm.trans H
  by_cases c7 : (t411 != t407) = true
  ·rw [if_pos c7] at H
   have c7b0 : (t411 != t407) = true := c7
   (try (have c7b1 : decide (t411 = t407) = false := by simpa using c7))
   (try (have c7b2 : (t411 == t407) = false := by simpa using c7))
   (try (have c7b3 : ¬ (t411 = t407) := by simpa using c7))
   clear c7
   obtain rfl := Option.some.inj H
   cases hr_
  rw [if_neg c7] at H
  have c7b0 : (t411 != t407) = false := by simpa using c7
  (try (have c7b1 : decide (t411 = t407) = true := by simpa using c7))
  (try (have c7b2 : (t411 == t407) = true := by simpa using c7))
  clear c7
  obtain rfl := Option.some.inj H
  go_enter Tryd.func9, Tryd.ntmps9
  go_wp2_with (first | ((with_reducible refine gate_callee (f := 29) rfl ?_); refine zD (some 12) Tryd.func29 #[.string a0] ?_; (with_reducible refine (spec_ParseSigns.calls k a0 t405 t406 t407 _ A3.out).mono ?_); rintro e w17 ⟨rfl, hb⟩; refine ⟨_, rfl, ?_⟩; replace HB := zX hb; (try clear hb)) | ((with_reducible refine gate_dst (N := 3) rfl ?_); refine zBx (N := 3) #[.int .i64 0, .string (⟨#[]⟩ : ByteArray)] 28 ?_; intro gb408 hg w18 hbox hb; have BK408 := Aside0.mk (hbox); have GW408 := zS hg; have GE408 := zS hg; replace HB := zX hb; clear hb hbox hg; obtain ⟨hcz19_0, hcz19_1, hfz19_0, hfz19_1⟩ := zq2 BK408.out) | ((with_reducible refine gate_callee (f := 30) rfl ?_); refine zD (some 17) Tryd.func30 #[.string a0] ?_; (with_reducible refine (impl_ParseSigns.calls k a0 t409 t410 t411 _ A4.out (HT.out.below ?sideT)).mono ?_); (case sideT => exact (zl90_0 HB.out GE408.out)); rintro e w20 ⟨rfl, hb⟩; refine ⟨_, rfl, ?_⟩; replace BK408 := Aside0.mk (blk_below (g := gb408) (o := .cells #[.int .i64 t405, .string t406] 28 (0, 0)) (zk0 BK408.out) hb); replace HB := zX1 GE408.out hb; (try clear hb)) | ((with_reducible refine gate_dst (N := 5) rfl ?_); refine zBx (N := 5) #[.int .i64 0, .string (⟨#[]⟩ : ByteArray)] 28 ?_; intro gb412 hg w21 hbox hb; have BK412 := Aside0.mk (hbox); have GW412 := zSg hg (zG GE408.out); have GE412 := zSg hg (zG GE408.out); have NB408_412 := zL hg BK408.out; have NB412_408 := zLg hg BK408.out; replace BK408 := zV BK408.out hb; replace HB := zX1 GE408.out hb; clear hb hbox hg; have hnb22 := NB412_408.out; have hnc22 := NB408_412.out; obtain ⟨hcz23_0, hcz23_1, hfz23_0, hfz23_1⟩ := zq2 BK412.out; obtain ⟨hcz24_0, hcz24_1, hfz24_0, hfz24_1⟩ := zq2 BK408.out) | ((with_reducible refine gate_callee (f := 31) rfl ?_); refine zD (some 22) Tryd.func31 #[.agg #[.int .i64 t409, .string t410], .agg #[.int .i64 t405, .string t406]] ?_; (with_reducible refine (laws_eqSigns.calls t409 t410 t405 t406 true _ A5.out).mono ?_); rintro e w25 ⟨rfl, hb⟩; refine ⟨_, rfl, ?_⟩; replace BK408 := Aside0.mk (blk_below (g := gb408) (o := .cells #[.int .i64 t405, .string t406] 28 (0, 0)) (zk2 BK408.out NB408_412.out NB408_412.out) hb); replace BK412 := Aside0.mk (blk_below (g := gb412) (o := .cells #[.int .i64 t409, .string t410] 28 (0, 0)) (zk0 BK412.out) hb); replace HB := Aside0.mk (below_step (zG2 GE408.out GE412.out) hb); (try clear hb)))
  go_ret
  exact ⟨zE, zG2 GE408.out GE412.out⟩
 replace c6 := Bool.eq_false_iff.mpr c6
 subst c6
 replace H := (if_neg zFf).symm.trans H
 obtain rfl := Option.some.inj H
 cases hr_
end Go.Proofs.YthhgcdfdjlijjaaDoor.PX
namespace Go.Proofs.YthhgcdfdjlijjaaDoor.M
open Go.RowKit Go.Proofs.YthhgcdfdjlijjaaDoorW.PrintWords Go.Proofs.YthhgcdfdjlijjaaDoor.PX
theorem impl_are_loop (n : Int) (t : ByteArray) (hs : t.data.toList.length ≤ 9223372036854775807) (d : Nat) : ∀ i : Nat, i + d = t.data.toList.length → Ev (fun k => impl_AreSigns.l0 k (i : Int) n t) ((t.data.toList.drop i).all isSg) := by
  induction d with
  | zero =>
    intro i hi
    rw [List.drop_of_length_le (by omega)]
    refine ev_step ?_
    simp only [impl_AreSigns.l0]
    exact ev_neg (by rw [size_list]; omega) (Ev.now _)
  | succ d ih =>
    intro i hi
    have hlt : i < t.data.toList.length := by omega
    rw [List.drop_eq_getElem_cons hlt, List.all_cons]
    refine ev_step ?_
    simp only [impl_AreSigns.l0]
    refine ev_pos (by rw [size_list]; omega) (ev_pos (by omega) ?_)
    rw [bt_nat hlt, wrap_id (by omega) (by omega)]
    have hn := ih (i + 1) (by omega)
    by_cases h1 : t.data.toList[i] = 43
    · refine ev_pos ((u8_43 _).2 h1) ?_
      rw [show isSg t.data.toList[i] = true by simp [isSg, h1], Bool.true_and]
      exact hn
    · refine ev_neg (fun h => h1 ((u8_43 _).1 h)) ?_
      by_cases h2 : t.data.toList[i] = 45
      · refine ev_pos ((u8_45 _).2 h2) ?_
        rw [show isSg t.data.toList[i] = true by simp [isSg, h2], Bool.true_and]
        exact hn
      · refine ev_neg (fun h => h2 ((u8_45 _).1 h)) ?_
        rw [show isSg t.data.toList[i] = false by unfold isSg; rw [decide_eq_false h1, decide_eq_false h2]; rfl, Bool.false_and]
        exact Ev.now _
theorem impl_are (n : Int) (t : ByteArray) (hs : t.size ≤ 9223372036854775807) : Ev (fun k => impl_AreSigns.f k n t) (areOk n t) := by
  rw [size_list] at hs
  unfold impl_AreSigns.f areOk
  have hj : ∀ r, Ev (fun k => impl_AreSigns.j0 k true n t) r ↔ r = false := fun r => by
    constructor
    · rintro ⟨K, hK⟩
      have := hK (K + 1) (by omega)
      simp only [impl_AreSigns.j0, if_true] at this
      exact (Option.some.inj this).symm
    · rintro rfl
      refine ev_step ?_
      simp only [impl_AreSigns.j0]
      exact ev_pos (by trivial) (Ev.now _)
  by_cases h0 : n < 3
  · refine ev_pos h0 ((hj _).2 ?_)
    simp; omega
  · refine ev_neg h0 ?_
    by_cases h1 : n > 7
    · refine ev_pos h1 ((hj _).2 ?_)
      simp; omega
    · refine ev_neg h1 ?_
      refine ev_step ?_
      simp only [impl_AreSigns.j0]
      rw [show decide (3 ≤ n) = true from decide_eq_true (by omega), show decide (n ≤ 7) = true from decide_eq_true (by omega), Bool.true_and, Bool.true_and]
      by_cases h2 : (t.size : Int) = cntW n
      · refine ev_neg (by simp only [bne_iff_ne, ne_eq, Decidable.not_not]; exact h2) ?_
        rw [decide_eq_true h2, Bool.true_and]
        exact impl_are_loop n t hs t.data.toList.length 0 (by omega)
      · refine ev_pos (by simp only [bne_iff_ne, ne_eq]; exact h2) ?_
        rw [decide_eq_false h2, Bool.false_and]
        exact Ev.now _
theorem spec_are_loop (n : Int) (t : ByteArray) (hs : t.data.toList.length ≤ 9223372036854775807) (d : Nat) : ∀ i : Nat, i + d = t.data.toList.length → Ev (fun k => spec_AreSigns.l0 k (i : Int) n t) ((t.data.toList.drop i).all isSg) := by
  induction d with
  | zero =>
    intro i hi
    rw [List.drop_of_length_le (by omega)]
    refine ev_step ?_
    simp only [spec_AreSigns.l0]
    exact ev_neg (by rw [size_list]; omega) (Ev.now _)
  | succ d ih =>
    intro i hi
    have hlt : i < t.data.toList.length := by omega
    rw [List.drop_eq_getElem_cons hlt, List.all_cons]
    refine ev_step ?_
    simp only [spec_AreSigns.l0]
    refine ev_pos (by rw [size_list]; omega) (ev_pos (by omega) ?_)
    rw [bt_nat hlt, wrap_id (by omega) (by omega)]
    have hn := ih (i + 1) (by omega)
    by_cases h1 : t.data.toList[i] = 43
    · refine ev_pos ((u8_43 _).2 h1) ?_
      rw [show isSg t.data.toList[i] = true by simp [isSg, h1], Bool.true_and]
      exact hn
    · refine ev_neg (fun h => h1 ((u8_43 _).1 h)) ?_
      by_cases h2 : t.data.toList[i] = 45
      · refine ev_pos ((u8_45 _).2 h2) ?_
        rw [show isSg t.data.toList[i] = true by simp [isSg, h2], Bool.true_and]
        exact hn
      · refine ev_neg (fun h => h2 ((u8_45 _).1 h)) ?_
        rw [show isSg t.data.toList[i] = false by unfold isSg; rw [decide_eq_false h1, decide_eq_false h2]; rfl, Bool.false_and]
        exact Ev.now _
theorem spec_in (x lo hi : Int) : spec_l1In.f x lo hi = some (decide (lo ≤ x) && decide (x ≤ hi)) := by
  unfold spec_l1In.f
  by_cases h : x ≥ lo
  · rw [if_pos h, show decide (lo ≤ x) = true from decide_eq_true h, Bool.true_and]
  · rw [if_neg h, show decide (lo ≤ x) = false from decide_eq_false h, Bool.false_and]
theorem spec_are (n : Int) (t : ByteArray) (hs : t.size ≤ 9223372036854775807) : Ev (fun k => spec_AreSigns.f k n t) (areOk n t) := by
  rw [size_list] at hs
  unfold spec_AreSigns.f areOk
  refine ev_call (spec_in n 3 7) ?_
  by_cases h0 : (decide (3 ≤ n) && decide (n ≤ 7)) = true
  · refine ev_pos h0 ?_
    rw [h0, Bool.true_and]
    refine ev_step ?_
    simp only [spec_AreSigns.j0]
    by_cases h2 : (t.size : Int) = cntW n
    · refine ev_neg (by simp only [bne_iff_ne, ne_eq, Decidable.not_not]; exact h2) ?_
      rw [decide_eq_true h2, Bool.true_and]
      exact spec_are_loop n t hs t.data.toList.length 0 (by omega)
    · refine ev_pos (by simp only [bne_iff_ne, ne_eq]; exact h2) ?_
      rw [decide_eq_false h2, Bool.false_and]
      exact Ev.now _
  · refine ev_neg h0 ?_
    rw [Bool.eq_false_iff.mpr h0, Bool.false_and, Bool.false_and]
    refine ev_step ?_
    simp only [spec_AreSigns.j0]
    exact ev_pos (by trivial) (Ev.now _)
end Go.Proofs.YthhgcdfdjlijjaaDoor.M
namespace Go.Proofs.YthhgcdfdjlijjaaDoor.M
open Go.RowKit Go.Proofs.YthhgcdfdjlijjaaDoorW.PrintWords Go.Proofs.YthhgcdfdjlijjaaDoor.PX
def splitG (t : ByteArray) (by_ : Int) (s : List ByteArray × Nat) (i : Nat) : List ByteArray × Nat := if i = t.size ∨ bt t (i : Int) = by_ then (s.1 ++ [t.extract s.2 i], i + 1) else s
def splitP (t : ByteArray) (by_ : Int) : List ByteArray := ((List.range' 0 (t.size + 1)).foldl (splitG t by_) ([], 0)).1
theorem splitG_ok {t : ByteArray} {by_ : Int} {s : List ByteArray × Nat} {i : Nat} (h : s.1.length ≤ i ∧ s.2 ≤ i) : (splitG t by_ s i).1.length ≤ i + 1 ∧ (splitG t by_ s i).2 ≤ i + 1 := by
  unfold splitG
  split
  · simp only [List.length_append, List.length_singleton]; omega
  · omega
theorem impl_splitB (t : ByteArray) (by_ : Int) (ht : t.size ≤ 1048576) : Ev (fun k => impl_SplitByte.f k t by_) (splitP t by_) := by
  unfold impl_SplitByte.f
  have key := loop_up' (σ := List ByteArray × Nat) (ρ := List ByteArray) (lo := 0) (n := t.size + 1) (K := fun s _ => some s.1) (L := fun x s k => impl_SplitByte.l0 k t by_ s.1 (s.2 : Int) x) (fun x s => s.1.length ≤ x ∧ s.2 ≤ x)
    (fun s x => .ok (splitG t by_ s x)) (fun s _ => ?_) (fun x _ hx s hs => ?_) (fun x _ hx s hs s' e => ?_) (by omega) ([], 0) ⟨Nat.le_refl _, Nat.le_refl _⟩
  · rw [foldlM_ok, Nat.sub_zero] at key
    exact key _ (Ev.now _)
  · refine Goes.step ?_
    simp only [impl_SplitByte.l0]
    exact Goes.neg (by omega) (Goes.ok (K := fun s _ => some s.1) s)
  · have cut : Goes (.ok (s.1 ++ [t.extract s.2 x], x + 1)) (fun (s : List ByteArray × Nat) k => impl_SplitByte.l0 k t by_ s.1 (s.2 : Int) ((x + 1 : Nat) : Int))
        (fun k => if 0 ≤ (s.2 : Int) then (if (s.2 : Int) ≤ (x : Int) then (if s.1.length < 8796093022208 then (impl_SplitByte.l0 k t by_ (s.1 ++ [t.extract (s.2 : Int).toNat (x : Int).toNat]) (wrap64 ((x : Int) + 1)) (wrap64 ((x : Int) + 1))) else none) else none) else none) := by
      rw [wrap_id (x := (x : Int) + 1) (by omega) (by omega), Int.toNat_natCast, Int.toNat_natCast]
      exact Goes.pos (by omega) (Goes.pos (by omega) (Goes.pos (by omega) (Goes.ok (K := fun (s : List ByteArray × Nat) k => impl_SplitByte.l0 k t by_ s.1 (s.2 : Int) ((x + 1 : Nat) : Int)) (s.1 ++ [t.extract s.2 x], x + 1))))
    refine Goes.step ?_
    simp only [impl_SplitByte.l0]
    refine Goes.pos (by omega) ?_
    unfold splitG
    by_cases e1 : x = t.size
    · rw [if_pos (.inl e1)]
      exact Goes.pos (by omega) cut
    · refine Goes.neg (by omega) (Goes.pos (by omega) (Goes.pos (by omega) ?_))
      by_cases e2 : bt t (x : Int) = by_
      · rw [if_pos (.inr e2)]
        exact Goes.pos e2 cut
      · rw [if_neg (fun h => h.elim e1 e2)]
        rw [wrap_id (x := (x : Int) + 1) (by omega) (by omega)]
        exact Goes.neg e2 (Goes.ok (K := fun (s : List ByteArray × Nat) k => impl_SplitByte.l0 k t by_ s.1 (s.2 : Int) ((x + 1 : Nat) : Int)) s)
  · cases e
    exact splitG_ok hs
theorem spec_splitB (t : ByteArray) (by_ : Int) (ht : t.size ≤ 1048576) : Ev (fun k => spec_SplitByte.f k t by_) (splitP t by_) := by
  unfold spec_SplitByte.f
  have key := loop_up' (σ := List ByteArray × Nat) (ρ := List ByteArray) (lo := 0) (n := t.size + 1) (K := fun s _ => some s.1) (L := fun x s k => spec_SplitByte.l0 k t by_ s.1 (s.2 : Int) x) (fun x s => s.1.length ≤ x ∧ s.2 ≤ x)
    (fun s x => .ok (splitG t by_ s x)) (fun s _ => ?_) (fun x _ hx s hs => ?_) (fun x _ hx s hs s' e => ?_) (by omega) ([], 0) ⟨Nat.le_refl _, Nat.le_refl _⟩
  · rw [foldlM_ok, Nat.sub_zero] at key
    exact key _ (Ev.now _)
  · refine Goes.step ?_
    simp only [spec_SplitByte.l0]
    exact Goes.neg (by omega) (Goes.ok (K := fun s _ => some s.1) s)
  · have cut : Goes (.ok (s.1 ++ [t.extract s.2 x], x + 1)) (fun (s : List ByteArray × Nat) k => spec_SplitByte.l0 k t by_ s.1 (s.2 : Int) ((x + 1 : Nat) : Int))
        (fun k => if 0 ≤ (s.2 : Int) then (if (s.2 : Int) ≤ (x : Int) then (if s.1.length < 8796093022208 then (spec_SplitByte.l0 k t by_ (s.1 ++ [t.extract (s.2 : Int).toNat (x : Int).toNat]) (wrap64 ((x : Int) + 1)) (wrap64 ((x : Int) + 1))) else none) else none) else none) := by
      rw [wrap_id (x := (x : Int) + 1) (by omega) (by omega), Int.toNat_natCast, Int.toNat_natCast]
      exact Goes.pos (by omega) (Goes.pos (by omega) (Goes.pos (by omega) (Goes.ok (K := fun (s : List ByteArray × Nat) k => spec_SplitByte.l0 k t by_ s.1 (s.2 : Int) ((x + 1 : Nat) : Int)) (s.1 ++ [t.extract s.2 x], x + 1))))
    refine Goes.step ?_
    simp only [spec_SplitByte.l0]
    refine Goes.pos (by omega) ?_
    unfold splitG
    by_cases e1 : x = t.size
    · rw [if_pos (.inl e1)]
      exact Goes.pos (by omega) cut
    · refine Goes.neg (by omega) (Goes.pos (by omega) (Goes.pos (by omega) ?_))
      by_cases e2 : bt t (x : Int) = by_
      · rw [if_pos (.inr e2)]
        exact Goes.pos e2 cut
      · rw [if_neg (fun h => h.elim e1 e2)]
        rw [wrap_id (x := (x : Int) + 1) (by omega) (by omega)]
        exact Goes.neg e2 (Goes.ok (K := fun (s : List ByteArray × Nat) k => spec_SplitByte.l0 k t by_ s.1 (s.2 : Int) ((x + 1 : Nat) : Int)) s)
  · cases e
    exact splitG_ok hs
end Go.Proofs.YthhgcdfdjlijjaaDoor.M
namespace Go.Proofs.YthhgcdfdjlijjaaDoor.PX
open Go.RowKit Go.Proofs.YthhgcdfdjlijjaaDoor.G Go.Proofs.YthhgcdfdjlijjaaDoorW.PrintWords Go.Proofs.YthhgcdfdjlijjaaDoorW.PrintLast Go.Proofs.YthhgcdfdjlijjaaDoorW.PrintMore
attribute [local go_sem] max2_int min2_int max_two min_two max_three min_three max_four min_four   -- for this text's walks alone
set_option linter.unusedVariables false
set_option linter.unusedSimpArgs false
/-! ### spec_SignsText: function 14 -/
/-! ### impl_SignsText: function 16 -/
end Go.Proofs.YthhgcdfdjlijjaaDoor.PX
namespace Go.Proofs.YthhgcdfdjlijjaaDoor.M
open Go.RowKit Go.Proofs.YthhgcdfdjlijjaaDoorW.PrintWords Go.Proofs.YthhgcdfdjlijjaaDoor.PX Go.Proofs.YthhgcdfdjlijjaaDoor.G Go.Proofs.YthhgcdfdjlijjaaDoorW.PrintMore
open Go.Lib (decDigits itoa)
theorem readS_inv {s : ByteArray} {m : Nat} (hm1 : 1 ≤ m) (hm : m ≤ 12) (h : (readS s m).2 = true) : ∃ v : Int, v.natAbs < 10 ^ m ∧ itoaB v = s ∧ readS s m = (v, true) := by
  by_cases g : ∃ v : Int, v.natAbs < 10 ^ m ∧ itoaB v = s
  · obtain ⟨v, hv, rfl⟩ := g
    exact ⟨v, hv, rfl, readS_of hm1 hm hv⟩
  · rw [readS_not fun v hv e => g ⟨v, hv, e⟩] at h
    cases h
theorem splitP_pos (t : ByteArray) (by_ : Int) : 1 ≤ (splitP t by_).length := by
  unfold splitP
  rw [List.range'_concat, List.foldl_append]
  simp only [List.foldl_cons, List.foldl_nil, Nat.mul_one, Nat.one_mul]
  unfold splitG
  rw [if_pos (Or.inl (by omega)), List.length_append, List.length_singleton]
  omega
theorem splitG_le {t : ByteArray} {by_ : Int} {s : List ByteArray × Nat} {i : Nat} (h : ∀ x ∈ s.1, x.size ≤ t.size) : ∀ x ∈ (splitG t by_ s i).1, x.size ≤ t.size := by
  intro x hx
  unfold splitG at hx
  split at hx
  · rw [List.mem_append, List.mem_singleton] at hx
    rcases hx with hx | rfl
    · exact h x hx
    · rw [ByteArray.size_extract]; omega
  · exact h x hx
theorem splitP_le (t : ByteArray) (by_ : Int) : ∀ x ∈ splitP t by_, x.size ≤ t.size := by
  have key : ∀ (l : List Nat) (s : List ByteArray × Nat), (∀ x ∈ s.1, x.size ≤ t.size) → ∀ x ∈ (l.foldl (splitG t by_) s).1, x.size ≤ t.size := by
    intro l
    induction l with
    | nil => intro s h; exact h
    | cons i l ih => intro s h; rw [List.foldl_cons]; exact ih _ (splitG_le h)
  exact key _ ([], 0) (fun x hx => by cases hx)
theorem rdB_get {l : List ByteArray} {i : Nat} (h : i < l.length) : rdOf ByteArray.empty l (i : Int) = l[i] := by
  unfold rdOf
  rw [Int.toNat_natCast, List.getD_eq_getElem?_getD, List.getElem?_eq_getElem h]
  rfl
theorem rdB_le {t : ByteArray} {by_ : Int} {i : Nat} (h : i < (splitP t by_).length) : (rdOf ByteArray.empty (splitP t by_) (i : Int)).size ≤ t.size := by
  rw [rdB_get h]
  exact splitP_le t by_ _ (List.getElem_mem _)
noncomputable def sigP (l : List ByteArray) : Int × ByteArray × Bool :=
  if l.length = 2 ∧ (intA (rdOf ByteArray.empty l 0)).2 = true ∧ areOk (intA (rdOf ByteArray.empty l 0)).1 (rdOf ByteArray.empty l 1) = true then ((intA (rdOf ByteArray.empty l 0)).1, rdOf ByteArray.empty l 1, true) else (0, ⟨#[]⟩, false)
noncomputable def sigA (t : ByteArray) : Int × ByteArray × Bool := sigP (splitP t 58)
theorem spec_sig (t : ByteArray) (ht : t.size ≤ 1048576) : Ev (fun k => spec_ParseSigns.f k t) (sigA t) := by
  unfold spec_ParseSigns.f sigA
  have hp := splitP_pos t 58
  have h0 := rdB_le (t := t) (by_ := 58) (i := 0) hp
  refine Ev.bind (spec_splitB t 58 ht) (ev_pos (by omega) (Ev.bind (spec_int _ (Nat.le_trans h0 ht)) ?_))
  have no : ∀ (l : List ByteArray) (v : Int), Ev (fun k => spec_ParseSigns.j0 k l v true) (0, ⟨#[]⟩, false) := by
    intro l v
    refine ev_step ?_
    simp only [spec_ParseSigns.j0]
    exact ev_pos (by first | rfl | trivial) (Ev.now _)
  by_cases g : (splitP t 58).length = 2
  · have h1 := rdB_le (t := t) (by_ := 58) (i := 1) (by omega)
    refine ev_pos (by omega) ?_
    unfold sigP
    by_cases c : (intA (rdOf ByteArray.empty (splitP t 58) 0)).2 = true
    · rw [show (!(intA (rdOf ByteArray.empty (splitP t 58) 0)).2) = false by rw [c]; rfl]
      refine ev_step ?_
      simp only [spec_ParseSigns.j0]
      refine ev_neg (by simp) (ev_pos (by omega) (Ev.bind (spec_are _ _ (Nat.le_trans h1 (by omega))) ?_))
      by_cases o : areOk (intA (rdOf ByteArray.empty (splitP t 58) 0)).1 (rdOf ByteArray.empty (splitP t 58) 1) = true
      · exact ev_cast (ev_pos o (Ev.now _)) (if_pos ⟨g, c, o⟩).symm
      · exact ev_cast (ev_neg o (Ev.now _)) (if_neg fun e => o e.2.2).symm
    · rw [show (!(intA (rdOf ByteArray.empty (splitP t 58) 0)).2) = true by simpa using c, if_neg fun e => c e.2.1]
      exact no _ _
  · unfold sigP
    rw [if_neg fun e => g e.1]
    exact ev_neg (by omega) (no _ _)
theorem impl_sig (t : ByteArray) (ht : t.size ≤ 1048576) : Ev (fun k => impl_ParseSigns.f k t) (sigA t) := by
  unfold impl_ParseSigns.f sigA
  have hp := splitP_pos t 58
  have h0 := rdB_le (t := t) (by_ := 58) (i := 0) hp
  refine Ev.bind (impl_splitB t 58 ht) (ev_pos (by omega) (ev_call (impl_num _ (Nat.le_trans h0 ht)) ?_))
  have no : ∀ (l : List ByteArray) (v : Int), Ev (fun k => impl_ParseSigns.j0 k l v true) (0, ⟨#[]⟩, false) := by
    intro l v
    refine ev_step ?_
    simp only [impl_ParseSigns.j0]
    exact ev_pos (by first | rfl | trivial) (Ev.now _)
  -- what the two readings have to do with each other
  have rel : ∀ s x : ByteArray, (numA s).2 = true → areOk (numA s).1 x = true → intA s = ((numA s).1, true) := by
    intro s x h1 h2
    unfold numA at h1 h2 ⊢
    by_cases c : (readS s 6).2 = true
    · obtain ⟨v, hv, rfl, e⟩ := readS_inv (by omega) (by omega) c
      have hv' : v.natAbs < 10 ^ 12 := by omega
      unfold intA
      rw [readS_of (by omega) (by omega) hv', e]
      simp only [if_true]
      by_cases g : v < 0
      · rw [e] at h1; simp [g] at h1
      · rw [if_neg g]
    · rw [if_neg c] at h1; cases h1
  have rel2 : ∀ s x : ByteArray, (intA s).2 = true → areOk (intA s).1 x = true → numA s = ((intA s).1, true) := by
    intro s x h1 h2
    obtain ⟨v, hv, rfl, e⟩ := readS_inv (m := 12) (by omega) (by omega) h1
    unfold intA at h2 ⊢
    rw [e] at h2 ⊢
    obtain ⟨⟨g0, g1⟩, _, _⟩ := (areOk_iff _ _).1 h2
    simp only at g0 g1
    unfold numA
    rw [readS_of (by omega) (by omega) (show v.natAbs < 10 ^ 6 by omega)]
    simp only [if_true]
    rw [if_neg (by omega)]
  have none_ : ¬ (numA (rdOf ByteArray.empty (splitP t 58) 0)).2 = true ∨ ¬ (splitP t 58).length = 2 ∨ ¬ areOk (numA (rdOf ByteArray.empty (splitP t 58) 0)).1 (rdOf ByteArray.empty (splitP t 58) 1) = true → sigP (splitP t 58) = (0, ⟨#[]⟩, false) := by
    intro h
    unfold sigP
    rw [if_neg]
    rintro ⟨g, c, o⟩
    have r := rel2 _ _ c o
    rcases h with h | h | h
    · exact h (by rw [r])
    · exact h g
    · exact h (by rw [r]; exact o)
  by_cases c : (numA (rdOf ByteArray.empty (splitP t 58) 0)).2 = true
  · refine ev_pos c ?_
    by_cases g : (splitP t 58).length = 2
    · have h1 := rdB_le (t := t) (by_ := 58) (i := 1) (by omega)
      rw [show (((splitP t 58).length : Int) != 2) = false by rw [g]; rfl]
      refine ev_step ?_
      simp only [impl_ParseSigns.j0]
      refine ev_neg (by simp) (ev_pos (by omega) (Ev.bind (impl_are _ _ (Nat.le_trans h1 (by omega))) ?_))
      by_cases o : areOk (numA (rdOf ByteArray.empty (splitP t 58) 0)).1 (rdOf ByteArray.empty (splitP t 58) 1) = true
      · refine ev_cast (ev_pos o (Ev.now _)) ?_
        have r := rel _ _ c o
        unfold sigP
        rw [r, if_pos ⟨g, rfl, o⟩]
      · exact ev_cast (ev_neg o (Ev.now _)) (none_ (.inr (.inr o))).symm
    · rw [none_ (.inr (.inl g)), show (((splitP t 58).length : Int) != 2) = true by rw [bne_iff_ne]; omega]
      exact no _ _
  · rw [none_ (.inl c)]
    exact ev_neg c (no _ _)
end Go.Proofs.YthhgcdfdjlijjaaDoor.M
namespace Go.Proofs.YthhgcdfdjlijjaaDoor.Pure
open Go.RowKit Go.Proofs.YthhgcdfdjlijjaaDoorW.PrintWords Go.Proofs.YthhgcdfdjlijjaaDoor.PX Go.Proofs.YthhgcdfdjlijjaaDoor.M Go.Proofs.YthhgcdfdjlijjaaDoor.G
theorem FnExactParseSigns (s : ByteArray) (_ : s.size ≤ 140737488351232) : ∃ k, laws_FnExactParseSigns.f k s = some true := by
  refine Ev.rounds (r := true) ?_
  unfold laws_FnExactParseSigns.f
  by_cases h : (s.size : Int) > 1048576
  · exact ev_pos h (Ev.now _)
  · have e : laws_eqSigns.f (sigA s).1 (sigA s).2.1 (sigA s).1 (sigA s).2.1 = some true := by unfold laws_eqSigns.f; rw [if_pos rfl, if_pos rfl]
    exact ev_neg h (Ev.bind (spec_sig s (by omega)) (Ev.bind (impl_sig s (by omega)) (ev_call e (ev_pos rfl (ev_neg (by simp) (Ev.now _))))))
end Go.Proofs.YthhgcdfdjlijjaaDoor.Pure
namespace Go.Proofs.YthhgcdfdjlijjaaDoor.fnExactParseSigns
open Go.ChangeShapes Go.WideShapes Go.ChangeAt Go.RowKit Go.Joins
open Go.ChangeMaps (open_string shut_string)
set_option linter.unusedVariables false
theorem own : ownKnob Tryd.prog.godebug = none := by kernel_rfl
theorem str_mk {H : Type} {enc : TypeId × Value → H} {P : Program} {w : World} {base : Nat} {spare : Nat → Bool} {held : Bool} {t : TypeId} {s : ByteArray} (ht : P.underlying t = some .string) (hs : s.size ≤ maxLen) : DataW.trod enc P w base spare held 1 t [.string s] = some (.lit (.string s.data.toList), []) := by
  simp [DataW.trod, ht, hs]
set_option maxRecDepth 100000 in
theorem lifted (os : Os) (started : os.Started) (H : Type) (enc : TypeId × Value → H) :
    ReturnsInHanded {} Tryd.checked os 9 .any (fun w args => (Rows.fnExactParseSignsSpec.pre enc Tryd.prog Tryd.f9 Rows.fnExactParseSignsRow.domain false w args ∧ laidMetH Tryd.prog G.l5 w) ∧ sizedMet enc Tryd.prog Tryd.f9 (OpenSpec.ofChange Rows.fnExactParseSignsSpec) false w args) (Rows.fnExactParseSignsSpec.post enc Tryd.prog Tryd.f9 false true false false) := by
  refine returnsInHanded_of_change_and (C := Tryd.checked) (X := fun w _ => laidMetH Tryd.prog G.l5 w) (fun _ _ _ hh h => h.of_heap hh) own started (by kernel_rfl) Tryd.func9
    (ChangeSpec.witness_shaped (enc := enc) (C := Tryd.checked) (os := os) (X := fun w _ => laidMetH Tryd.prog G.l5 w) false (World.doorLaid Tryd.prog 62 os) #[.string ByteArray.empty] 8 rfl (World.shaped_of_RefB (by kernel_rfl) (by kernel_rfl)) (by kernel_rfl) (by kernel_rfl) (by kernel_rfl) (G.met5 os _)) ?_
  intro W base args ds gs before hval0 hW hcnd hsz0 hL _
  have hsz : (DataW.weightsEach Tryd.prog (Tryd.f9.params.toList ++ Rows.fnExactParseSignsSpec.plain.varTypes Tryd.prog) (ds ++ gs)).all (· ≤ reachBytes) = true := hsz0
  have hval : ∀ (j : Nat) t v, Tryd.f9.params[j]? = some t → args[j]? = some v → Value.okWide Tryd.prog W .any base t v := hval0
  have hW' := hW
  obtain ⟨p, q, hA0, hV, rfl, hfz, hnd⟩ := hW
  have hA : DataW.TrodAll enc Tryd.prog W 0 (fun _ => true) true Tryd.f9.params.toList args.toList ds p := hA0
  rw [Tryd.params9] at hA hval hsz
  obtain ⟨v0, vs0, d0, ds0, p0, q0, hargs, rfl, rfl, h0, r0⟩ := trodAll_cons hA
  obtain ⟨rfl, rfl, rfl⟩ := trodAll_nil r0
  obtain rfl : args = #[v0] := by cases args; simp_all
  obtain ⟨rfl, rfl⟩ := trodVars_none hV
  obtain ⟨a0, rfl, rfl, rfl, y0⟩ := open_string Tryd.underlying9 (hval 0 9 v0 rfl rfl) h0
  have w0 : a0.size ≤ 140737488351232 := by
    have z := sized_string hsz (j := 0) (t := 9) rfl rfl
    rw [Array.length_toList] at z
    exact z
  clear hA0 hval0 hsz0 hsz
  obtain ⟨k, hP⟩ := Pure.FnExactParseSigns a0 w0
  refine (PX.laws_FnExactParseSigns.calls k a0 true W hP rfl (G.laid5_T2 hL)).mono fun e W' ⟨he, bel⟩ => ?_
  subst he
  exact ⟨_, rfl, _, _, _, [], _, [], hW', trodAll_mk1 (shut_bool Tryd.underlying4 _), (trodAll_cons_mk (shut_string Tryd.underlying9 y0) trodAll_mk0), rfl, bel.frame _, fun h => by cases h⟩
theorem over : Rows.fnExactParseSignsRow.holds Tryd.pinned (OpenSpec.ofChange Rows.fnExactParseSignsSpec) :=
  OpenClaim.holds_of_wide 9 Tryd.f9 rfl rfl rfl rfl rfl rfl rfl ⟨rfl, rfl, rfl, rfl, rfl⟩ rfl rfl rfl rfl rfl (by kernel_rfl) Tryd.func9 (by kernel_rfl)
    (of_decide_eq_true (by kernel_rfl)) (by unfold Func.isWrapper; first | (rw [if_pos (by decide +kernel)]; kernel_rfl) | (rw [if_neg (by decide +kernel)]; exact ⟨rfl, rfl⟩))
    (fun os started H enc _ => lifted os started H enc)
theorem proved : Rows.FnExactParseSignsCardSaid :=
  Claim7.holds_tied_plain_at .later [] [.data, .data, .data, .sentinel, .sentinel] true (true, "b6297fe4dff1945e15340171e309d32cd1111b5a543af04a2fb5a0138c81a0d9") true over (fun _ h => by cases h) (by kernel_rfl) (fun _ h => by cases h) fnExactParseSigns_row_tie rfl ⟨rfl, rfl⟩ (by kernel_rfl) rfl
    (fun f fn hf hfn => by
      obtain rfl : f = 9 := Option.some.inj (hf.symm.trans (show Tryd.prog.funcNamed "loop.example/g03104/laws.FnExactParseSigns" = some 9 by kernel_rfl))
      obtain rfl : fn = Tryd.f9 := (Option.some.inj (Tryd.func9.symm.trans hfn)).symm
      exact ⟨by kernel_rfl, fun j t ht => by
        have hm : t ∈ Tryd.f9.params.toList := Array.mem_toList_iff.2 (Array.mem_of_getElem? ht)
        have hall : (Tryd.f9.params.toList.all fun u => !Tryd.prog.wantsStandIn u) = true := by kernel_rfl
        exact (show Tryd.prog.wantsStandIn t = false by simpa using List.all_eq_true.1 hall t hm)⟩)
    (by kernel_rfl)
#print axioms proved
end Go.Proofs.YthhgcdfdjlijjaaDoor.fnExactParseSigns
namespace Go.Proofs.YthhgcdfdjlijjaaDoor
theorem fnExactParseSigns_holds : Rows.FnExactParseSignsCardSaid := fnExactParseSigns.proved
end Go.Proofs.YthhgcdfdjlijjaaDoor
