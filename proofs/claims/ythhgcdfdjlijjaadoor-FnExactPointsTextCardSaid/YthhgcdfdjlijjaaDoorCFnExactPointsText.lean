/- FnExactPointsText returns true for all arguments and leaves them as they were. No condition. -/
import Derived.Test.YthhgcdfdjlijjaaDoorProg
import Derived.Test.YthhgcdfdjlijjaaDoorRows
import Derived.Test.YthhgcdfdjlijjaaDoorTie
import Derived.Test.YthhgcdfdjlijjaaDoorCards
import Derived.SevenTiedAt
import Derived.WalkKit
import Derived.ProofKit
import Derived.OpenShut
import Derived.ShutString
import Derived.ChangeOld
import Derived.Below
import Derived.SizedLaws
import Derived.Lib.SmallJoins
import Derived.ChangeSame
import Derived.Deep.SlicePairs
import Derived.Test.YthhgcdfdjlijjaaDoorV1
import Derived.Test.YthhgcdfdjlijjaaDoorBexgqmu1
import Derived.Test.YthhgcdfdjlijjaaDoorBpznkkj1
set_option linter.unusedVariables false
set_option linter.unusedSimpArgs false
namespace Go.Proofs.YthhgcdfdjlijjaaDoor.G
open Go.RowKit Go.Proofs.YthhgcdfdjlijjaaDoorW.PrintWords Go.Proofs.YthhgcdfdjlijjaaDoorW.PrintLast Go.Proofs.YthhgcdfdjlijjaaDoorW.PrintMore
set_option linter.unusedVariables false
set_option linter.unusedSimpArgs false
def joinB (l : List ByteArray) (s : ByteArray) : ByteArray := ⟨(Lib.join (l.map (·.data.toList)) s.data.toList).toArray⟩
def impl_Join.f (l : List ByteArray) (s : ByteArray) : Option ByteArray := if l.length ≤ 10000000 ∧ (Lib.join (l.map (·.data.toList)) s.data.toList).length ≤ 100000000000000 then some (joinB l s) else none
theorem spot_none {w : World} {a : Addr} {v : Value} (h : w.cell? a = some v) : a.spot = none := by
 unfold World.cell? at h
 split at h
 ·split at h
  ·cases h
  rename_i hs
  cases e : a.spot with
  | none => rfl
  | some x => rw [e] at hs; exact absurd rfl hs
 cases h
set_option maxHeartbeats 8000000 in
set_option maxRecDepth 100000 in
theorem impl_Join.calls (A0 : Option Addr) (c0 : Nat) (l0 : List ByteArray) (a1 : ByteArray) (r : ByteArray) (w : World) (hr0 : Kd.C Kd.string w A0 l0.length l0) (hc0 : l0.length ≤ c0) (h : impl_Join.f l0 a1 = some r) :
  Calls Tryd.prog 43 #[.slice A0 l0.length c0, .string a1] w fun e w' => e = .returned (.string r) ∧ Below w.heap.size w w' := by
 unfold impl_Join.f at h
 by_cases hs : l0.length ≤ 10000000 ∧ (Lib.join (l0.map (·.data.toList)) a1.data.toList).length ≤ 100000000000000
 ·rw [if_pos hs] at h
  obtain rfl := Option.some.inj h
  clear h
  obtain ⟨hl, hj⟩ := hs
  have key : Calls Tryd.prog 61 #[.slice A0 l0.length c0, .string a1] w fun e w' => e = .returned (.string (joinB l0 a1)) ∧ Below w.heap.size w w' := by
   cases l0 with
   | nil => exact (Tryd.strings_Join_none A0 c0 a1 w).mono fun e w' ⟨he, hw⟩ => ⟨he, hw ▸ Below.refl _ _⟩
   | cons x xs =>
    obtain ⟨ad, rfl, hx⟩ := Kd.at_string hr0 0 (Int.le_refl 0) (by simp)
    have hsp : ad.spot = none := spot_none (a := ad) (by
     have : ad.add (0 : Int).toNat = ad := if_pos rfl
     rwa [this] at hx)
    obtain ⟨b, o, sp⟩ := ad
    cases hsp
    have hcell : ∀ (j : Nat) y, (x :: xs)[j]? = some y → w.cell? ⟨b, o + j, none⟩ = some (.string y) := by
     intro j y hy
     obtain ⟨hjl, rfl⟩ := List.getElem?_eq_some_iff.1 hy
     obtain ⟨ad', e, hx'⟩ := Kd.at_string hr0 (j : Int) (by omega) (by omega)
     cases e
     have e1 : (⟨b, o, none⟩ : Addr).add (j : Int).toNat = ⟨b, o + j, none⟩ := by
      unfold Addr.add
      rw [Int.toNat_natCast]
      split
      ·rename_i h0; subst h0; rfl
      ·rfl
     rw [e1] at hx'
     rw [hx']
     unfold rdOf
     rw [Int.toNat_natCast, List.getD_eq_getElem?_getD, hy]
     rfl
    exact Tryd.strings_Join b o c0 (x :: xs) a1 w hcell (World.block_lt_of_cell? w _ (hcell 0 x rfl)) (by omega) hc0 (by omega)
  go_enter Tryd.func43, Tryd.ntmps43
  go_wp2_with (go_at_call 61; refine key.mono ?_; rintro e w1 ⟨rfl, hb1⟩; have HB1 := Aside0.mk hb1; clear hb1)
  go_ret
  exact ⟨rfl, HB1.out⟩
 rw [if_neg hs] at h
 cases h
end Go.Proofs.YthhgcdfdjlijjaaDoor.G
namespace Go.Proofs.YthhgcdfdjlijjaaDoor.G
open Go.RowKit Go.Proofs.YthhgcdfdjlijjaaDoorW.PrintWords Go.Proofs.YthhgcdfdjlijjaaDoorW.PrintLast Go.Proofs.YthhgcdfdjlijjaaDoorW.PrintMore Go.Proofs.YthhgcdfdjlijjaaDoor.PX
set_option linter.unusedVariables false
set_option linter.unusedSimpArgs false
def farQ (x most : Int) : Bool := decide (x < wrap64 (-most)) || decide (most < x)
set_option maxHeartbeats 8000000 in
set_option maxRecDepth 100000 in
theorem near_pred (most : Int) (B : Nat) (w : World) (x y : Int) (hB : B < w.heap.size) (hc : w.cell? ⟨B, 0, none⟩ = some (.int .i64 most)) :
  Calls Tryd.prog 68 #[.agg #[.int .i64 x, .int .i64 y], .pointer (some ⟨B, 0, none⟩)] w fun e w' => e = .returned (.bool (farQ x most || farQ y most)) ∧ Below w.heap.size w w' := by
 have hu := Tryd.underlying55
 have hne : B ≠ w.heap.size := by omega
 go_enter Tryd.func68, Tryd.ntmps68
 go_wp2
 all_goals (go_ret; exact ⟨by unfold farQ; simp_all; try omega, (Below.refl _ w).alloc (Nat.le_refl _) _⟩)
def nearIdx (most : Int) (l : List S55) : Nat → Int → Int
 | 0, _ => -1
 | d + 1, i => if (farQ (rd_T55 l i).f0 most || farQ (rd_T55 l i).f1 most) = true then i else nearIdx most l d (i + 1)
set_option maxHeartbeats 8000000 in
set_option maxRecDepth 100000 in
theorem index_near (most : Int) (B : Nat) (w : World) (A : Option Addr) (c : Nat) (l : List S55) (hB : B < w.heap.size) (hc : w.cell? ⟨B, 0, none⟩ = some (.int .i64 most)) (hr : Kd.C k55 w A l.length l) (hl : l.length ≤ c) :
  Calls Tryd.prog 83 #[.slice A l.length c, .func (.func 68) #[] #[.pointer (some ⟨B, 0, none⟩)]] w fun e w' => e = .returned (.int .i64 (nearIdx most l l.length 0)) ∧ Below w.heap.size w w' := by
 have hu := Tryd.underlying55
 go_enter Tryd.func83, Tryd.ntmps83
 go_wp2
 have HR := Aside0.mk hr
 have HC := Aside0.mk hc
 have HB0 := Aside0.mk (Below.refl w.heap.size w)
 clear hr hc
 go_loopg [8] (l.length + 1) (fun kq v8 w' => ∃ (i : Nat), v8 = .int .i64 (i : Int) ∧ Aside0 (i + kq = l.length + 1) ∧ Aside0 (1 ≤ kq) ∧ Aside0 (nearIdx most l (l.length - i) (i : Int) = nearIdx most l l.length 0) ∧ Aside0 (Below w.heap.size w w'))
 case atStart => exact ⟨0, rfl, ⟨by omega⟩, ⟨by omega⟩, ⟨rfl⟩, HB0⟩
 case round =>
 obtain ⟨i, rfl, HI, HK, HN, HB⟩ := hrel
 cases gk with
 | zero => exact absurd HK.out (by omega)
 | succ k1 =>
 by_cases g : i < l.length
 ·have g' : decide ((i : Int) < (l.length : Int)) = true := decide_eq_true (by omega)
  obtain ⟨ad, e, hx0, hx1⟩ := at_T55 (Kd.C_below HR.out HB.out) (i : Int) (by omega) (by omega)
  cases e
  have hcw : wr.cell? ⟨B, 0, none⟩ = some (.int .i64 most) := (HB.out.cell (p := ⟨B, 0, none⟩) hB).trans HC.out
  simp only [Int.toNat_natCast] at hx0 hx1
  have hBw : B < wr.heap.size := Nat.lt_of_lt_of_le hB HB.out.size
  have hp := near_pred most B wr (rd_T55 l (i : Int)).f0 (rd_T55 l (i : Int)).f1 hBw hcw
  have hd : l.length - i = (l.length - (i + 1)) + 1 := by omega
  have HN' := HN.out
  rw [hd, nearIdx] at HN'
  cases hq : (farQ (rd_T55 l (i : Int)).f0 most || farQ (rd_T55 l (i : Int)).f1 most) with
  | true =>
   rw [hq] at hp
   rw [hq, if_pos rfl] at HN'
   have HN2 := Aside0.mk HN'
   clear HN'
   go_wp2_with (go_at_call 68; refine hp.mono ?_; rintro e w1 ⟨rfl, hb1⟩; have HB1 := Aside0.mk (HB.out.trans (hb1.mono HB.out.size)))
   go_ret
   exact ⟨by rw [← HN2.out]; rfl, HB1.out⟩
  | false =>
  rw [hq] at hp
  rw [hq, if_neg (by decide)] at HN'
  have HN2 := Aside0.mk HN'
  clear HN'
  go_wp2_with (go_at_call 68; refine hp.mono ?_; rintro e w1 ⟨rfl, hb1⟩; have HB1 := Aside0.mk (HB.out.trans (hb1.mono HB.out.size)))
  have wrap_i : wrap64 ((i : Int) + 1) = ((i + 1 : Nat) : Int) := by
   have hx := HR.out.2.1
   unfold wrap64
   omega
  go_roundg k1
  case measure => exact Nat.lt_succ_self _
  case rel => exact ⟨i + 1, by rw [wrap_i], ⟨by have := HI.out; omega⟩, ⟨by have := HI.out; omega⟩, HN2, HB1⟩
 have g' : decide ((i : Int) < (l.length : Int)) = false := decide_eq_false (by omega)
 have g2 : decide (i < l.length) = false := decide_eq_false g
 have g3 : l.length ≤ i := by omega
 go_wp2
 go_ret
 have e : l.length - i = 0 := by omega
 have HN' := HN.out
 rw [e] at HN'
 exact ⟨by rw [← HN']; rfl, HB.out⟩
set_option maxHeartbeats 8000000 in
set_option maxRecDepth 100000 in
theorem contains_near (most : Int) (B : Nat) (w : World) (A : Option Addr) (c : Nat) (l : List S55) (hB : B < w.heap.size) (hc : w.cell? ⟨B, 0, none⟩ = some (.int .i64 most)) (hr : Kd.C k55 w A l.length l) (hl : l.length ≤ c) :
  Calls Tryd.prog 67 #[.slice A l.length c, .func (.func 68) #[] #[.pointer (some ⟨B, 0, none⟩)]] w fun e w' => e = .returned (.bool (decide (0 ≤ nearIdx most l l.length 0))) ∧ Below w.heap.size w w' := by
 have hi := index_near most B w A c l hB hc hr hl
 generalize nearIdx most l l.length 0 = v at hi ⊢
 go_enter Tryd.func67, Tryd.ntmps67
 go_wp2_with (go_at_call 83; refine hi.mono ?_; rintro e w1 ⟨rfl, hb1⟩; have HB1 := Aside0.mk hb1; clear hb1)
 go_ret
 exact ⟨by first | rfl | simp, HB1.out⟩
def impl_areNear.f (most : Int) (l : List S55) : Option Bool := some (!decide (0 ≤ nearIdx most l l.length 0))
set_option maxHeartbeats 8000000 in
set_option maxRecDepth 100000 in
theorem impl_areNear.calls (a0 : Int) (A1 : Option Addr) (c1 : Nat) (l1 : List S55) (r : Bool) (w : World) (hr1 : Kd.C k55 w A1 l1.length l1) (hc1 : l1.length ≤ c1) (h : impl_areNear.f a0 l1 = some r) :
  Calls Tryd.prog 58 #[.int .i64 a0, .slice A1 l1.length c1] w fun e w' => e = .returned (.bool r) ∧ Below w.heap.size w w' := by
 obtain rfl := Option.some.inj h
 clear h
 have hcon := fun W h1 h2 h3 => contains_near a0 w.heap.size W A1 c1 l1 h1 h2 h3 hc1
 generalize nearIdx a0 l1 l1.length 0 = v at hcon ⊢
 have HR := Aside0.mk hr1
 have HC := Aside0.mk hcon
 clear hr1 hcon
 go_enter Tryd.func58, Tryd.ntmps58
 go_wp2_with (go_at_call 67; refine (HC.out _ ?h1 ?h2 ?h3).mono ?_; (case h1 => simp); (case h2 => simp); (case h3 => exact Kd.C_below HR.out ((Below.refl _ w).alloc (Nat.le_refl _) _)); rintro e w1 ⟨rfl, hb1⟩; have HB1 := Aside0.mk (((Below.refl w.heap.size w).alloc (Nat.le_refl _) _).trans (hb1.mono (by simp))); clear hb1)
 go_ret
 exact ⟨by first | rfl | simp, HB1.out⟩
end Go.Proofs.YthhgcdfdjlijjaaDoor.G
namespace Go.Proofs.YthhgcdfdjlijjaaDoor.PX
open Go.RowKit Go.Proofs.YthhgcdfdjlijjaaDoor.G Go.Proofs.YthhgcdfdjlijjaaDoorW.PrintWords Go.Proofs.YthhgcdfdjlijjaaDoorW.PrintLast Go.Proofs.YthhgcdfdjlijjaaDoorW.PrintMore
attribute [local go_sem] max2_int min2_int max_two min_two max_three min_three max_four min_four   -- for this text's walks alone
set_option linter.unusedVariables false
set_option linter.unusedSimpArgs false
/-! ### laws_szPointS: function 17 -/
def laws_szPointS.f (l0 : List (S58)) (a1 : Int) : Option (Int) := if (wrap64 (a1 - (l0.length : Int))) < 0 then (some (-1)) else (some (wrap64 (a1 - (l0.length : Int))))
set_option maxHeartbeats 8000000 in
set_option maxRecDepth 100000 in
theorem laws_szPointS.calls (A0 : Option Addr) (c0 : Nat) (l0 : List (S58)) (a1 : Int) (r : Int) (w : World) (hr0 : Kd.C k58 w A0 l0.length l0) (hc0 : l0.length ≤ c0) (h : laws_szPointS.f l0 a1 = some r) :
  Calls Tryd.prog 17 #[.slice A0 l0.length c0, .int .i64 a1] w fun e w' => e = .returned (.int .i64 r) ∧ Drawn0 w w' := by
 have HR0 := Aside0.mk hr0
 have HC0 := Aside0.mk hc0
 clear hr0 hc0
 have H : (if (wrap64 (a1 - (l0.length : Int))) < 0 then (some (-1)) else (some (wrap64 (a1 - (l0.length : Int))))) = some r := h
 clear h
 by_cases c3 : (wrap64 (a1 - (l0.length : Int))) < 0
 ·rw [if_pos c3] at H
  have c3b0 : decide ((wrap64 (a1 - (l0.length : Int))) < 0) = true := decide_eq_true c3
  clear c3
  obtain rfl := Option.some.inj H
  go_enter Tryd.func17, Tryd.ntmps17
  go_wp2
  go_ret
  exact ⟨by first | rfl | (simp; done) | (simp [*]; done), by repeat (first | exact Drawn0.refl _ | apply Drawn0.step)⟩
 rw [if_neg c3] at H
 have c3b0 : decide ((wrap64 (a1 - (l0.length : Int))) < 0) = false := decide_eq_false c3
 clear c3
 obtain rfl := Option.some.inj H
 go_enter Tryd.func17, Tryd.ntmps17
 go_wp2
 go_ret
 exact ⟨by first | rfl | (simp; done) | (simp [*]; done), by repeat (first | exact Drawn0.refl _ | apply Drawn0.step)⟩
/-! ### spec_l2Fits: function 56 -/
def spec_l2Fits.f (a0_0 : Int) (a0_1 : Int) (a1 : Int) : Option (Bool) := (spec_l1In.f a0_0 (wrap64 (-a1)) a1).bind fun t150 => (if t150 = true then ((spec_l1In.f a0_1 (wrap64 (-a1)) a1).bind fun t151 => (some t151)) else (some false))
set_option maxHeartbeats 8000000 in
set_option maxRecDepth 100000 in
theorem spec_l2Fits.calls (a0_0 : Int) (a0_1 : Int) (a1 : Int) (r : Bool) (w : World) (h : spec_l2Fits.f a0_0 a0_1 a1 = some r) :
  Calls Tryd.prog 56 #[.agg #[.int .i64 a0_0, .int .i64 a0_1], .int .i64 a1] w fun e w' => e = .returned (.bool r) ∧ Below w.heap.size w w' := by
 have hu55 := Tryd.underlying55
 have HB := Aside0.mk (Below.refl w.heap.size w)
 have H : ((spec_l1In.f a0_0 (wrap64 (-a1)) a1).bind fun t150 => (if t150 = true then ((spec_l1In.f a0_1 (wrap64 (-a1)) a1).bind fun t151 => (some t151)) else (some false))) = some r := h
 clear h
 obtain ⟨t150, A3, H⟩ := zO H
 by_cases c4 : t150 = true
 ·subst c4
  replace H := (if_pos rfl).symm.trans H
  obtain ⟨t151, A5, H⟩ := zO H
  obtain rfl := Option.some.inj H
  go_enter Tryd.func56, Tryd.ntmps56
  go_wp2_with (first | ((with_reducible refine gate_dst (N := 2) rfl ?_); refine zBx (N := 2) #[.int .i64 a0_0, .int .i64 a0_1] 55 ?_; intro gb149 hg w6 hbox hb; have BK149 := Aside0.mk (hbox); have GW149 := zS hg; have GE149 := zS hg; replace HB := zX hb; clear hb hbox hg; obtain ⟨hcz7_0, hcz7_1, hfz7_0, hfz7_1⟩ := zq2 BK149.out) | ((with_reducible refine gate_callee (f := 55) rfl ?_); refine zD (some 10) Tryd.func55 #[.int .i64 a0_0, .int .i64 (wrap64 (-a1)), .int .i64 a1] ?_; (with_reducible refine (spec_l1In.calls a0_0 (wrap64 (-a1)) a1 true _ A3.out).mono ?_); rintro e w' ⟨rfl, ⟨nd, rfl⟩⟩; refine ⟨_, rfl, ?_⟩) | (go_at_call 55; (with_reducible refine (spec_l1In.calls a0_1 (wrap64 (-a1)) a1 t151 _ A5.out).mono ?_); rintro e w' ⟨rfl, ⟨nd, rfl⟩⟩))
  go_ret
  exact ⟨zE, zG GE149.out⟩
 replace c4 := Bool.eq_false_iff.mpr c4
 subst c4
 replace H := (if_neg zFf).symm.trans H
 obtain rfl := Option.some.inj H
 go_enter Tryd.func56, Tryd.ntmps56
 go_wp2_with (first | ((with_reducible refine gate_dst (N := 2) rfl ?_); refine zBx (N := 2) #[.int .i64 a0_0, .int .i64 a0_1] 55 ?_; intro gb149 hg w8 hbox hb; have BK149 := Aside0.mk (hbox); have GW149 := zS hg; have GE149 := zS hg; replace HB := zX hb; clear hb hbox hg; obtain ⟨hcz9_0, hcz9_1, hfz9_0, hfz9_1⟩ := zq2 BK149.out) | ((with_reducible refine gate_callee (f := 55) rfl ?_); refine zD (some 10) Tryd.func55 #[.int .i64 a0_0, .int .i64 (wrap64 (-a1)), .int .i64 a1] ?_; (with_reducible refine (spec_l1In.calls a0_0 (wrap64 (-a1)) a1 false _ A3.out).mono ?_); rintro e w' ⟨rfl, ⟨nd, rfl⟩⟩; refine ⟨_, rfl, ?_⟩))
 go_ret
 exact ⟨zE, zG GE149.out⟩
/-! ### spec_l2Area: function 57 -/
def spec_l2Area.f (a0_0 : Int) (a0_1 : Int) (a1_0 : Int) (a1_1 : Int) (a2_0 : Int) (a2_1 : Int) : Option (Int) := some (wrap64 ((wrap64 ((wrap64 (a1_0 - a0_0)) * (wrap64 (a2_1 - a0_1)))) - (wrap64 ((wrap64 (a1_1 - a0_1)) * (wrap64 (a2_0 - a0_0))))))
set_option maxHeartbeats 8000000 in
set_option maxRecDepth 100000 in
theorem spec_l2Area.calls (a0_0 : Int) (a0_1 : Int) (a1_0 : Int) (a1_1 : Int) (a2_0 : Int) (a2_1 : Int) (r : Int) (w : World) (h : spec_l2Area.f a0_0 a0_1 a1_0 a1_1 a2_0 a2_1 = some r) :
  Calls Tryd.prog 57 #[.agg #[.int .i64 a0_0, .int .i64 a0_1], .agg #[.int .i64 a1_0, .int .i64 a1_1], .agg #[.int .i64 a2_0, .int .i64 a2_1]] w fun e w' => e = .returned (.int .i64 r) ∧ Below w.heap.size w w' := by
 have hu55 := Tryd.underlying55
 have HB := Aside0.mk (Below.refl w.heap.size w)
 have H : (some (wrap64 ((wrap64 ((wrap64 (a1_0 - a0_0)) * (wrap64 (a2_1 - a0_1)))) - (wrap64 ((wrap64 (a1_1 - a0_1)) * (wrap64 (a2_0 - a0_0))))))) = some r := h
 clear h
 obtain rfl := Option.some.inj H
 go_enter Tryd.func57, Tryd.ntmps57
 go_wp2_with (first | ((with_reducible refine gate_dst (N := 3) rfl ?_); refine zBx (N := 3) #[.int .i64 a0_0, .int .i64 a0_1] 55 ?_; intro gb152 hg w4 hbox hb; have BK152 := Aside0.mk (hbox); have GW152 := zS hg; have GE152 := zS hg; replace HB := zX hb; clear hb hbox hg) | ((with_reducible refine gate_dst (N := 4) rfl ?_); refine zBx (N := 4) #[.int .i64 a1_0, .int .i64 a1_1] 55 ?_; intro gb153 hg w5 hbox hb; have BK153 := Aside0.mk (hbox); have GW153 := zSg hg (zG GE152.out); have GE153 := zSg hg (zG GE152.out); have NB152_153 := zL hg BK152.out; have NB153_152 := zLg hg BK152.out; replace BK152 := zV BK152.out hb; replace HB := zX1 GE152.out hb; clear hb hbox hg) | ((with_reducible refine gate_dst (N := 5) rfl ?_); refine zBx (N := 5) #[.int .i64 a2_0, .int .i64 a2_1] 55 ?_; intro gb154 hg w6 hbox hb; have BK154 := Aside0.mk (hbox); have GW154 := zSg hg (zG2 GE152.out GE153.out); have GE154 := zSg hg (zG2 GE152.out GE153.out); have NB152_154 := zL hg BK152.out; have NB154_152 := zLg hg BK152.out; replace BK152 := zV BK152.out hb; have NB153_154 := zL hg BK153.out; have NB154_153 := zLg hg BK153.out; replace BK153 := zV BK153.out hb; replace HB := Aside0.mk (below_step (zG2 GE152.out GE153.out) hb); clear hb hbox hg; have hnb7 := NB153_152.out; have hnc7 := NB152_153.out; have hnb8 := NB153_154.out; have hnc8 := NB154_153.out; obtain ⟨hcz9_0, hcz9_1, hfz9_0, hfz9_1⟩ := zq2 BK153.out; have hnb10 := NB152_154.out; have hnc10 := NB154_152.out; obtain ⟨hcz11_0, hcz11_1, hfz11_0, hfz11_1⟩ := zq2 BK152.out; obtain ⟨hcz12_0, hcz12_1, hfz12_0, hfz12_1⟩ := zq2 BK154.out))
 go_ret
 exact ⟨zE, zG3 GE152.out GE153.out GE154.out⟩
/-! ### spec_ArePoints: function 39 -/
mutual
def spec_ArePoints.l0 : Nat → List (S55) → Int → Option (Bool)
 | 0, _, _ => none
 | k + 1, x0, x3 => if x3 < (x0.length : Int) then (if 0 ≤ x3 then ((spec_l2Fits.f ((rd_T55 x0 x3).f0) ((rd_T55 x0 x3).f1) 50).bind fun t157 => (if t157 = true then (spec_ArePoints.l1 k x0 x3 0) else (some false))) else (none)) else (some true)
def spec_ArePoints.l1 : Nat → List (S55) → Int → Int → Option (Bool)
 | 0, _, _, _ => none
 | k + 1, x0, x3, x4 => if x4 < x3 then (spec_ArePoints.l2 k x0 x3 x4 0) else (spec_ArePoints.l0 k x0 (wrap64 (x3 + 1)))
def spec_ArePoints.l2 : Nat → List (S55) → Int → Int → Int → Option (Bool)
 | 0, _, _, _, _ => none
 | k + 1, x0, x3, x4, x5 => if x5 < x4 then (if 0 ≤ x5 then (if x5 < (x0.length : Int) then (if 0 ≤ x4 then (if x4 < (x0.length : Int) then (if 0 ≤ x3 then (if x3 < (x0.length : Int) then ((spec_l2Area.f ((rd_T55 x0 x5).f0) ((rd_T55 x0 x5).f1) ((rd_T55 x0 x4).f0) ((rd_T55 x0 x4).f1) ((rd_T55 x0 x3).f0) ((rd_T55 x0 x3).f1)).bind fun t161 => (if t161 = 0 then (some false) else (spec_ArePoints.l2 k x0 x3 x4 (wrap64 (x5 + 1))))) else (none)) else (none)) else (none)) else (none)) else (none)) else (none)) else (spec_ArePoints.l1 k x0 x3 (wrap64 (x4 + 1)))
end
def spec_ArePoints.f (k : Nat) (l0 : List (S55)) : Option (Bool) := (spec_l1In.f (l0.length : Int) 3 7).bind fun t155 => (if t155 = true then (spec_ArePoints.l0 k l0 0) else (some false))
def spec_ArePoints.T14 : Bool × List (List Nat × List Nat) := (true, [([], []), ([], []), ([0, 1], [0, 1]), ([2], [2]), ([], []), ([], []), ([4, 5], [4, 5]), ([6], [6]), ([], []), ([], []), ([8, 9], [8, 9]), ([10], [10]), ([3, 7, 11], [3, 7, 11]), ([12], [12])])
def spec_ArePoints.B14 : List Nat := [0, 0, 3, 7, 0, 0, 48, 112, 0, 0, 768, 1792, 4095, 8191]
theorem spec_ArePoints.tab14 : rtab .any (opsOf Tryd.f39 14) = spec_ArePoints.T14 := by kernel_rfl
theorem spec_ArePoints.bits14 : waitsOk spec_ArePoints.T14.2 spec_ArePoints.B14 = true := by kernel_rfl
set_option maxHeartbeats 8000000 in
set_option maxRecDepth 100000 in
theorem spec_ArePoints.calls (k : Nat) (A0 : Option Addr) (c0 : Nat) (l0 : List (S55)) (r : Bool) (w : World) (hr0 : Kd.C k55 w A0 l0.length l0) (hc0 : l0.length ≤ c0) (h : spec_ArePoints.f k l0 = some r) :
  Calls Tryd.prog 39 #[.slice A0 l0.length c0] w fun e w' => e = .returned (.bool r) ∧ Below w.heap.size w w' := by
 have hu55 := Tryd.underlying55
 have HR0 := Aside0.mk hr0
 have HC0 := Aside0.mk hc0
 clear hr0 hc0
 have HB := Aside0.mk (Below.refl w.heap.size w)
 have H : ((spec_l1In.f (l0.length : Int) 3 7).bind fun t155 => (if t155 = true then (spec_ArePoints.l0 k l0 0) else (some false))) = some r := h
 clear h
 obtain ⟨t155, A2, H⟩ := zO H
 by_cases c3 : t155 = true
 ·subst c3
  replace H := (if_pos rfl).symm.trans H
  have H' := Aside0.mk H; clear H
  go_enter Tryd.func39, Tryd.ntmps39
  go_wp2_with (first | ((with_reducible refine gate_callee (f := 55) rfl ?_); refine zD (some 8) Tryd.func55 #[.int .i64 (l0.length : Int), .int .i64 3, .int .i64 7] ?_; (with_reducible refine (spec_l1In.calls (l0.length : Int) 3 7 true _ A2.out).mono ?_); rintro e w' ⟨rfl, ⟨nd, rfl⟩⟩; refine ⟨_, rfl, ?_⟩))
  go_loopg [3] k (fun kq v3 w' => ∃ (x3_1 : Int), v3 = .int .i64 x3_1 ∧ Aside0 (spec_ArePoints.l0 kq l0 x3_1 = some r) ∧ Aside0 (kq ≤ k) ∧ Aside0 (Below w.heap.size w w'))
  case atStart => exact ⟨(0), zF, H', ⟨Nat.le_refl _⟩, ⟨zB⟩⟩
  case round =>
  clear H'
  try clear c3
  obtain ⟨x3_1, rfl, HA, HK1, HB⟩ := hrel
  cases gk with
  | zero => exact absurd HA.out (by simp [spec_ArePoints.l0])
  | succ k1 =>
  have H := HA.out
  clear HA
  simp only [spec_ArePoints.l0] at H
  by_cases c4 : x3_1 < (l0.length : Int)
  ·rw [if_pos c4] at H
   have c4b0 : decide (x3_1 < (l0.length : Int)) = true := decide_eq_true c4
   clear c4
   by_cases c5 : 0 ≤ x3_1
   ·rw [if_pos c5] at H
    have c5b0 : decide (0 ≤ x3_1) = true := decide_eq_true c5
    clear c5
    obtain ⟨t157, A6, H⟩ := zO H
    by_cases c7 : t157 = true
    ·subst c7
     replace H := (if_pos rfl).symm.trans H
     have H' := Aside0.mk H; clear H
     have p156 : 0 ≤ (x3_1 : Int) := zA
     have q156 : x3_1 < (l0.length : Int) := zA
     obtain ⟨ad156, e156, hx156_0, hx156_1⟩ := at_T55 HR0.out x3_1 p156 q156
     cases e156
     replace hx156_0 := (HB.out.cell (World.block_lt_of_cell? w _ hx156_0)).trans hx156_0
     replace hx156_1 := (HB.out.cell (World.block_lt_of_cell? w _ hx156_1)).trans hx156_1
     replace p156 := eq_true p156
     replace q156 := eq_true q156
     go_wp2_with (first | ((with_reducible refine gate_callee (f := 56) rfl ?_); refine zD (some 20) Tryd.func56 #[.agg #[.int .i64 ((rd_T55 l0 x3_1).f0), .int .i64 ((rd_T55 l0 x3_1).f1)], .int .i64 50] ?_; (with_reducible refine (spec_l2Fits.calls ((rd_T55 l0 x3_1).f0) ((rd_T55 l0 x3_1).f1) 50 true _ A6.out).mono ?_); rintro e w8 ⟨rfl, hb⟩; refine ⟨_, rfl, ?_⟩; replace HB := zX hb; (try clear hb)))
     go_loopg [4] k1 (fun kq v4 w' => ∃ (x4_2 : Int), v4 = .int .i64 x4_2 ∧ Aside0 (spec_ArePoints.l1 kq l0 x3_1 x4_2 = some r) ∧ Aside0 (kq ≤ k1) ∧ Aside0 (Below w.heap.size w w'))
     case atStart => exact ⟨(0), zF, H', ⟨Nat.le_refl _⟩, ⟨zB⟩⟩
     case round =>
     clear H'
     try clear c3
     try clear c4
     try clear c4b0
     try clear c5
     try clear c5b0
     try clear c7
     try clear hx156_0
     try clear hx156_1
     try clear p156
     try clear q156
     obtain ⟨x4_2, rfl, HA, HK2, HB⟩ := hrel
     cases gk with
     | zero => exact absurd HA.out (by simp [spec_ArePoints.l1])
     | succ k2 =>
     have H := HA.out
     clear HA
     simp only [spec_ArePoints.l1] at H
     by_cases c9 : x4_2 < x3_1
     ·rw [if_pos c9] at H
      have c9b0 : decide (x4_2 < x3_1) = true := decide_eq_true c9
      clear c9
      have H' := Aside0.mk H; clear H
      go_wp2
      go_loopg [5] k2 (fun kq v5 w' => ∃ (x5_3 : Int), v5 = .int .i64 x5_3 ∧ Aside0 (spec_ArePoints.l2 kq l0 x3_1 x4_2 x5_3 = some r) ∧ Aside0 (kq ≤ k2) ∧ Aside0 (Below w.heap.size w w'))
      case atStart => exact ⟨(0), zF, H', ⟨Nat.le_refl _⟩, ⟨zB⟩⟩
      case round =>
      clear H'
      try clear c3
      try clear c4
      try clear c4b0
      try clear c5
      try clear c5b0
      try clear c7
      try clear c9
      try clear c9b0
      try clear hx156_0
      try clear hx156_1
      try clear p156
      try clear q156
      obtain ⟨x5_3, rfl, HA, HK3, HB⟩ := hrel
      cases gk with
      | zero => exact absurd HA.out (by simp [spec_ArePoints.l2])
      | succ k3 =>
      have H := HA.out
      clear HA
      simp only [spec_ArePoints.l2] at H
      by_cases c10 : x5_3 < x4_2
      ·rw [if_pos c10] at H
       have c10b0 : decide (x5_3 < x4_2) = true := decide_eq_true c10
       clear c10
       by_cases c11 : 0 ≤ x5_3
       ·rw [if_pos c11] at H
        have c11b0 : decide (0 ≤ x5_3) = true := decide_eq_true c11
        clear c11
        by_cases c12 : x5_3 < (l0.length : Int)
        ·rw [if_pos c12] at H
         have c12b0 : decide (x5_3 < (l0.length : Int)) = true := decide_eq_true c12
         clear c12
         by_cases c13 : 0 ≤ x4_2
         ·rw [if_pos c13] at H
          have c13b0 : decide (0 ≤ x4_2) = true := decide_eq_true c13
          clear c13
          by_cases c14 : x4_2 < (l0.length : Int)
          ·rw [if_pos c14] at H
           have c14b0 : decide (x4_2 < (l0.length : Int)) = true := decide_eq_true c14
           clear c14
           by_cases c15 : 0 ≤ x3_1
           ·rw [if_pos c15] at H
            have c15b0 : decide (0 ≤ x3_1) = true := decide_eq_true c15
            clear c15
            by_cases c16 : x3_1 < (l0.length : Int)
            ·rw [if_pos c16] at H
             have c16b0 : decide (x3_1 < (l0.length : Int)) = true := decide_eq_true c16
             clear c16
             obtain ⟨t161, A17, H⟩ := zO H
             by_cases c18 : t161 = 0
             ·rw [if_pos c18] at H
              have c18b0 : (t161 == 0) = true := beq_iff_eq.mpr c18
              have c18b1 : (t161 != 0) = false := bne_eq_false_iff_eq.mpr c18
              clear c18
              obtain rfl := Option.some.inj H
              try go_wp2
              replace HB := Aside0.mk (below_drew1 HB.out)
              have p158 : 0 ≤ (x5_3 : Int) := zA
              have q158 : x5_3 < (l0.length : Int) := zA
              obtain ⟨ad158, e158, hx158_0, hx158_1⟩ := at_T55 HR0.out x5_3 p158 q158
              have hw158_1 := hx158_1
              have hw158_0 := hx158_0
              obtain rfl : ad156 = ad158 := (by injection e158)
              replace hx158_0 := (HB.out.cell (World.block_lt_of_cell? w _ hx158_0)).trans hx158_0
              replace hx158_1 := (HB.out.cell (World.block_lt_of_cell? w _ hx158_1)).trans hx158_1
              replace p158 := eq_true p158
              replace q158 := eq_true q158
              have p159 : 0 ≤ (x4_2 : Int) := zA
              have q159 : x4_2 < (l0.length : Int) := zA
              obtain ⟨ad159, e159, hx159_0, hx159_1⟩ := at_T55 HR0.out x4_2 p159 q159
              have hw159_1 := hx159_1
              have hw159_0 := hx159_0
              obtain rfl : ad156 = ad159 := (by injection e159)
              replace hx159_0 := (HB.out.cell (World.block_lt_of_cell? w _ hx159_0)).trans hx159_0
              replace hx159_1 := (HB.out.cell (World.block_lt_of_cell? w _ hx159_1)).trans hx159_1
              replace p159 := eq_true p159
              replace q159 := eq_true q159
              have p160 : 0 ≤ (x3_1 : Int) := zA
              have q160 : x3_1 < (l0.length : Int) := zA
              obtain ⟨ad160, e160, hx160_0, hx160_1⟩ := at_T55 HR0.out x3_1 p160 q160
              have hw160_1 := hx160_1
              have hw160_0 := hx160_0
              obtain rfl : ad156 = ad160 := (by injection e160)
              replace hx160_0 := (HB.out.cell (World.block_lt_of_cell? w _ hx160_0)).trans hx160_0
              replace hx160_1 := (HB.out.cell (World.block_lt_of_cell? w _ hx160_1)).trans hx160_1
              replace p160 := eq_true p160
              replace q160 := eq_true q160
              refine start_ (n := 14) (S := fun w' => w'.cell? (ad156.add ((x5_3).toNat * 2)) = some (.int .i64 ((rd_T55 l0 x5_3).f0)) ∧ w'.cell? ⟨(ad156.add ((x5_3).toNat * 2)).block, (ad156.add ((x5_3).toNat * 2)).off + 1, none⟩ = some (.int .i64 ((rd_T55 l0 x5_3).f1)) ∧ w'.cell? (ad156.add ((x4_2).toNat * 2)) = some (.int .i64 ((rd_T55 l0 x4_2).f0)) ∧ w'.cell? ⟨(ad156.add ((x4_2).toNat * 2)).block, (ad156.add ((x4_2).toNat * 2)).off + 1, none⟩ = some (.int .i64 ((rd_T55 l0 x4_2).f1)) ∧ w'.cell? (ad156.add ((x3_1).toNat * 2)) = some (.int .i64 ((rd_T55 l0 x3_1).f0)) ∧ w'.cell? ⟨(ad156.add ((x3_1).toNat * 2)).block, (ad156.add ((x3_1).toNat * 2)).off + 1, none⟩ = some (.int .i64 ((rd_T55 l0 x3_1).f1))) (ds := []) #[false, false, false, false, false, false, false, false, false, false, false, false, false, false] (by kernel_rfl) rfl rfl ⟨((HB.out.cell (World.block_lt_of_cell? w _ hw158_0)).trans hw158_0), ((HB.out.cell (World.block_lt_of_cell? w _ hw158_1)).trans hw158_1), ((HB.out.cell (World.block_lt_of_cell? w _ hw159_0)).trans hw159_0), ((HB.out.cell (World.block_lt_of_cell? w _ hw159_1)).trans hw159_1), ((HB.out.cell (World.block_lt_of_cell? w _ hw160_0)).trans hw160_0), ((HB.out.cell (World.block_lt_of_cell? w _ hw160_1)).trans hw160_1)⟩ (fun hHeld => ?_); refine with_tabW spec_ArePoints.tab14 spec_ArePoints.bits14 (fun HT_ HW_ => ?_)
              generalize wr.drew = w19 at HB hx158_0 hx158_1 hx159_0 hx159_1 hx160_0 hx160_1 hHeld ⊢
              refine zP 0 (some 32) rfl rfl ?_
              refine zP 1 (some 33) rfl rfl ?_
              refine zP 2 (some 34) rfl rfl ?_
              refine zP 4 (some 36) rfl rfl ?_
              refine zP 5 (some 37) rfl rfl ?_
              refine zP 6 (some 38) rfl rfl ?_
              refine zP 8 (some 40) rfl rfl ?_
              refine zP 9 (some 41) rfl rfl ?_
              refine zP 10 (some 42) rfl rfl ?_
              refine zY6 3 (some 35) rfl rfl hHeld ?_
              refine zY6 7 (some 39) rfl rfl hHeld ?_
              refine zY6 11 (some 43) rfl rfl hHeld ?_
              refine zU 12 (some 44) rfl rfl (fun K hK => ?_)
              refine goes_ Tryd.func57 (by kernel_rfl) rfl #[.agg #[.int .i64 ((rd_T55 l0 x5_3).f0), .int .i64 ((rd_T55 l0 x5_3).f1)], .agg #[.int .i64 ((rd_T55 l0 x4_2).f0), .int .i64 ((rd_T55 l0 x4_2).f1)], .agg #[.int .i64 ((rd_T55 l0 x3_1).f0), .int .i64 ((rd_T55 l0 x3_1).f1)]] (by rfl) rfl rfl zM ?_
              with_reducible refine (spec_l2Area.calls ((rd_T55 l0 x5_3).f0) ((rd_T55 l0 x5_3).f1) ((rd_T55 l0 x4_2).f0) ((rd_T55 l0 x4_2).f1) ((rd_T55 l0 x3_1).f0) ((rd_T55 l0 x3_1).f1) t161 _ A17.out).mono ?_
              rintro e w20 ⟨rfl, hb⟩
              refine ⟨_, rfl, ?_⟩
              replace HB := zX hb
              (try clear hb)
              refine hK.out _ _ ⟨((HB.out.cell (World.block_lt_of_cell? w _ hw158_0)).trans hw158_0), ((HB.out.cell (World.block_lt_of_cell? w _ hw158_1)).trans hw158_1), ((HB.out.cell (World.block_lt_of_cell? w _ hw159_0)).trans hw159_0), ((HB.out.cell (World.block_lt_of_cell? w _ hw159_1)).trans hw159_1), ((HB.out.cell (World.block_lt_of_cell? w _ hw160_0)).trans hw160_0), ((HB.out.cell (World.block_lt_of_cell? w _ hw160_1)).trans hw160_1)⟩ (fun hHeld => ?_)
              clear hK K
              refine zN ?_
              refine zP 13 (some 45) rfl rfl ?_
              refine done_ (done_of HT_.out (by kernel_rfl)) ?_
              try go_wp2
              go_ret
              exact ⟨zE, zB⟩
             rw [if_neg c18] at H
             have c18b0 : (t161 == 0) = false := beq_eq_false_iff_ne.mpr c18
             have c18b1 : (t161 != 0) = true := bne_iff_ne.mpr c18
             have H' := Aside0.mk H; clear H
             try go_wp2
             replace HB := Aside0.mk (below_drew1 HB.out)
             have p158 : 0 ≤ (x5_3 : Int) := zA
             have q158 : x5_3 < (l0.length : Int) := zA
             obtain ⟨ad158, e158, hx158_0, hx158_1⟩ := at_T55 HR0.out x5_3 p158 q158
             have hw158_1 := hx158_1
             have hw158_0 := hx158_0
             obtain rfl : ad156 = ad158 := (by injection e158)
             replace hx158_0 := (HB.out.cell (World.block_lt_of_cell? w _ hx158_0)).trans hx158_0
             replace hx158_1 := (HB.out.cell (World.block_lt_of_cell? w _ hx158_1)).trans hx158_1
             replace p158 := eq_true p158
             replace q158 := eq_true q158
             have p159 : 0 ≤ (x4_2 : Int) := zA
             have q159 : x4_2 < (l0.length : Int) := zA
             obtain ⟨ad159, e159, hx159_0, hx159_1⟩ := at_T55 HR0.out x4_2 p159 q159
             have hw159_1 := hx159_1
             have hw159_0 := hx159_0
             obtain rfl : ad156 = ad159 := (by injection e159)
             replace hx159_0 := (HB.out.cell (World.block_lt_of_cell? w _ hx159_0)).trans hx159_0
             replace hx159_1 := (HB.out.cell (World.block_lt_of_cell? w _ hx159_1)).trans hx159_1
             replace p159 := eq_true p159
             replace q159 := eq_true q159
             have p160 : 0 ≤ (x3_1 : Int) := zA
             have q160 : x3_1 < (l0.length : Int) := zA
             obtain ⟨ad160, e160, hx160_0, hx160_1⟩ := at_T55 HR0.out x3_1 p160 q160
             have hw160_1 := hx160_1
             have hw160_0 := hx160_0
             obtain rfl : ad156 = ad160 := (by injection e160)
             replace hx160_0 := (HB.out.cell (World.block_lt_of_cell? w _ hx160_0)).trans hx160_0
             replace hx160_1 := (HB.out.cell (World.block_lt_of_cell? w _ hx160_1)).trans hx160_1
             replace p160 := eq_true p160
             replace q160 := eq_true q160
             refine start_ (n := 14) (S := fun w' => w'.cell? (ad156.add ((x5_3).toNat * 2)) = some (.int .i64 ((rd_T55 l0 x5_3).f0)) ∧ w'.cell? ⟨(ad156.add ((x5_3).toNat * 2)).block, (ad156.add ((x5_3).toNat * 2)).off + 1, none⟩ = some (.int .i64 ((rd_T55 l0 x5_3).f1)) ∧ w'.cell? (ad156.add ((x4_2).toNat * 2)) = some (.int .i64 ((rd_T55 l0 x4_2).f0)) ∧ w'.cell? ⟨(ad156.add ((x4_2).toNat * 2)).block, (ad156.add ((x4_2).toNat * 2)).off + 1, none⟩ = some (.int .i64 ((rd_T55 l0 x4_2).f1)) ∧ w'.cell? (ad156.add ((x3_1).toNat * 2)) = some (.int .i64 ((rd_T55 l0 x3_1).f0)) ∧ w'.cell? ⟨(ad156.add ((x3_1).toNat * 2)).block, (ad156.add ((x3_1).toNat * 2)).off + 1, none⟩ = some (.int .i64 ((rd_T55 l0 x3_1).f1))) (ds := []) #[false, false, false, false, false, false, false, false, false, false, false, false, false, false] (by kernel_rfl) rfl rfl ⟨((HB.out.cell (World.block_lt_of_cell? w _ hw158_0)).trans hw158_0), ((HB.out.cell (World.block_lt_of_cell? w _ hw158_1)).trans hw158_1), ((HB.out.cell (World.block_lt_of_cell? w _ hw159_0)).trans hw159_0), ((HB.out.cell (World.block_lt_of_cell? w _ hw159_1)).trans hw159_1), ((HB.out.cell (World.block_lt_of_cell? w _ hw160_0)).trans hw160_0), ((HB.out.cell (World.block_lt_of_cell? w _ hw160_1)).trans hw160_1)⟩ (fun hHeld => ?_); refine with_tabW spec_ArePoints.tab14 spec_ArePoints.bits14 (fun HT_ HW_ => ?_)
             generalize wr.drew = w21 at HB hx158_0 hx158_1 hx159_0 hx159_1 hx160_0 hx160_1 hHeld ⊢
             refine zP 0 (some 32) rfl rfl ?_
             refine zP 1 (some 33) rfl rfl ?_
             refine zP 2 (some 34) rfl rfl ?_
             refine zP 4 (some 36) rfl rfl ?_
             refine zP 5 (some 37) rfl rfl ?_
             refine zP 6 (some 38) rfl rfl ?_
             refine zP 8 (some 40) rfl rfl ?_
             refine zP 9 (some 41) rfl rfl ?_
             refine zP 10 (some 42) rfl rfl ?_
             refine zY6 3 (some 35) rfl rfl hHeld ?_
             refine zY6 7 (some 39) rfl rfl hHeld ?_
             refine zY6 11 (some 43) rfl rfl hHeld ?_
             refine zU 12 (some 44) rfl rfl (fun K hK => ?_)
             refine goes_ Tryd.func57 (by kernel_rfl) rfl #[.agg #[.int .i64 ((rd_T55 l0 x5_3).f0), .int .i64 ((rd_T55 l0 x5_3).f1)], .agg #[.int .i64 ((rd_T55 l0 x4_2).f0), .int .i64 ((rd_T55 l0 x4_2).f1)], .agg #[.int .i64 ((rd_T55 l0 x3_1).f0), .int .i64 ((rd_T55 l0 x3_1).f1)]] (by rfl) rfl rfl zM ?_
             with_reducible refine (spec_l2Area.calls ((rd_T55 l0 x5_3).f0) ((rd_T55 l0 x5_3).f1) ((rd_T55 l0 x4_2).f0) ((rd_T55 l0 x4_2).f1) ((rd_T55 l0 x3_1).f0) ((rd_T55 l0 x3_1).f1) t161 _ A17.out).mono ?_
             rintro e w22 ⟨rfl, hb⟩
             refine ⟨_, rfl, ?_⟩
             replace HB := zX hb
             (try clear hb)
             refine hK.out _ _ ⟨((HB.out.cell (World.block_lt_of_cell? w _ hw158_0)).trans hw158_0), ((HB.out.cell (World.block_lt_of_cell? w _ hw158_1)).trans hw158_1), ((HB.out.cell (World.block_lt_of_cell? w _ hw159_0)).trans hw159_0), ((HB.out.cell (World.block_lt_of_cell? w _ hw159_1)).trans hw159_1), ((HB.out.cell (World.block_lt_of_cell? w _ hw160_0)).trans hw160_0), ((HB.out.cell (World.block_lt_of_cell? w _ hw160_1)).trans hw160_1)⟩ (fun hHeld => ?_)
             clear hK K
             refine zN ?_
             refine zP 13 (some 45) rfl rfl ?_
             refine done_ (done_of HT_.out (by kernel_rfl)) ?_
             try go_wp2
             go_roundg k3
             case measure => have := HK1.out; have := HK2.out; have := HK3.out; omega
             case rel => exact ⟨(wrap64 (x5_3 + 1)), zF, H', ⟨by have := HK1.out; have := HK2.out; have := HK3.out; omega⟩, ⟨zB⟩⟩
            rw [if_neg c16] at H
            exact absurd H (by simp)
           rw [if_neg c15] at H
           exact absurd H (by simp)
          rw [if_neg c14] at H
          exact absurd H (by simp)
         rw [if_neg c13] at H
         exact absurd H (by simp)
        rw [if_neg c12] at H
        exact absurd H (by simp)
       rw [if_neg c11] at H
       exact absurd H (by simp)
      rw [if_neg c10] at H
      have c10b0 : decide (x5_3 < x4_2) = false := decide_eq_false c10
      clear c10
      have H' := Aside0.mk H; clear H
      go_wp2
      go_roundg k3
      case measure => have := HK1.out; have := HK2.out; have := HK3.out; omega
      case rel => exact ⟨(wrap64 (x4_2 + 1)), zF, H', ⟨by have := HK1.out; have := HK2.out; have := HK3.out; omega⟩, ⟨zB⟩⟩
     rw [if_neg c9] at H
     have c9b0 : decide (x4_2 < x3_1) = false := decide_eq_false c9
     clear c9
     have H' := Aside0.mk H; clear H
     go_wp2
     go_roundg k2
     case measure => have := HK1.out; have := HK2.out; omega
     case rel => exact ⟨(wrap64 (x3_1 + 1)), zF, H', ⟨by have := HK1.out; have := HK2.out; omega⟩, ⟨zB⟩⟩
    replace c7 := Bool.eq_false_iff.mpr c7
    subst c7
    replace H := (if_neg zFf).symm.trans H
    obtain rfl := Option.some.inj H
    have p156 : 0 ≤ (x3_1 : Int) := zA
    have q156 : x3_1 < (l0.length : Int) := zA
    obtain ⟨ad156, e156, hx156_0, hx156_1⟩ := at_T55 HR0.out x3_1 p156 q156
    cases e156
    replace hx156_0 := (HB.out.cell (World.block_lt_of_cell? w _ hx156_0)).trans hx156_0
    replace hx156_1 := (HB.out.cell (World.block_lt_of_cell? w _ hx156_1)).trans hx156_1
    replace p156 := eq_true p156
    replace q156 := eq_true q156
    go_wp2_with (first | ((with_reducible refine gate_callee (f := 56) rfl ?_); refine zD (some 20) Tryd.func56 #[.agg #[.int .i64 ((rd_T55 l0 x3_1).f0), .int .i64 ((rd_T55 l0 x3_1).f1)], .int .i64 50] ?_; (with_reducible refine (spec_l2Fits.calls ((rd_T55 l0 x3_1).f0) ((rd_T55 l0 x3_1).f1) 50 false _ A6.out).mono ?_); rintro e w23 ⟨rfl, hb⟩; refine ⟨_, rfl, ?_⟩; replace HB := zX hb; (try clear hb)))
    go_ret
    exact ⟨zE, zB⟩
   rw [if_neg c5] at H
   exact absurd H (by simp)
  rw [if_neg c4] at H
  have c4b0 : decide (x3_1 < (l0.length : Int)) = false := decide_eq_false c4
  clear c4
  obtain rfl := Option.some.inj H
  go_wp2
  go_ret
  exact ⟨zE, zB⟩
 replace c3 := Bool.eq_false_iff.mpr c3
 subst c3
 replace H := (if_neg zFf).symm.trans H
 obtain rfl := Option.some.inj H
 go_enter Tryd.func39, Tryd.ntmps39
 go_wp2_with (first | ((with_reducible refine gate_callee (f := 55) rfl ?_); refine zD (some 8) Tryd.func55 #[.int .i64 (l0.length : Int), .int .i64 3, .int .i64 7] ?_; (with_reducible refine (spec_l1In.calls (l0.length : Int) 3 7 false _ A2.out).mono ?_); rintro e w' ⟨rfl, ⟨nd, rfl⟩⟩; refine ⟨_, rfl, ?_⟩))
 go_ret
 exact ⟨zE, zB⟩
/-! ### spec_Join: function 40 -/
def spec_Join.l0 : Nat → List ByteArray → ByteArray → List Int → Int → Option (ByteArray)
 | 0, _, _, _, _ => none
 | k + 1, x0, x1, x5, x6 => if x6 < (x0.length : Int) then (if x6 > 0 then (if x5.length + x1.size < 140737488355328 then ((some (x5 ++ bytesOf x1 : List Int)).bind fun y165 => (if 0 ≤ x6 then (if y165.length + (rdOf ByteArray.empty x0 x6).size < 140737488355328 then (spec_Join.l0 k x0 x1 (y165 ++ bytesOf (rdOf ByteArray.empty x0 x6)) (wrap64 (x6 + 1))) else (none)) else (none))) else (none)) else (if 0 ≤ x6 then (if x5.length + (rdOf ByteArray.empty x0 x6).size < 140737488355328 then (spec_Join.l0 k x0 x1 (x5 ++ bytesOf (rdOf ByteArray.empty x0 x6)) (wrap64 (x6 + 1))) else (none)) else (none))) else (some (strOfNums x5))
def spec_Join.f (k : Nat) (l0 : List ByteArray) (a1 : ByteArray) : Option (ByteArray) := spec_Join.l0 k l0 a1 (([] : List Int)) 0
set_option maxHeartbeats 8000000 in
set_option maxRecDepth 100000 in
theorem spec_Join.calls (k : Nat) (A0 : Option Addr) (c0 : Nat) (l0 : List ByteArray) (a1 : ByteArray) (r : ByteArray) (w : World) (hr0 : Kd.C Kd.string w A0 l0.length l0) (hc0 : l0.length ≤ c0) (h : spec_Join.f k l0 a1 = some r) :
  Calls Tryd.prog 40 #[.slice A0 l0.length c0, .string a1] w fun e w' => e = .returned (.string r) ∧ Below w.heap.size w w' := by
 have HR0 := Aside0.mk hr0
 have HC0 := Aside0.mk hc0
 clear hr0 hc0
 have HB := Aside0.mk (Below.refl w.heap.size w)
 have H : (spec_Join.l0 k l0 a1 (([] : List Int)) 0) = some r := h
 clear h
 obtain ⟨y162, hy162⟩ : ∃ y_ : List Int, y_ = (([] : List Int)) := ⟨_, rfl⟩
 replace H : (spec_Join.l0 k l0 a1 y162 0) = some r := by first | (rw [hy162]; with_reducible exact H) | (have H2_ := (Option.bind_some _ _).symm.trans H; rw [hy162]; with_reducible exact H2_) | (have H2_ := (Option.bind_some _ _).symm.trans H; with_reducible exact H2_) | with_reducible exact H | (rw [hy162]; exact H) | exact H
 have Ny162 := Aside0.mk hy162
 clear hy162
 have H' := Aside0.mk H; clear H
 go_enter Tryd.func40, Tryd.ntmps40
 go_wp2_with (first | ((with_reducible refine gate_dst (N := 7) rfl ?_); refine Kd.R_lit (Kd.int .u8) _ 5 ?hg (N := 7) ?hd (xs := ([] : List Int)) (inner := []) (ok := fun _ => True) (okp := fun _ => True) ?hr ?hp (fun _ hk => hk) trivial (Below.refl _ _) (Nat.le_refl _) (by simp) ?_; (case hd => rfl); (case hg => rfl); (case hr => first | (go_simp; done) | (go_simp; rfl)); (case hp => exact (Reps.none _ _)); intro v163 w3 ho4 hb hg_ hnew_; clear hg_ hnew_; (first | rw [← Ny162.out] at ho4 | (simp only [Int.reduceToNat] at ho4; rw [← Ny162.out] at ho4)); have HO164 := Aside0.mk (Kd.R_lower ho4 (below_size zB)); replace HB := zX hb; clear hb ho4))
 go_loopg [5, 6] k (fun kq v5 v6 w' => ∃ (x5_1 : List Int) (x6_1 : Int), v6 = .int .i64 x6_1 ∧ Aside0 (spec_Join.l0 kq l0 a1 x5_1 x6_1 = some r) ∧ Aside0 (kq ≤ k) ∧ Aside0 (Kd.R (Kd.int .u8) 5 w' w.heap.size (fun _ => True) v5 x5_1) ∧ Aside0 (Below w.heap.size w w'))
 case atStart => exact ⟨(y162), (0), zF, H', ⟨Nat.le_refl _⟩, ⟨zR HO164.out⟩, ⟨zB⟩⟩
 case round =>
 clear H'
 obtain ⟨x5_1, x6_1, rfl, HA, HK1, HO_5, HB⟩ := hrel
 cases gk with
 | zero => exact absurd HA.out (by simp [spec_Join.l0])
 | succ k1 =>
 have H := HA.out
 clear HA
 simp only [spec_Join.l0] at H
 by_cases c5 : x6_1 < (l0.length : Int)
 ·rw [if_pos c5] at H
  have c5b0 : decide (x6_1 < (l0.length : Int)) = true := decide_eq_true c5
  clear c5
  by_cases c6 : x6_1 > 0
  ·rw [if_pos c6] at H
   have c6b0 : decide (0 < x6_1) = true := decide_eq_true c6
   clear c6
   by_cases c7 : x5_1.length + a1.size < 140737488355328
   ·rw [if_pos c7] at H
    have LMc7 := Aside0.mk c7
    clear c7
    obtain ⟨y165, hy165⟩ : ∃ y_ : List Int, y_ = (x5_1 ++ bytesOf a1) := ⟨_, rfl⟩
    replace H : (if 0 ≤ x6_1 then (if y165.length + (rdOf ByteArray.empty l0 x6_1).size < 140737488355328 then (spec_Join.l0 k1 l0 a1 (y165 ++ bytesOf (rdOf ByteArray.empty l0 x6_1)) (wrap64 (x6_1 + 1))) else (none)) else (none)) = some r := by first | (rw [hy165]; with_reducible exact H) | (have H2_ := (Option.bind_some _ _).symm.trans H; rw [hy165]; with_reducible exact H2_) | (have H2_ := (Option.bind_some _ _).symm.trans H; with_reducible exact H2_) | with_reducible exact H | (rw [hy165]; exact H) | exact H
    have Ny165 := Aside0.mk hy165
    clear hy165
    by_cases c8 : 0 ≤ x6_1
    ·rw [if_pos c8] at H
     have c8b0 : decide (0 ≤ x6_1) = true := decide_eq_true c8
     clear c8
     by_cases c9 : y165.length + (rdOf ByteArray.empty l0 x6_1).size < 140737488355328
     ·rw [if_pos c9] at H
      have LMc9 := Aside0.mk c9
      clear c9
      obtain ⟨y169, hy169⟩ : ∃ y_ : List Int, y_ = (y165 ++ bytesOf (rdOf ByteArray.empty l0 x6_1)) := ⟨_, rfl⟩
      replace H : (spec_Join.l0 k1 l0 a1 y169 (wrap64 (x6_1 + 1))) = some r := by first | (rw [hy169]; with_reducible exact H) | (have H2_ := (Option.bind_some _ _).symm.trans H; rw [hy169]; with_reducible exact H2_) | (have H2_ := (Option.bind_some _ _).symm.trans H; with_reducible exact H2_) | with_reducible exact H | (rw [hy169]; exact H) | exact H
      have Ny169 := Aside0.mk hy169
      clear hy169
      have H' := Aside0.mk H; clear H
      go_wp2_with (first | (at_builtin; refine print_append_str (w0 := w) w.heap.size rfl (.tmp 16) _ 41 9 5 rfl Tryd.underlying41 Tryd.underlying9 info5 u5 x5_1 a1 rfl rfl ?aO ?aB ?aS ?aL ?_; (case aB => exact zB); (case aO => exact (Kd.own_of_R (zR HO_5.out))); (case aS => exact (below_size zB)); (case aL => have := LMc7.out; omega); intro v166 w10 ho0 hb hg; have ho := Kd.R_of_own (h1 := fun _ => rfl) (ok := fun _ => True) ho0 (fun _ _ => trivial); clear ho0; have hat := True.intro; rw [← Ny165.out] at ho; change Kd.R (Kd.int .u8) 5 w10 w.heap.size (fun _ => True) v166 y165 at ho; have n0_ := Aside0.mk (hb); have n1_ := Aside0.mk (ho); clear HB; clear HO_5; have HB := n0_; have HO167 := n1_; clear n0_ n1_; clear ho hb hg hat; have p168 : 0 ≤ (x6_1 : Int) := zA; have q168 : x6_1 < (l0.length : Int) := zA; obtain ⟨ad168, e168, hx168_0⟩ := Kd.at_string HR0.out x6_1 p168 q168; cases e168; replace hx168_0 := (HB.out.cell (World.block_lt_of_cell? w _ hx168_0)).trans hx168_0; replace p168 := eq_true p168; replace q168 := eq_true q168) | (at_builtin; refine print_append_str (w0 := w) w.heap.size rfl (.tmp 19) _ 41 9 5 rfl Tryd.underlying41 Tryd.underlying9 info5 v166 y165 (rdOf ByteArray.empty l0 x6_1) rfl rfl ?aO ?aB ?aS ?aL ?_; (case aB => exact zB); (case aO => exact (Kd.own_of_R (zR HO167.out))); (case aS => exact (below_size zB)); (case aL => have := LMc9.out; omega); intro v170 w11 ho0 hb hg; have ho := Kd.R_of_own (h1 := fun _ => rfl) (ok := fun _ => True) ho0 (fun _ _ => trivial); clear ho0; have hat := True.intro; rw [← Ny169.out] at ho; change Kd.R (Kd.int .u8) 5 w11 w.heap.size (fun _ => True) v170 y169 at ho; have n0_ := Aside0.mk (hb); have n1_ := Aside0.mk (ho); clear HB; clear HO167; have HB := n0_; have HO171 := n1_; clear n0_ n1_; clear ho hb hg hat))
      go_roundg k1
      case measure => have := HK1.out; omega
      case rel => exact ⟨(y169), (wrap64 (x6_1 + 1)), zF, H', ⟨by have := HK1.out; omega⟩, ⟨zR HO171.out⟩, ⟨zB⟩⟩
     rw [if_neg c9] at H
     exact absurd H (by simp)
    rw [if_neg c8] at H
    exact absurd H (by simp)
   rw [if_neg c7] at H
   exact absurd H (by simp)
  rw [if_neg c6] at H
  have c6b0 : decide (0 < x6_1) = false := decide_eq_false c6
  clear c6
  by_cases c12 : 0 ≤ x6_1
  ·rw [if_pos c12] at H
   have c12b0 : decide (0 ≤ x6_1) = true := decide_eq_true c12
   clear c12
   by_cases c13 : x5_1.length + (rdOf ByteArray.empty l0 x6_1).size < 140737488355328
   ·rw [if_pos c13] at H
    have LMc13 := Aside0.mk c13
    clear c13
    obtain ⟨y173, hy173⟩ : ∃ y_ : List Int, y_ = (x5_1 ++ bytesOf (rdOf ByteArray.empty l0 x6_1)) := ⟨_, rfl⟩
    replace H : (spec_Join.l0 k1 l0 a1 y173 (wrap64 (x6_1 + 1))) = some r := by first | (rw [hy173]; with_reducible exact H) | (have H2_ := (Option.bind_some _ _).symm.trans H; rw [hy173]; with_reducible exact H2_) | (have H2_ := (Option.bind_some _ _).symm.trans H; with_reducible exact H2_) | with_reducible exact H | (rw [hy173]; exact H) | exact H
    have Ny173 := Aside0.mk hy173
    clear hy173
    have H' := Aside0.mk H; clear H
    have p172 : 0 ≤ (x6_1 : Int) := zA
    have q172 : x6_1 < (l0.length : Int) := zA
    obtain ⟨ad172, e172, hx172_0⟩ := Kd.at_string HR0.out x6_1 p172 q172
    cases e172
    replace hx172_0 := (HB.out.cell (World.block_lt_of_cell? w _ hx172_0)).trans hx172_0
    replace p172 := eq_true p172
    replace q172 := eq_true q172
    go_wp2_with (first | (at_builtin; refine print_append_str (w0 := w) w.heap.size rfl (.tmp 19) _ 41 9 5 rfl Tryd.underlying41 Tryd.underlying9 info5 u5 x5_1 (rdOf ByteArray.empty l0 x6_1) rfl rfl ?aO ?aB ?aS ?aL ?_; (case aB => exact zB); (case aO => exact (Kd.own_of_R (zR HO_5.out))); (case aS => exact (below_size zB)); (case aL => have := LMc13.out; omega); intro v174 w14 ho0 hb hg; have ho := Kd.R_of_own (h1 := fun _ => rfl) (ok := fun _ => True) ho0 (fun _ _ => trivial); clear ho0; have hat := True.intro; rw [← Ny173.out] at ho; change Kd.R (Kd.int .u8) 5 w14 w.heap.size (fun _ => True) v174 y173 at ho; have n0_ := Aside0.mk (hb); have n1_ := Aside0.mk (ho); clear HB; clear HO_5; have HB := n0_; have HO175 := n1_; clear n0_ n1_; clear ho hb hg hat))
    go_roundg k1
    case measure => have := HK1.out; omega
    case rel => exact ⟨(y173), (wrap64 (x6_1 + 1)), zF, H', ⟨by have := HK1.out; omega⟩, ⟨zR HO175.out⟩, ⟨zB⟩⟩
   rw [if_neg c13] at H
   exact absurd H (by simp)
  rw [if_neg c12] at H
  exact absurd H (by simp)
 rw [if_neg c5] at H
 have c5b0 : decide (x6_1 < (l0.length : Int)) = false := decide_eq_false c5
 clear c5
 obtain rfl := Option.some.inj H
 have hcv15 := own_string (P := Tryd.prog) Tryd.underlying41 Tryd.underlying5 Tryd.underlying9 (Kd.own_of_R HO_5.out)
 go_wp2
 go_ret
 exact ⟨zE, zB⟩
/-! ### spec_PointsText: function 18 -/
def spec_PointsText.l0 : Nat → List (S55) → List ByteArray → Int → Option (ByteArray)
 | 0, _, _, _ => none
 | k + 1, x0, x3, x4 => if x4 < (x0.length : Int) then (if 0 ≤ x4 then ((spec_FormatInt.f k ((rd_T55 x0 x4).f0)).bind fun t181 => (if t181.size + 1 ≤ 9223372036854775807 then ((spec_FormatInt.f k ((rd_T55 x0 x4).f1)).bind fun t183 => (if t181.size + 1 + t183.size ≤ 9223372036854775807 then (if x3.length < 8796093022208 then (spec_PointsText.l0 k x0 (x3 ++ [(t181 ++ (⟨#[44]⟩ : ByteArray)) ++ t183]) (wrap64 (x4 + 1))) else (none)) else (none))) else (none))) else (none)) else ((spec_Join.f k x3 (⟨#[32]⟩ : ByteArray)).bind fun t187 => (some t187))
def spec_PointsText.f (k : Nat) (l0 : List (S55)) : Option (ByteArray) := (spec_ArePoints.f k l0).bind fun t176 => (if t176 = true then (spec_PointsText.l0 k l0 (([] : List ByteArray)) 0) else (some (⟨#[]⟩ : ByteArray)))
def spec_PointsText.T7 : Bool × List (List Nat × List Nat) := (true, [([], []), ([], []), ([], []), ([1, 2], [1, 2]), ([3], [3]), ([4], [4]), ([5], [5]), ([6], [6]), ([], []), ([], []), ([8, 9], [8, 9]), ([10], [10]), ([11], [11]), ([12, 6], [12]), ([7, 13], [7, 13]), ([14], [14]), ([0, 15, 13], [0, 15]), ([16, 16, 0, 1, 2, 3, 4, 5, 6, 7, 8, 9, 10, 11, 12, 13, 14, 15, 16], [0, 16])])
def spec_PointsText.B7 : List Nat := [0, 0, 0, 6, 14, 30, 62, 126, 0, 0, 768, 1792, 3840, 8062, 16382, 32766, 65535, 131071]
theorem spec_PointsText.tab7 : rtab .any (opsOf Tryd.f18 7) = spec_PointsText.T7 := by kernel_rfl
theorem spec_PointsText.bits7 : waitsOk spec_PointsText.T7.2 spec_PointsText.B7 = true := by kernel_rfl
set_option maxHeartbeats 8000000 in
set_option maxRecDepth 100000 in
theorem spec_PointsText.calls (k : Nat) (A0 : Option Addr) (c0 : Nat) (l0 : List (S55)) (r : ByteArray) (w : World) (hr0 : Kd.C k55 w A0 l0.length l0) (hc0 : l0.length ≤ c0) (h : spec_PointsText.f k l0 = some r) :
  Calls Tryd.prog 18 #[.slice A0 l0.length c0] w fun e w' => e = .returned (.string r) ∧ Below w.heap.size w w' := by
 have HR0 := Aside0.mk hr0
 have HC0 := Aside0.mk hc0
 clear hr0 hc0
 have HB := Aside0.mk (Below.refl w.heap.size w)
 have H : ((spec_ArePoints.f k l0).bind fun t176 => (if t176 = true then (spec_PointsText.l0 k l0 (([] : List ByteArray)) 0) else (some (⟨#[]⟩ : ByteArray)))) = some r := h
 clear h
 obtain ⟨t176, A2, H⟩ := zO H
 by_cases c3 : t176 = true
 ·subst c3
  replace H := (if_pos rfl).symm.trans H
  obtain ⟨y177, hy177⟩ : ∃ y_ : List ByteArray, y_ = (([] : List ByteArray)) := ⟨_, rfl⟩
  replace H : (spec_PointsText.l0 k l0 y177 0) = some r := by first | (rw [hy177]; with_reducible exact H) | (have H2_ := (Option.bind_some _ _).symm.trans H; rw [hy177]; with_reducible exact H2_) | (have H2_ := (Option.bind_some _ _).symm.trans H; with_reducible exact H2_) | with_reducible exact H | (rw [hy177]; exact H) | exact H
  have Ny177 := Aside0.mk hy177
  clear hy177
  have H' := Aside0.mk H; clear H
  go_enter Tryd.func18, Tryd.ntmps18
  go_wp2_with (first | ((with_reducible refine gate_callee (f := 39) rfl ?_); refine zD (some 6) Tryd.func39 #[.slice A0 l0.length c0] ?_; (with_reducible refine (spec_ArePoints.calls k _ _ l0 true _ ?side1 ?side2 A2.out).mono ?_); (case side1 => repeat (first | exact HR0.out | (with_reducible refine Kd.C_alloc ?_ _) | (with_reducible refine Kd.C_drewN ?_ _) | (with_reducible refine Kd.C_drew ?_))); (case side2 => exact HC0.out); rintro e w4 ⟨rfl, hb⟩; refine ⟨_, rfl, ?_⟩; replace HB := zX hb; (try clear hb)) | ((with_reducible refine gate_dst (N := 8) rfl ?_); refine Kd.R_lit Kd.string _ 9 ?hg (N := 8) ?hd (xs := ([] : List ByteArray)) (inner := []) (ok := fun _ => True) (okp := fun _ => True) ?hr ?hp (fun _ hk => hk) trivial (Below.refl _ _) (Nat.le_refl _) (by simp) ?_; (case hd => rfl); (case hg => rfl); (case hr => first | (go_simp; done) | (go_simp; rfl)); (case hp => exact (Reps.none _ _)); intro v178 w5 ho6 hb hg_ hnew_; clear hg_ hnew_; (first | rw [← Ny177.out] at ho6 | (simp only [Int.reduceToNat] at ho6; rw [← Ny177.out] at ho6)); have HO179 := Aside0.mk (Kd.R_lower ho6 (below_size zB)); replace HB := zX hb; clear hb ho6))
  go_loopg [3, 4] k (fun kq v3 v4 w' => ∃ (x3_1 : List ByteArray) (x4_1 : Int), v4 = .int .i64 x4_1 ∧ Aside0 (spec_PointsText.l0 kq l0 x3_1 x4_1 = some r) ∧ Aside0 (kq ≤ k) ∧ Aside0 (Kd.R Kd.string 9 w' w.heap.size (fun _ => True) v3 x3_1) ∧ Aside0 (Below w.heap.size w w'))
  case atStart => exact ⟨(y177), (0), zF, H', ⟨Nat.le_refl _⟩, ⟨zR HO179.out⟩, ⟨zB⟩⟩
  case round =>
  clear H'
  try clear c3
  obtain ⟨x3_1, x4_1, rfl, HA, HK1, HO_3, HB⟩ := hrel
  cases gk with
  | zero => exact absurd HA.out (by simp [spec_PointsText.l0])
  | succ k1 =>
  have H := HA.out
  clear HA
  simp only [spec_PointsText.l0] at H
  by_cases c7 : x4_1 < (l0.length : Int)
  ·rw [if_pos c7] at H
   have c7b0 : decide (x4_1 < (l0.length : Int)) = true := decide_eq_true c7
   clear c7
   by_cases c8 : 0 ≤ x4_1
   ·rw [if_pos c8] at H
    have c8b0 : decide (0 ≤ x4_1) = true := decide_eq_true c8
    clear c8
    obtain ⟨t181, A9, H⟩ := zO H
    by_cases c10 : t181.size + 1 ≤ 9223372036854775807
    ·rw [if_pos c10] at H
     have c10b0 := eq_true c10
     have c10b1 : decide (t181.size + 1 ≤ 9223372036854775807) = true := decide_eq_true c10
     try have c10b2 : (9223372036854775807 < t181.size + 1) = False := eq_false (Nat.not_lt.2 c10)
     obtain ⟨t183, A11, H⟩ := zO H
     by_cases c12 : t181.size + 1 + t183.size ≤ 9223372036854775807
     ·rw [if_pos c12] at H
      have c12b0 := eq_true c12
      have c12b1 : decide (t181.size + 1 + t183.size ≤ 9223372036854775807) = true := decide_eq_true c12
      try have c12b2 : (9223372036854775807 < t181.size + 1 + t183.size) = False := eq_false (Nat.not_lt.2 c12)
      by_cases c13 : x3_1.length < 8796093022208
      ·rw [if_pos c13] at H
       have LMc13 := Aside0.mk c13
       clear c13
       obtain ⟨y184, hy184⟩ : ∃ y_ : List ByteArray, y_ = (x3_1 ++ [(t181 ++ (⟨#[44]⟩ : ByteArray)) ++ t183]) := ⟨_, rfl⟩
       replace H : (spec_PointsText.l0 k1 l0 y184 (wrap64 (x4_1 + 1))) = some r := by first | (rw [hy184]; with_reducible exact H) | (have H2_ := (Option.bind_some _ _).symm.trans H; rw [hy184]; with_reducible exact H2_) | (have H2_ := (Option.bind_some _ _).symm.trans H; with_reducible exact H2_) | with_reducible exact H | (rw [hy184]; exact H) | exact H
       have Ny184 := Aside0.mk hy184
       clear hy184
       have H' := Aside0.mk H; clear H
       try go_wp2
       replace HO_3 := Aside0.mk (Kd.R_drew HO_3.out)
       replace HB := Aside0.mk (below_drew1 HB.out)
       have p180 : 0 ≤ (x4_1 : Int) := zA
       have q180 : x4_1 < (l0.length : Int) := zA
       obtain ⟨ad180, e180, hx180_0, hx180_1⟩ := at_T55 HR0.out x4_1 p180 q180
       have hw180_1 := hx180_1
       have hw180_0 := hx180_0
       cases e180
       replace hx180_0 := (HB.out.cell (World.block_lt_of_cell? w _ hx180_0)).trans hx180_0
       replace hx180_1 := (HB.out.cell (World.block_lt_of_cell? w _ hx180_1)).trans hx180_1
       replace p180 := eq_true p180
       replace q180 := eq_true q180
       have p182 : 0 ≤ (x4_1 : Int) := zA
       have q182 : x4_1 < (l0.length : Int) := zA
       obtain ⟨ad182, e182, hx182_0, hx182_1⟩ := at_T55 HR0.out x4_1 p182 q182
       have hw182_1 := hx182_1
       have hw182_0 := hx182_0
       obtain rfl : ad180 = ad182 := (by injection e182)
       replace hx182_0 := (HB.out.cell (World.block_lt_of_cell? w _ hx182_0)).trans hx182_0
       replace hx182_1 := (HB.out.cell (World.block_lt_of_cell? w _ hx182_1)).trans hx182_1
       replace p182 := eq_true p182
       replace q182 := eq_true q182
       refine start_ (n := 18) (S := fun w' => w'.cell? (ad180.add ((x4_1).toNat * 2)) = some (.int .i64 ((rd_T55 l0 x4_1).f0)) ∧ w'.cell? ⟨(ad180.add ((x4_1).toNat * 2)).block, (ad180.add ((x4_1).toNat * 2)).off + 1, none⟩ = some (.int .i64 ((rd_T55 l0 x4_1).f1)) ∧ w'.cell? (ad180.add ((x4_1).toNat * 2)) = some (.int .i64 ((rd_T55 l0 x4_1).f0)) ∧ w'.cell? ⟨(ad180.add ((x4_1).toNat * 2)).block, (ad180.add ((x4_1).toNat * 2)).off + 1, none⟩ = some (.int .i64 ((rd_T55 l0 x4_1).f1))) (ds := []) #[false, false, false, false, false, false, false, false, false, false, false, false, false, false, false, false, false, false] (by kernel_rfl) rfl rfl ⟨((HB.out.cell (World.block_lt_of_cell? w _ hw180_0)).trans hw180_0), ((HB.out.cell (World.block_lt_of_cell? w _ hw180_1)).trans hw180_1), ((HB.out.cell (World.block_lt_of_cell? w _ hw182_0)).trans hw182_0), ((HB.out.cell (World.block_lt_of_cell? w _ hw182_1)).trans hw182_1)⟩ (fun hHeld => ?_); refine with_tabW spec_PointsText.tab7 spec_PointsText.bits7 (fun HT_ HW_ => ?_)
       generalize wr.drew = w14 at HO_3 HB hx180_0 hx180_1 hx182_0 hx182_1 hHeld ⊢
       refine zP 0 (some 15) rfl rfl ?_
       refine zP 1 (some 16) rfl rfl ?_
       refine zP 2 (some 17) rfl rfl ?_
       refine zP 3 (some 18) rfl rfl ?_
       refine zP 4 (some 19) rfl rfl ?_
       refine zP 8 (some 23) rfl rfl ?_
       refine zP 9 (some 24) rfl rfl ?_
       refine zP 10 (some 25) rfl rfl ?_
       refine zP 11 (some 26) rfl rfl ?_
       refine zY4 5 (some 20) rfl rfl hHeld ?_
       refine zY4 12 (some 27) rfl rfl hHeld ?_
       refine zU 6 (some 21) rfl rfl (fun K hK => ?_)
       refine goes_ Tryd.func11 (by kernel_rfl) rfl #[.int .i64 ((rd_T55 l0 x4_1).f0)] (by rfl) rfl rfl zM ?_
       with_reducible refine (spec_FormatInt.calls k1 ((rd_T55 l0 x4_1).f0) t181 _ A9.out).mono ?_
       rintro e w15 ⟨rfl, hb⟩
       refine ⟨_, rfl, ?_⟩
       replace HO_3 := zW HO_3.out hb
       replace HB := zX hb
       (try clear hb)
       refine hK.out _ _ ⟨((HB.out.cell (World.block_lt_of_cell? w _ hw180_0)).trans hw180_0), ((HB.out.cell (World.block_lt_of_cell? w _ hw180_1)).trans hw180_1), ((HB.out.cell (World.block_lt_of_cell? w _ hw182_0)).trans hw182_0), ((HB.out.cell (World.block_lt_of_cell? w _ hw182_1)).trans hw182_1)⟩ (fun hHeld => ?_)
       clear hK K
       refine zN ?_
       refine zP 7 (some 22) rfl rfl ?_
       refine zU 13 (some 28) rfl rfl (fun K hK => ?_)
       refine goes_ Tryd.func11 (by kernel_rfl) rfl #[.int .i64 ((rd_T55 l0 x4_1).f1)] (by rfl) rfl rfl zM ?_
       with_reducible refine (spec_FormatInt.calls k1 ((rd_T55 l0 x4_1).f1) t183 _ A11.out).mono ?_
       rintro e w16 ⟨rfl, hb⟩
       refine ⟨_, rfl, ?_⟩
       replace HO_3 := zW HO_3.out hb
       replace HB := zX hb
       (try clear hb)
       refine hK.out _ _ ⟨((HB.out.cell (World.block_lt_of_cell? w _ hw180_0)).trans hw180_0), ((HB.out.cell (World.block_lt_of_cell? w _ hw180_1)).trans hw180_1), ((HB.out.cell (World.block_lt_of_cell? w _ hw182_0)).trans hw182_0), ((HB.out.cell (World.block_lt_of_cell? w _ hw182_1)).trans hw182_1)⟩ (fun hHeld => ?_)
       clear hK K
       refine zN ?_
       refine zP 14 (some 29) rfl rfl ?_
       refine zU 15 (some 30) rfl rfl (fun K hK => ?_)
       refine value_ (w1 := ?_) (v := ?_) (by rfl) rfl ?_ ?_
       rotate_left 2
       ·go_simp
        constructor
        ·rfl
        rfl
       refine hK.out _ _ ⟨(World.cell?_alloc_lt _ _ _ (World.block_lt_of_cell? _ _ (((HB.out.cell (World.block_lt_of_cell? w _ hw180_0)).trans hw180_0)))).trans (((HB.out.cell (World.block_lt_of_cell? w _ hw180_0)).trans hw180_0)), (World.cell?_alloc_lt _ _ _ (World.block_lt_of_cell? _ _ (((HB.out.cell (World.block_lt_of_cell? w _ hw180_1)).trans hw180_1)))).trans (((HB.out.cell (World.block_lt_of_cell? w _ hw180_1)).trans hw180_1)), (World.cell?_alloc_lt _ _ _ (World.block_lt_of_cell? _ _ (((HB.out.cell (World.block_lt_of_cell? w _ hw182_0)).trans hw182_0)))).trans (((HB.out.cell (World.block_lt_of_cell? w _ hw182_0)).trans hw182_0)), (World.cell?_alloc_lt _ _ _ (World.block_lt_of_cell? _ _ (((HB.out.cell (World.block_lt_of_cell? w _ hw182_1)).trans hw182_1)))).trans (((HB.out.cell (World.block_lt_of_cell? w _ hw182_1)).trans hw182_1))⟩ (fun hHeld => ?_)
       clear hK K
       refine zN ?_
       refine zU 16 (some 31) rfl rfl (fun K hK => ?_)
       refine Kd.R_append_step Kd.string (w0 := w) w.heap.size (by rfl) (.tmp 15) (.tmp 30) 53 9 (.string ⟨#[]⟩) 16 rfl Tryd.underlying53 info9 rfl (by decide) (by omega) u3 x3_1 ((t181 ++ (⟨#[44]⟩ : ByteArray)) ++ t183) [.string ((t181 ++ (⟨#[44]⟩ : ByteArray)) ++ t183)] (fun _ => True) (fun _ => False) rfl rfl ?aP (fun _ hk => hk.elim) ?aF ?aO ?aB ?aS ?aL ?_
       (case aP => exact rfl)
       (case aB => exact zB)
       (case aF => exact (fun _ _ => trivial))
       (case aO => exact (zR HO_3.out))
       (case aS => exact (below_size zB))
       (case aL => have := LMc13.out; omega)
       intro v185 w17 ho hb hg hat
       rw [← Ny184.out] at ho
       have n0_ := Aside0.mk (hb)
       have n1_ := Aside0.mk (ho)
       clear HB
       clear HO_3
       have HB := n0_
       have HO186 := n1_
       clear n0_ n1_
       clear ho hb hg hat
       refine hK.out _ _ ⟨((HB.out.cell (World.block_lt_of_cell? w _ hw180_0)).trans hw180_0), ((HB.out.cell (World.block_lt_of_cell? w _ hw180_1)).trans hw180_1), ((HB.out.cell (World.block_lt_of_cell? w _ hw182_0)).trans hw182_0), ((HB.out.cell (World.block_lt_of_cell? w _ hw182_1)).trans hw182_1)⟩ (fun hHeld => ?_)
       clear hK K
       refine zN ?_
       refine zP 17 (some 3) rfl rfl ?_
       refine done_ (done_of HT_.out (by kernel_rfl)) ?_
       try go_wp2
       go_roundg k1
       case measure => have := HK1.out; omega
       case rel => exact ⟨(y184), (wrap64 (x4_1 + 1)), zF, H', ⟨by have := HK1.out; omega⟩, ⟨zR HO186.out⟩, ⟨zB⟩⟩
      rw [if_neg c13] at H
      exact absurd H (by simp)
     rw [if_neg c12] at H
     exact absurd H (by simp)
    rw [if_neg c10] at H
    exact absurd H (by simp)
   rw [if_neg c8] at H
   exact absurd H (by simp)
  rw [if_neg c7] at H
  have c7b0 : decide (x4_1 < (l0.length : Int)) = false := decide_eq_false c7
  clear c7
  obtain ⟨t187, A18, H⟩ := zO H
  obtain rfl := Option.some.inj H
  obtain ⟨Ao19, co19, eo19⟩ := Kd.R_slice HO_3.out
  subst eo19
  go_wp2_with (first | ((with_reducible refine gate_callee (f := 40) rfl ?_); refine zD (some 33) Tryd.func40 #[.slice Ao19 x3_1.length co19, .string (⟨#[32]⟩ : ByteArray)] ?_; (with_reducible refine (spec_Join.calls k1 _ _ x3_1 (⟨#[32]⟩ : ByteArray) t187 _ ?side1 ?side2 A18.out).mono ?_); (case side1 => repeat (first | exact (Kd.R_reads' HO_3.out).2.2 | (with_reducible refine Kd.C_alloc ?_ _) | (with_reducible refine Kd.C_drewN ?_ _) | (with_reducible refine Kd.C_drew ?_))); (case side2 => exact (Kd.R_reads' HO_3.out).2.1); rintro e w20 ⟨rfl, hb⟩; refine ⟨_, rfl, ?_⟩; replace HO_3 := zW HO_3.out hb; replace HB := zX hb; (try clear hb)))
  go_ret
  exact ⟨zE, zB⟩
 replace c3 := Bool.eq_false_iff.mpr c3
 subst c3
 replace H := (if_neg zFf).symm.trans H
 obtain rfl := Option.some.inj H
 go_enter Tryd.func18, Tryd.ntmps18
 go_wp2_with (first | ((with_reducible refine gate_callee (f := 39) rfl ?_); refine zD (some 6) Tryd.func39 #[.slice A0 l0.length c0] ?_; (with_reducible refine (spec_ArePoints.calls k _ _ l0 false _ ?side1 ?side2 A2.out).mono ?_); (case side1 => repeat (first | exact HR0.out | (with_reducible refine Kd.C_alloc ?_ _) | (with_reducible refine Kd.C_drewN ?_ _) | (with_reducible refine Kd.C_drew ?_))); (case side2 => exact HC0.out); rintro e w21 ⟨rfl, hb⟩; refine ⟨_, rfl, ?_⟩; replace HB := zX hb; (try clear hb)))
 go_ret
 exact ⟨zE, zB⟩
/-! ### laws_toPoint: function 41 -/
def laws_toPoint.f (a0_0 : Int) (a0_1 : Int) : Option (Int × Int) := some (a0_0, a0_1)
set_option maxHeartbeats 8000000 in
set_option maxRecDepth 100000 in
theorem laws_toPoint.calls (a0_0 : Int) (a0_1 : Int) (r1 : Int) (r2 : Int) (w : World) (h : laws_toPoint.f a0_0 a0_1 = some (r1, r2)) :
  Calls Tryd.prog 41 #[.agg #[.int .i64 a0_0, .int .i64 a0_1]] w fun e w' => e = .returned (.agg #[.int .i64 r1, .int .i64 r2]) ∧ Below w.heap.size w w' := by
 have hu58 := Tryd.underlying58
 have hu55 := Tryd.underlying55
 have HB := Aside0.mk (Below.refl w.heap.size w)
 have H : (some (a0_0, a0_1)) = some (r1, r2) := h
 clear h
 simp only [Option.some.injEq, Prod.mk.injEq] at H
 obtain ⟨rfl, rfl⟩ := H
 go_enter Tryd.func41, Tryd.ntmps41
 go_wp2_with (first | ((with_reducible refine gate_dst (N := 1) rfl ?_); refine zBx (N := 1) #[.int .i64 a0_0, .int .i64 a0_1] 58 ?_; intro gb188 hg w2 hbox hb; have BK188 := Aside0.mk (hbox); have GW188 := zS hg; have GE188 := zS hg; replace HB := zX hb; clear hb hbox hg) | ((with_reducible refine gate_dst (N := 2) rfl ?_); refine zBx (N := 2) #[.int .i64 0, .int .i64 0] 55 ?_; intro gb189 hg w3 hbox hb; have BK189 := Aside0.mk (hbox); have GW189 := zSg hg (zG GE188.out); have GE189 := zSg hg (zG GE188.out); have NB188_189 := zL hg BK188.out; have NB189_188 := zLg hg BK188.out; replace BK188 := zV BK188.out hb; replace HB := zX1 GE188.out hb; clear hb hbox hg) | ((with_reducible refine gate_dst (N := 3) rfl ?_); refine zBx (N := 3) #[.int .i64 0, .int .i64 0] 55 ?_; intro gb190 hg w4 hbox hb; have BK190 := Aside0.mk (hbox); have GW190 := zSg hg (zG2 GE188.out GE189.out); have GE190 := zSg hg (zG2 GE188.out GE189.out); have NB188_190 := zL hg BK188.out; have NB190_188 := zLg hg BK188.out; replace BK188 := zV BK188.out hb; have NB189_190 := zL hg BK189.out; have NB190_189 := zLg hg BK189.out; replace BK189 := zV BK189.out hb; replace HB := Aside0.mk (below_step (zG2 GE188.out GE189.out) hb); clear hb hbox hg; have hnb5 := NB188_189.out; have hnc5 := NB189_188.out; have hnb6 := NB188_190.out; have hnc6 := NB190_188.out; obtain ⟨hcz7_0, hcz7_1, hfz7_0, hfz7_1⟩ := zq2 BK188.out; have hnb8 := NB190_189.out; have hnc8 := NB189_190.out; obtain ⟨hcz9_0, hcz9_1, hfz9_0, hfz9_1⟩ := zq2 BK190.out; obtain ⟨hcz10_0, hcz10_1, hfz10_0, hfz10_1⟩ := zq2 BK189.out))
 refine bodyPost_ret (results_cell_row rfl _ _ gb189 55 #[.int .i64 a0_0, .int .i64 a0_1] (0, 0) _ rfl (zk2 BK189.out NB189_190.out NB189_190.out) Tryd.underlying55 rfl (by kernel_rfl)) rfl ?_
 exact ⟨zE, zG3 GE188.out GE189.out GE190.out⟩
/-! ### laws_toPointS: function 19 -/
def laws_toPointS.l0 : Nat → List (S58) → List (S55) → Int → Option ((List (S55)))
 | 0, _, _, _ => none
 | k + 1, x0, x3, x4 => if x4 < (x0.length : Int) then (if 0 ≤ x4 then ((laws_toPoint.f ((rd_T58 x0 x4).f0) ((rd_T58 x0 x4).f1)).bind fun bt195 => (if x4 < (x3.length : Int) then (laws_toPointS.l0 k x0 (x3.set (x4 : Int).toNat (⟨bt195.1, bt195.2⟩ : S55)) (wrap64 (x4 + 1))) else (none))) else (none)) else (some x3)
def laws_toPointS.f (k : Nat) (l0 : List (S58)) : Option ((List (S55))) := if 0 ≤ (l0.length : Int) then (if ((l0.length : Int) : Int).toNat ≤ 17592186044416 then (laws_toPointS.l0 k l0 (List.replicate ((l0.length : Int) : Int).toNat z55) 0) else (none)) else (none)
set_option maxHeartbeats 8000000 in
set_option maxRecDepth 100000 in
theorem laws_toPointS.calls (k : Nat) (A0 : Option Addr) (c0 : Nat) (l0 : List (S58)) (r : List (S55)) (w : World) (hr0 : Kd.C k58 w A0 l0.length l0) (hc0 : l0.length ≤ c0) (h : laws_toPointS.f k l0 = some r) :
  Calls Tryd.prog 19 #[.slice A0 l0.length c0] w fun e w' => ∃ v0_ : Value, e = .returned (v0_) ∧ Kd.R k55 55 w' w.heap.size (fun _ => True) v0_ r ∧ Below w.heap.size w w' := by
 have hu58 := Tryd.underlying58
 have hu55 := Tryd.underlying55
 have HR0 := Aside0.mk hr0
 have HC0 := Aside0.mk hc0
 clear hr0 hc0
 have HB := Aside0.mk (Below.refl w.heap.size w)
 have H : (if 0 ≤ (l0.length : Int) then (if ((l0.length : Int) : Int).toNat ≤ 17592186044416 then (laws_toPointS.l0 k l0 (List.replicate ((l0.length : Int) : Int).toNat z55) 0) else (none)) else (none)) = some r := h
 clear h
 by_cases c2 : 0 ≤ (l0.length : Int)
 ·rw [if_pos c2] at H
  have c2b0 := eq_true c2
  have c2b1 : decide (0 ≤ (l0.length : Int)) = true := decide_eq_true c2
  clear c2
  by_cases c3 : ((l0.length : Int) : Int).toNat ≤ 17592186044416
  ·rw [if_pos c3] at H
   have c3b0 := eq_true c3
   have c3b1 : decide (((l0.length : Int) : Int).toNat ≤ 17592186044416) = true := decide_eq_true c3
   clear c3
   obtain ⟨y191, hy191⟩ : ∃ y_ : List (S55), y_ = (List.replicate ((l0.length : Int) : Int).toNat z55) := ⟨_, rfl⟩
   replace H : (laws_toPointS.l0 k l0 y191 0) = some r := by first | (rw [hy191]; with_reducible exact H) | (have H2_ := (Option.bind_some _ _).symm.trans H; rw [hy191]; with_reducible exact H2_) | (have H2_ := (Option.bind_some _ _).symm.trans H; with_reducible exact H2_) | with_reducible exact H | (rw [hy191]; exact H) | exact H
   have Ny191 := Aside0.mk hy191
   clear hy191
   have H' := Aside0.mk H; clear H
   go_enter Tryd.func19, Tryd.ntmps19
   go_wp2_with (first | ((with_reducible refine gate_dst (N := 7) rfl ?_); refine Kd.R_make k55 _ 55 rfl (N := 7) rfl 34 _ _ rfl (l0.length : Int) rfl rfl Tryd.underlying34 (.agg #[(.int .i64 0), (.int .i64 0)]) 16 info55 rfl (by decide) (by omega) z55 (ok := fun _ => True) (okp := fun _ => True) (k55_mkM _ _ _ z55 ) (fun _ hk => hk) trivial (zA) (Nat.le_trans (Nat.mul_le_mul_right _ (zA : (l0.length : Int).toNat ≤ 17592186044416)) (by omega)) (Below.refl _ _) (Nat.le_refl _) ?_; intro v192 w4 ho5 hb hg_ hnew_; clear hg_ hnew_; (first | rw [← Ny191.out] at ho5 | (simp only [Int.reduceToNat] at ho5; rw [← Ny191.out] at ho5)); have HO193 := Aside0.mk (Kd.R_lower ho5 (below_size zB)); replace HB := zX hb; clear hb ho5))
   go_loopg [4] k (fun kq v4 w' => ∃ (x3_1 : List (S55)) (x4_1 : Int), v4 = .int .i64 x4_1 ∧ Aside0 (laws_toPointS.l0 kq l0 x3_1 x4_1 = some r) ∧ Aside0 (kq ≤ k) ∧ Aside0 (Kd.R k55 55 w' w.heap.size (fun _ => True) v192 x3_1) ∧ Aside0 (Below w.heap.size w w'))
   case atStart => exact ⟨(y191), (0), zF, H', ⟨Nat.le_refl _⟩, ⟨zR HO193.out⟩, ⟨zB⟩⟩
   case round =>
   clear H'
   try clear c2
   try clear c2b0
   try clear c2b1
   try clear c3
   try clear c3b0
   try clear c3b1
   obtain ⟨x3_1, x4_1, rfl, HA, HK1, HO_3, HB⟩ := hrel
   cases gk with
   | zero => exact absurd HA.out (by simp [laws_toPointS.l0])
   | succ k1 =>
   have H := HA.out
   clear HA
   simp only [laws_toPointS.l0] at H
   by_cases c6 : x4_1 < (l0.length : Int)
   ·rw [if_pos c6] at H
    have c6b0 : decide (x4_1 < (l0.length : Int)) = true := decide_eq_true c6
    clear c6
    by_cases c7 : 0 ≤ x4_1
    ·rw [if_pos c7] at H
     have c7b0 : decide (0 ≤ x4_1) = true := decide_eq_true c7
     clear c7
     obtain ⟨⟨t195, t196⟩, A8, H⟩ := zO H
     dsimp only at H
     by_cases c9 : x4_1 < (x3_1.length : Int)
     ·rw [if_pos c9] at H
      have c9b0 : decide (x4_1 < (x3_1.length : Int)) = true := decide_eq_true c9
      clear c9
      obtain ⟨y197, hy197⟩ : ∃ y_ : List (S55), y_ = (x3_1.set (x4_1 : Int).toNat (⟨t195, t196⟩ : S55)) := ⟨_, rfl⟩
      replace H : (laws_toPointS.l0 k1 l0 y197 (wrap64 (x4_1 + 1))) = some r := by first | (rw [hy197]; with_reducible exact H) | (have H2_ := (Option.bind_some _ _).symm.trans H; rw [hy197]; with_reducible exact H2_) | (have H2_ := (Option.bind_some _ _).symm.trans H; with_reducible exact H2_) | with_reducible exact H | (rw [hy197]; exact H) | exact H
      have Ny197 := Aside0.mk hy197
      clear hy197
      have H' := Aside0.mk H; clear H
      have p194 : 0 ≤ (x4_1 : Int) := zA
      have q194 : x4_1 < (l0.length : Int) := zA
      obtain ⟨ad194, e194, hx194_0, hx194_1⟩ := at_T58 HR0.out x4_1 p194 q194
      cases e194
      replace hx194_0 := (HB.out.cell (World.block_lt_of_cell? w _ hx194_0)).trans hx194_0
      replace hx194_1 := (HB.out.cell (World.block_lt_of_cell? w _ hx194_1)).trans hx194_1
      replace p194 := eq_true p194
      replace q194 := eq_true q194
      go_wp2_with (first | ((with_reducible refine gate_callee (f := 41) rfl ?_); refine zD (some 20) Tryd.func41 #[.agg #[.int .i64 ((rd_T58 l0 x4_1).f0), .int .i64 ((rd_T58 l0 x4_1).f1)]] ?_; (with_reducible refine (laws_toPoint.calls ((rd_T58 l0 x4_1).f0) ((rd_T58 l0 x4_1).f1) t195 t196 _ A8.out).mono ?_); rintro e w11 ⟨rfl, hb⟩; refine ⟨_, rfl, ?_⟩; replace HO_3 := zW HO_3.out hb; replace HB := zX hb; (try clear hb); have p10 : 0 ≤ (x4_1 : Int) := zA; have q10 : (x4_1 : Int) < ((x3_1.length : Int) : Int) := zA; obtain ⟨go10, co10, eo10, gb10, gl10, cl10, HG10⟩ := Kd.R_form HO_3.out (by omega); (first | cases eo10 | (injection eo10 with ea_ en_ ec_; (first | subst ea_ | (injection ea_ with ea_; subst ea_)); subst ec_; clear en_)); have GB10 := Aside0.mk gb10; have GG10 := Aside0.mk HG10; clear gb10 gl10 HG10; obtain ⟨ce10, hcl10, hM10, hcc10, hfr10⟩ := Kd.R_elem HO_3.out z55 (x4_1 : Int) p10 q10; obtain rfl := k55_openM hM10; have hx10_0 : w11.cell? ⟨go10, (x4_1 : Int).toNat * 2, none⟩ = some (.int .i64 ((rd_T55 x3_1 x4_1).f0)) := hcc10 0 _ rfl; have hx10_1 : w11.cell? ⟨go10, (x4_1 : Int).toNat * 2 + 1, none⟩ = some (.int .i64 ((rd_T55 x3_1 x4_1).f1)) := hcc10 1 _ rfl; have hf10_0 : w11.frozen? ⟨go10, (x4_1 : Int).toNat * 2, none⟩ = false := hfr10 0; have hf10_1 : w11.frozen? ⟨go10, (x4_1 : Int).toNat * 2 + 1, none⟩ = false := hfr10 1; clear hcl10 hcc10 hfr10 hM10; replace p10 := eq_true p10; replace q10 := eq_true q10; have HX12 := Aside0.mk (show Kd.R k55 55 w11 w.heap.size (fun _ => True) (.slice (some ⟨go10, 0, none⟩) x3_1.length co10) x3_1 from (zR HO_3.out)); obtain ⟨ce12, hcl12, hM12, hcc12, hfr12⟩ := Kd.R_elem HX12.out z55 (x4_1 : Int) (zA) (by have h_ : (x4_1 : Int) < ((x3_1.length : Int) : Int) := zA; first | exact h_ | (have e_ := (Kd.R_reads' HO_3.out).1; omega) | simpa using h_); obtain rfl := k55_openM hM12; have HP12 := Kd.R_seg HX12.out (x4_1 : Int) (zA) (by have h_ : (x4_1 : Int) < ((x3_1.length : Int) : Int) := zA; first | exact h_ | (have e_ := (Kd.R_reads' HO_3.out).1; omega) | simpa using h_) (seg := [.int .i64 t195, .int .i64 t196]) (j := 0) hcl12 hcc12 (show 2 ≤ 2 from by decide) (x' := (⟨t195, t196⟩ : S55)) (k55_mkM _ _ _ (⟨t195, t196⟩ : S55) ) (fun _ hk => hk); have hx12_0 := hcc12 0 _ rfl; (try simp only [show (k55).sz = 2 from rfl, Nat.mul_one, Nat.add_zero] at hx12_0); have hf12_0 := hfr12 0; (try simp only [show (k55).sz = 2 from rfl, Nat.mul_one, Nat.add_zero] at hf12_0); have hx12_1 := hcc12 1 _ rfl; (try simp only [show (k55).sz = 2 from rfl, Nat.mul_one, Nat.add_zero] at hx12_1); have hf12_1 := hfr12 1; (try simp only [show (k55).sz = 2 from rfl, Nat.mul_one, Nat.add_zero] at hf12_1); clear hcl12 hcc12 hfr12 hM12) | ((with_reducible refine gate_store (t := 55) (p := 21) rfl ?_); refine store_event (t := 55) (p := 21) (v := ?vo_w13) (w1 := ((w11.setCell ⟨go10, (x4_1 : Int).toNat * 2, none⟩ (.int .i64 t195)).setCell ⟨go10, (x4_1 : Int).toNat * 2 + 1, none⟩ (.int .i64 t196))) ?hg ?ho ?hn ?hr ?_; (case ho => rfl); (case hg => rfl); (case hn => rfl); (case hr => first | (go_simp; done) | (go_simp; rfl)); intro w13 hw; have hg : w11.grownBy w13 (some go10) := (by rw [hw]; exact HP12.2); have hp_ : Kd.R k55 55 w13 w.heap.size (fun _ => True) (.slice (some ⟨go10, 0, none⟩) x3_1.length co10) y197 := (by rw [hw, Ny197.out]; exact HP12.1); clear HP12; replace HO_3 := Aside0.mk (hp_); replace HB := Aside0.mk ((by rw [hw]; exact below_set (below_set (HB.out) GB10.out) GB10.out : Below w.heap.size w w13)); clear hg hw hp_))
      go_roundg k1
      case measure => have := HK1.out; omega
      case rel => exact ⟨(y197), (wrap64 (x4_1 + 1)), zF, H', ⟨by have := HK1.out; omega⟩, ⟨zR HO_3.out⟩, ⟨zB⟩⟩
     rw [if_neg c9] at H
     exact absurd H (by simp)
    rw [if_neg c7] at H
    exact absurd H (by simp)
   rw [if_neg c6] at H
   have c6b0 : decide (x4_1 < (l0.length : Int)) = false := decide_eq_false c6
   clear c6
   obtain rfl := Option.some.inj H
   go_wp2
   go_ret
   exact ⟨_, zE, zR HO_3.out, zB⟩
  rw [if_neg c3] at H
  exact absurd H (by simp)
 rw [if_neg c2] at H
 exact absurd H (by simp)
/-! ### impl_triplesOf: function 59 -/
mutual
def impl_triplesOf.l0 : Nat → Int → List (S76) → Int → Option ((List (S76)))
 | 0, _, _, _ => none
 | k + 1, x0, x3, x4 => if x4 < x0 then (impl_triplesOf.l1 k x0 x3 x4 (wrap64 (x4 + 1))) else (some x3)
def impl_triplesOf.l1 : Nat → Int → List (S76) → Int → Int → Option ((List (S76)))
 | 0, _, _, _, _ => none
 | k + 1, x0, x3, x4, x5 => if x5 < x0 then (impl_triplesOf.l2 k x0 x3 x4 x5 (wrap64 (x5 + 1))) else (impl_triplesOf.l0 k x0 x3 (wrap64 (x4 + 1)))
def impl_triplesOf.l2 : Nat → Int → List (S76) → Int → Int → Int → Option ((List (S76)))
 | 0, _, _, _, _, _ => none
 | k + 1, x0, x3, x4, x5, x6 => if x6 < x0 then (if x3.length < 5864062014805 then (impl_triplesOf.l2 k x0 (x3 ++ [(⟨x4, x5, x6⟩ : S76)]) x4 x5 (wrap64 (x6 + 1))) else (none)) else (impl_triplesOf.l1 k x0 x3 x4 (wrap64 (x5 + 1)))
end
def impl_triplesOf.f (k : Nat) (a0 : Int) : Option ((List (S76))) := impl_triplesOf.l0 k a0 ([] : List (S76)) 0
theorem impl_triplesOf.mono_l : ∀ k, (∀ y0 y1 y2, LeO (impl_triplesOf.l0 k y0 y1 y2) (impl_triplesOf.l0 (k + 1) y0 y1 y2)) ∧ (∀ y0 y1 y2 y3, LeO (impl_triplesOf.l1 k y0 y1 y2 y3) (impl_triplesOf.l1 (k + 1) y0 y1 y2 y3)) ∧ (∀ y0 y1 y2 y3 y4, LeO (impl_triplesOf.l2 k y0 y1 y2 y3 y4) (impl_triplesOf.l2 (k + 1) y0 y1 y2 y3 y4))
 | 0 => ⟨fun _ _ _ r h => by simp [impl_triplesOf.l0] at h, fun _ _ _ _ r h => by simp [impl_triplesOf.l1] at h, fun _ _ _ _ _ r h => by simp [impl_triplesOf.l2] at h⟩
 | k + 1 => by
  obtain ⟨ih0, ih1, ih2⟩ := impl_triplesOf.mono_l k
  refine ⟨?_, ?_, ?_⟩ <;> intros <;> (first | unfold impl_triplesOf.l0 | unfold impl_triplesOf.l1 | unfold impl_triplesOf.l2) <;> repeat' first
  | (with_reducible first | exact ih0 .. | exact ih1 .. | exact ih2 .. | exact LeO.refl _ | exact LeO.none _ | refine LeO.ite ?_ ?_ | refine LeO.bind ?_ (fun _ => ?_))
  | exact ih0 .. | exact ih1 .. | exact ih2 .. | exact LeO.none _ | refine LeO.ite ?_ ?_ | refine LeO.bind ?_ (fun _ => ?_)
theorem impl_triplesOf.mono : ∀ a0 k, LeO (impl_triplesOf.f k a0) (impl_triplesOf.f (k + 1) a0) := by
 intro a0 k
 obtain ⟨ih0, ih1, ih2⟩ := impl_triplesOf.mono_l k
 unfold impl_triplesOf.f
 repeat' first
   | (with_reducible first | exact ih0 .. | exact ih1 .. | exact ih2 .. | exact LeO.refl _ | exact LeO.none _ | refine LeO.ite ?_ ?_ | refine LeO.bind ?_ (fun _ => ?_))
   | exact ih0 .. | exact ih1 .. | exact ih2 .. | exact LeO.none _ | refine LeO.ite ?_ ?_ | refine LeO.bind ?_ (fun _ => ?_)
set_option maxHeartbeats 8000000 in
set_option maxRecDepth 100000 in
theorem impl_triplesOf.calls (k : Nat) (a0 : Int) (r : List (S76)) (w : World) (h : impl_triplesOf.f k a0 = some r) :
  Calls Tryd.prog 59 #[.int .i64 a0] w fun e w' => ∃ v0_ : Value, e = .returned (v0_) ∧ Kd.R k76 76 w' w.heap.size (fun _ => True) v0_ r ∧ Below w.heap.size w w' := by
 have hu76 := Tryd.underlying76
 have HB := Aside0.mk (Below.refl w.heap.size w)
 have H : (impl_triplesOf.l0 k a0 ([] : List (S76)) 0) = some r := h
 clear h
 have H' := Aside0.mk H; clear H
 go_enter Tryd.func59, Tryd.ntmps59
 go_wp2
 go_loopg [3, 4] k (fun kq v3 v4 w' => ∃ (x3_1 : List (S76)) (x4_1 : Int), v4 = .int .i64 x4_1 ∧ Aside0 (impl_triplesOf.l0 kq a0 x3_1 x4_1 = some r) ∧ Aside0 (kq ≤ k) ∧ Aside0 (Kd.R k76 76 w' w.heap.size (fun _ => True) v3 x3_1) ∧ Aside0 (Below w.heap.size w w'))
 case atStart => exact ⟨(([] : List (S76))), (0), zF, H', ⟨Nat.le_refl _⟩, ⟨by first | exact Kd.R_nil _ _ _ _ _ | exact Kd.N_nil _ _ _ _ _ | exact Kd.V_nil _ _ _ _ _ | exact Kd.Q_nil _ _ _ _ _ | exact Kd.S_nil _ _ _ _ _⟩, ⟨zB⟩⟩
 case round =>
 clear H'
 obtain ⟨x3_1, x4_1, rfl, HA, HK1, HO_3, HB⟩ := hrel
 cases gk with
 | zero => exact absurd HA.out (by simp [impl_triplesOf.l0])
 | succ k1 =>
 have H := HA.out
 clear HA
 simp only [impl_triplesOf.l0] at H
 by_cases c2 : x4_1 < a0
 ·rw [if_pos c2] at H
  have c2b0 : decide (x4_1 < a0) = true := decide_eq_true c2
  clear c2
  have H' := Aside0.mk H; clear H
  go_wp2
  go_loopg [3, 5] k1 (fun kq v3 v5 w' => ∃ (x3_2 : List (S76)) (x5_2 : Int), v5 = .int .i64 x5_2 ∧ Aside0 (impl_triplesOf.l1 kq a0 x3_2 x4_1 x5_2 = some r) ∧ Aside0 (kq ≤ k1) ∧ Aside0 (Kd.R k76 76 w' w.heap.size (fun _ => True) v3 x3_2) ∧ Aside0 (Below w.heap.size w w'))
  case atStart => exact ⟨(x3_1), (wrap64 (x4_1 + 1)), zF, H', ⟨Nat.le_refl _⟩, ⟨zR HO_3.out⟩, ⟨zB⟩⟩
  case round =>
  clear H'
  try clear c2
  try clear c2b0
  obtain ⟨x3_2, x5_2, rfl, HA, HK2, HO_3, HB⟩ := hrel
  cases gk with
  | zero => exact absurd HA.out (by simp [impl_triplesOf.l1])
  | succ k2 =>
  have H := HA.out
  clear HA
  simp only [impl_triplesOf.l1] at H
  by_cases c3 : x5_2 < a0
  ·rw [if_pos c3] at H
   have c3b0 : decide (x5_2 < a0) = true := decide_eq_true c3
   clear c3
   have H' := Aside0.mk H; clear H
   go_wp2
   go_loopg [3, 6] k2 (fun kq v3 v6 w' => ∃ (x3_3 : List (S76)) (x6_3 : Int), v6 = .int .i64 x6_3 ∧ Aside0 (impl_triplesOf.l2 kq a0 x3_3 x4_1 x5_2 x6_3 = some r) ∧ Aside0 (kq ≤ k2) ∧ Aside0 (Kd.R k76 76 w' w.heap.size (fun _ => True) v3 x3_3) ∧ Aside0 (Below w.heap.size w w'))
   case atStart => exact ⟨(x3_2), (wrap64 (x5_2 + 1)), zF, H', ⟨Nat.le_refl _⟩, ⟨zR HO_3.out⟩, ⟨zB⟩⟩
   case round =>
   clear H'
   try clear c2
   try clear c2b0
   try clear c3
   try clear c3b0
   obtain ⟨x3_3, x6_3, rfl, HA, HK3, HO_3, HB⟩ := hrel
   cases gk with
   | zero => exact absurd HA.out (by simp [impl_triplesOf.l2])
   | succ k3 =>
   have H := HA.out
   clear HA
   simp only [impl_triplesOf.l2] at H
   by_cases c4 : x6_3 < a0
   ·rw [if_pos c4] at H
    have c4b0 : decide (x6_3 < a0) = true := decide_eq_true c4
    clear c4
    by_cases c5 : x3_3.length < 5864062014805
    ·rw [if_pos c5] at H
     have LMc5 := Aside0.mk c5
     clear c5
     obtain ⟨y198, hy198⟩ : ∃ y_ : List (S76), y_ = (x3_3 ++ [(⟨x4_1, x5_2, x6_3⟩ : S76)]) := ⟨_, rfl⟩
     replace H : (impl_triplesOf.l2 k3 a0 y198 x4_1 x5_2 (wrap64 (x6_3 + 1))) = some r := by first | (rw [hy198]; with_reducible exact H) | (have H2_ := (Option.bind_some _ _).symm.trans H; rw [hy198]; with_reducible exact H2_) | (have H2_ := (Option.bind_some _ _).symm.trans H; with_reducible exact H2_) | with_reducible exact H | (rw [hy198]; exact H) | exact H
     have Ny198 := Aside0.mk hy198
     clear hy198
     have H' := Aside0.mk H; clear H
     go_wp2_with (first | ((with_reducible refine gate_builtin (b := .append) (xs := #[.tmp 26, .tmp 31]) rfl ?_); at_builtin; refine Kd.R_append k76 (w0 := w) w.heap.size rfl (.tmp 26) (.tmp 31) 74 76 (.agg #[(.int .i64 0), (.int .i64 0), (.int .i64 0)]) 24 rfl Tryd.underlying74 info76 rfl (by decide) (by omega) u3 x3_3 (⟨x4_1, x5_2, x6_3⟩ : S76) [.int .i64 x4_1, .int .i64 x5_2, .int .i64 x6_3] (fun _ => True) (fun _ => False) rfl rfl ?aP (fun _ hk => hk.elim) ?aF ?aO ?aB ?aS ?aL ?_; (case aP => exact k76_mkM _ _ _ (⟨x4_1, x5_2, x6_3⟩ : S76)); (case aB => exact zB); (case aF => exact (fun _ _ => trivial)); (case aO => exact (zR HO_3.out)); (case aS => exact (below_size zB)); (case aL => have := LMc5.out; omega); intro v199 w6 ho hb hg hat; rw [← Ny198.out] at ho; have n0_ := Aside0.mk (hb); have n1_ := Aside0.mk (ho); clear HB; clear HO_3; have HB := n0_; have HO200 := n1_; clear n0_ n1_; clear ho hb hg hat))
     go_roundg k3
     case measure => have := HK1.out; have := HK2.out; have := HK3.out; omega
     case rel => exact ⟨(y198), (wrap64 (x6_3 + 1)), zF, H', ⟨by have := HK1.out; have := HK2.out; have := HK3.out; omega⟩, ⟨zR HO200.out⟩, ⟨zB⟩⟩
    rw [if_neg c5] at H
    exact absurd H (by simp)
   rw [if_neg c4] at H
   have c4b0 : decide (x6_3 < a0) = false := decide_eq_false c4
   clear c4
   have H' := Aside0.mk H; clear H
   go_wp2
   go_roundg k3
   case measure => have := HK1.out; have := HK2.out; have := HK3.out; omega
   case rel => exact ⟨(x3_3), (wrap64 (x5_2 + 1)), zF, H', ⟨by have := HK1.out; have := HK2.out; have := HK3.out; omega⟩, ⟨zR HO_3.out⟩, ⟨zB⟩⟩
  rw [if_neg c3] at H
  have c3b0 : decide (x5_2 < a0) = false := decide_eq_false c3
  clear c3
  have H' := Aside0.mk H; clear H
  go_wp2
  go_roundg k2
  case measure => have := HK1.out; have := HK2.out; omega
  case rel => exact ⟨(x3_2), (wrap64 (x4_1 + 1)), zF, H', ⟨by have := HK1.out; have := HK2.out; omega⟩, ⟨zR HO_3.out⟩, ⟨zB⟩⟩
 rw [if_neg c2] at H
 have c2b0 : decide (x4_1 < a0) = false := decide_eq_false c2
 clear c2
 obtain rfl := Option.some.inj H
 go_wp2
 go_ret
 exact ⟨_, zE, zR HO_3.out, zB⟩
/-! ### cmp_isNaN_int: function 101 -/
def cmp_isNaN_int.f (a0 : Int) : Option (Bool) := some (a0 != a0)
set_option maxHeartbeats 8000000 in
set_option maxRecDepth 100000 in
theorem cmp_isNaN_int.calls (a0 : Int) (r : Bool) (w : World) (h : cmp_isNaN_int.f a0 = some r) :
  Calls Tryd.prog 101 #[.int .i64 a0] w fun e w' => e = .returned (.bool r) ∧ Drawn0 w w' := by
 have H : (some (a0 != a0)) = some r := h
 clear h
 obtain rfl := Option.some.inj H
 go_enter Tryd.func101, Tryd.ntmps101
 go_wp2
 go_ret
 exact ⟨by first | rfl | (simp; done) | (simp [*]; done), by repeat (first | exact Drawn0.refl _ | apply Drawn0.step)⟩
/-! ### cmp_Compare_int: function 84 -/
def cmp_Compare_int.f (a0 : Int) (a1 : Int) : Option (Int) := (cmp_isNaN_int.f a0).bind fun t201 => ((cmp_isNaN_int.f a1).bind fun t202 => (if t201 = true then (if t202 = true then (some 0) else (some (-1))) else (if t202 = true then (some 1) else (if a0 < a1 then (some (-1)) else (if a0 > a1 then (some 1) else (some 0))))))
set_option maxHeartbeats 8000000 in
set_option maxRecDepth 100000 in
theorem cmp_Compare_int.calls (a0 : Int) (a1 : Int) (r : Int) (w : World) (h : cmp_Compare_int.f a0 a1 = some r) :
  Calls Tryd.prog 84 #[.int .i64 a0, .int .i64 a1] w fun e w' => e = .returned (.int .i64 r) ∧ Drawn0 w w' := by
 have H : ((cmp_isNaN_int.f a0).bind fun t201 => ((cmp_isNaN_int.f a1).bind fun t202 => (if t201 = true then (if t202 = true then (some 0) else (some (-1))) else (if t202 = true then (some 1) else (if a0 < a1 then (some (-1)) else (if a0 > a1 then (some 1) else (some 0))))))) = some r := h
 clear h
 obtain ⟨t201, A3, H⟩ := zO H
 obtain ⟨t202, A4, H⟩ := zO H
 by_cases c5 : t201 = true
 ·subst c5
  replace H := (if_pos rfl).symm.trans H
  by_cases c6 : t202 = true
  ·subst c6
   replace H := (if_pos rfl).symm.trans H
   obtain rfl := Option.some.inj H
   go_enter Tryd.func84, Tryd.ntmps84
   go_wp2_with (first | ((with_reducible refine gate_callee (f := 101) rfl ?_); refine zD (some 8) Tryd.func101 #[.int .i64 a0] ?_; (with_reducible refine (cmp_isNaN_int.calls a0 true _ A3.out).mono ?_); rintro e w' ⟨rfl, ⟨nd, rfl⟩⟩; refine ⟨_, rfl, ?_⟩) | ((with_reducible refine gate_callee (f := 101) rfl ?_); refine zD (some 10) Tryd.func101 #[.int .i64 a1] ?_; (with_reducible refine (cmp_isNaN_int.calls a1 true _ A4.out).mono ?_); rintro e w' ⟨rfl, ⟨nd, rfl⟩⟩; refine ⟨_, rfl, ?_⟩))
   go_ret
   exact ⟨by first | rfl | (simp; done) | (simp [*]; done), by repeat (first | exact Drawn0.refl _ | apply Drawn0.step)⟩
  replace c6 := Bool.eq_false_iff.mpr c6
  subst c6
  replace H := (if_neg zFf).symm.trans H
  obtain rfl := Option.some.inj H
  go_enter Tryd.func84, Tryd.ntmps84
  go_wp2_with (first | ((with_reducible refine gate_callee (f := 101) rfl ?_); refine zD (some 8) Tryd.func101 #[.int .i64 a0] ?_; (with_reducible refine (cmp_isNaN_int.calls a0 true _ A3.out).mono ?_); rintro e w' ⟨rfl, ⟨nd, rfl⟩⟩; refine ⟨_, rfl, ?_⟩) | ((with_reducible refine gate_callee (f := 101) rfl ?_); refine zD (some 10) Tryd.func101 #[.int .i64 a1] ?_; (with_reducible refine (cmp_isNaN_int.calls a1 false _ A4.out).mono ?_); rintro e w' ⟨rfl, ⟨nd, rfl⟩⟩; refine ⟨_, rfl, ?_⟩))
  go_ret
  exact ⟨by first | rfl | (simp; done) | (simp [*]; done), by repeat (first | exact Drawn0.refl _ | apply Drawn0.step)⟩
 replace c5 := Bool.eq_false_iff.mpr c5
 subst c5
 replace H := (if_neg zFf).symm.trans H
 by_cases c7 : t202 = true
 ·subst c7
  replace H := (if_pos rfl).symm.trans H
  obtain rfl := Option.some.inj H
  go_enter Tryd.func84, Tryd.ntmps84
  go_wp2_with (first | ((with_reducible refine gate_callee (f := 101) rfl ?_); refine zD (some 8) Tryd.func101 #[.int .i64 a0] ?_; (with_reducible refine (cmp_isNaN_int.calls a0 false _ A3.out).mono ?_); rintro e w' ⟨rfl, ⟨nd, rfl⟩⟩; refine ⟨_, rfl, ?_⟩) | ((with_reducible refine gate_callee (f := 101) rfl ?_); refine zD (some 10) Tryd.func101 #[.int .i64 a1] ?_; (with_reducible refine (cmp_isNaN_int.calls a1 true _ A4.out).mono ?_); rintro e w' ⟨rfl, ⟨nd, rfl⟩⟩; refine ⟨_, rfl, ?_⟩))
  go_ret
  exact ⟨by first | rfl | (simp; done) | (simp [*]; done), by repeat (first | exact Drawn0.refl _ | apply Drawn0.step)⟩
 replace c7 := Bool.eq_false_iff.mpr c7
 subst c7
 replace H := (if_neg zFf).symm.trans H
 by_cases c8 : a0 < a1
 ·rw [if_pos c8] at H
  have c8b0 : decide (a0 < a1) = true := decide_eq_true c8
  clear c8
  obtain rfl := Option.some.inj H
  go_enter Tryd.func84, Tryd.ntmps84
  go_wp2_with (first | ((with_reducible refine gate_callee (f := 101) rfl ?_); refine zD (some 8) Tryd.func101 #[.int .i64 a0] ?_; (with_reducible refine (cmp_isNaN_int.calls a0 false _ A3.out).mono ?_); rintro e w' ⟨rfl, ⟨nd, rfl⟩⟩; refine ⟨_, rfl, ?_⟩) | ((with_reducible refine gate_callee (f := 101) rfl ?_); refine zD (some 10) Tryd.func101 #[.int .i64 a1] ?_; (with_reducible refine (cmp_isNaN_int.calls a1 false _ A4.out).mono ?_); rintro e w' ⟨rfl, ⟨nd, rfl⟩⟩; refine ⟨_, rfl, ?_⟩))
  go_ret
  exact ⟨by first | rfl | (simp; done) | (simp [*]; done), by repeat (first | exact Drawn0.refl _ | apply Drawn0.step)⟩
 rw [if_neg c8] at H
 have c8b0 : decide (a0 < a1) = false := decide_eq_false c8
 clear c8
 by_cases c9 : a0 > a1
 ·rw [if_pos c9] at H
  have c9b0 : decide (a1 < a0) = true := decide_eq_true c9
  clear c9
  obtain rfl := Option.some.inj H
  go_enter Tryd.func84, Tryd.ntmps84
  go_wp2_with (first | ((with_reducible refine gate_callee (f := 101) rfl ?_); refine zD (some 8) Tryd.func101 #[.int .i64 a0] ?_; (with_reducible refine (cmp_isNaN_int.calls a0 false _ A3.out).mono ?_); rintro e w' ⟨rfl, ⟨nd, rfl⟩⟩; refine ⟨_, rfl, ?_⟩) | ((with_reducible refine gate_callee (f := 101) rfl ?_); refine zD (some 10) Tryd.func101 #[.int .i64 a1] ?_; (with_reducible refine (cmp_isNaN_int.calls a1 false _ A4.out).mono ?_); rintro e w' ⟨rfl, ⟨nd, rfl⟩⟩; refine ⟨_, rfl, ?_⟩))
  go_ret
  exact ⟨by first | rfl | (simp; done) | (simp [*]; done), by repeat (first | exact Drawn0.refl _ | apply Drawn0.step)⟩
 rw [if_neg c9] at H
 have c9b0 : decide (a1 < a0) = false := decide_eq_false c9
 clear c9
 obtain rfl := Option.some.inj H
 go_enter Tryd.func84, Tryd.ntmps84
 go_wp2_with (first | ((with_reducible refine gate_callee (f := 101) rfl ?_); refine zD (some 8) Tryd.func101 #[.int .i64 a0] ?_; (with_reducible refine (cmp_isNaN_int.calls a0 false _ A3.out).mono ?_); rintro e w' ⟨rfl, ⟨nd, rfl⟩⟩; refine ⟨_, rfl, ?_⟩) | ((with_reducible refine gate_callee (f := 101) rfl ?_); refine zD (some 10) Tryd.func101 #[.int .i64 a1] ?_; (with_reducible refine (cmp_isNaN_int.calls a1 false _ A4.out).mono ?_); rintro e w' ⟨rfl, ⟨nd, rfl⟩⟩; refine ⟨_, rfl, ?_⟩))
 go_ret
 exact ⟨by first | rfl | (simp; done) | (simp [*]; done), by repeat (first | exact Drawn0.refl _ | apply Drawn0.step)⟩
/-! ### impl_signOf: function 70 -/
def impl_signOf.f (a0 : Int) : Option (Int) := (cmp_Compare_int.f a0 0).bind fun t203 => (some t203)
set_option maxHeartbeats 8000000 in
set_option maxRecDepth 100000 in
theorem impl_signOf.calls (a0 : Int) (r : Int) (w : World) (h : impl_signOf.f a0 = some r) :
  Calls Tryd.prog 70 #[.int .i64 a0] w fun e w' => e = .returned (.int .i64 r) ∧ Drawn0 w w' := by
 have H : ((cmp_Compare_int.f a0 0).bind fun t203 => (some t203)) = some r := h
 clear h
 obtain ⟨t203, A2, H⟩ := zO H
 obtain rfl := Option.some.inj H
 go_enter Tryd.func70, Tryd.ntmps70
 go_wp2_with (first | ((with_reducible refine gate_callee (f := 84) rfl ?_); refine zD (some 4) Tryd.func84 #[.int .i64 a0, .int .i64 0] ?_; (with_reducible refine (cmp_Compare_int.calls a0 0 t203 _ A2.out).mono ?_); rintro e w' ⟨rfl, ⟨nd, rfl⟩⟩; refine ⟨_, rfl, ?_⟩))
 go_ret
 exact ⟨by first | rfl | (simp; done) | (simp [*]; done), by repeat (first | exact Drawn0.refl _ | apply Drawn0.step)⟩
/-! ### impl_area: function 71 -/
def impl_area.f (a0_0 : Int) (a0_1 : Int) (a1_0 : Int) (a1_1 : Int) (a2_0 : Int) (a2_1 : Int) : Option (Int) := some (wrap64 ((wrap64 ((wrap64 (a1_0 - a0_0)) * (wrap64 (a2_1 - a0_1)))) - (wrap64 ((wrap64 (a1_1 - a0_1)) * (wrap64 (a2_0 - a0_0))))))
set_option maxHeartbeats 8000000 in
set_option maxRecDepth 100000 in
theorem impl_area.calls (a0_0 : Int) (a0_1 : Int) (a1_0 : Int) (a1_1 : Int) (a2_0 : Int) (a2_1 : Int) (r : Int) (w : World) (h : impl_area.f a0_0 a0_1 a1_0 a1_1 a2_0 a2_1 = some r) :
  Calls Tryd.prog 71 #[.agg #[.int .i64 a0_0, .int .i64 a0_1], .agg #[.int .i64 a1_0, .int .i64 a1_1], .agg #[.int .i64 a2_0, .int .i64 a2_1]] w fun e w' => e = .returned (.int .i64 r) ∧ Below w.heap.size w w' := by
 have hu55 := Tryd.underlying55
 have HB := Aside0.mk (Below.refl w.heap.size w)
 have H : (some (wrap64 ((wrap64 ((wrap64 (a1_0 - a0_0)) * (wrap64 (a2_1 - a0_1)))) - (wrap64 ((wrap64 (a1_1 - a0_1)) * (wrap64 (a2_0 - a0_0))))))) = some r := h
 clear h
 obtain rfl := Option.some.inj H
 go_enter Tryd.func71, Tryd.ntmps71
 go_wp2_with (first | ((with_reducible refine gate_dst (N := 3) rfl ?_); refine zBx (N := 3) #[.int .i64 a0_0, .int .i64 a0_1] 55 ?_; intro gb204 hg w4 hbox hb; have BK204 := Aside0.mk (hbox); have GW204 := zS hg; have GE204 := zS hg; replace HB := zX hb; clear hb hbox hg) | ((with_reducible refine gate_dst (N := 4) rfl ?_); refine zBx (N := 4) #[.int .i64 a1_0, .int .i64 a1_1] 55 ?_; intro gb205 hg w5 hbox hb; have BK205 := Aside0.mk (hbox); have GW205 := zSg hg (zG GE204.out); have GE205 := zSg hg (zG GE204.out); have NB204_205 := zL hg BK204.out; have NB205_204 := zLg hg BK204.out; replace BK204 := zV BK204.out hb; replace HB := zX1 GE204.out hb; clear hb hbox hg) | ((with_reducible refine gate_dst (N := 5) rfl ?_); refine zBx (N := 5) #[.int .i64 a2_0, .int .i64 a2_1] 55 ?_; intro gb206 hg w6 hbox hb; have BK206 := Aside0.mk (hbox); have GW206 := zSg hg (zG2 GE204.out GE205.out); have GE206 := zSg hg (zG2 GE204.out GE205.out); have NB204_206 := zL hg BK204.out; have NB206_204 := zLg hg BK204.out; replace BK204 := zV BK204.out hb; have NB205_206 := zL hg BK205.out; have NB206_205 := zLg hg BK205.out; replace BK205 := zV BK205.out hb; replace HB := Aside0.mk (below_step (zG2 GE204.out GE205.out) hb); clear hb hbox hg; have hnb7 := NB205_204.out; have hnc7 := NB204_205.out; have hnb8 := NB205_206.out; have hnc8 := NB206_205.out; obtain ⟨hcz9_0, hcz9_1, hfz9_0, hfz9_1⟩ := zq2 BK205.out; have hnb10 := NB204_206.out; have hnc10 := NB206_204.out; obtain ⟨hcz11_0, hcz11_1, hfz11_0, hfz11_1⟩ := zq2 BK204.out; obtain ⟨hcz12_0, hcz12_1, hfz12_0, hfz12_1⟩ := zq2 BK206.out))
 go_ret
 exact ⟨zE, zG3 GE204.out GE205.out GE206.out⟩
/-! ### impl_TurnOf: function 60 -/
def impl_TurnOf.f (a0_0 : Int) (a0_1 : Int) (a1_0 : Int) (a1_1 : Int) (a2_0 : Int) (a2_1 : Int) : Option (Int) := (impl_areNear.f 1000 (([(⟨a0_0, a0_1⟩ : S55), (⟨a1_0, a1_1⟩ : S55), (⟨a2_0, a2_1⟩ : S55)] : List (S55)))).bind fun t213 => (if t213 = true then ((impl_area.f a0_0 a0_1 a1_0 a1_1 a2_0 a2_1).bind fun t214 => ((impl_signOf.f t214).bind fun t215 => (some t215))) else (some 0))
set_option maxHeartbeats 8000000 in
set_option maxRecDepth 100000 in
theorem impl_TurnOf.calls (a0_0 : Int) (a0_1 : Int) (a1_0 : Int) (a1_1 : Int) (a2_0 : Int) (a2_1 : Int) (r : Int) (w : World) (h : impl_TurnOf.f a0_0 a0_1 a1_0 a1_1 a2_0 a2_1 = some r) :
  Calls Tryd.prog 60 #[.agg #[.int .i64 a0_0, .int .i64 a0_1], .agg #[.int .i64 a1_0, .int .i64 a1_1], .agg #[.int .i64 a2_0, .int .i64 a2_1]] w fun e w' => e = .returned (.int .i64 r) ∧ Below w.heap.size w w' := by
 have hu55 := Tryd.underlying55
 have HB := Aside0.mk (Below.refl w.heap.size w)
 have H : ((impl_areNear.f 1000 (([(⟨a0_0, a0_1⟩ : S55), (⟨a1_0, a1_1⟩ : S55), (⟨a2_0, a2_1⟩ : S55)] : List (S55)))).bind fun t213 => (if t213 = true then ((impl_area.f a0_0 a0_1 a1_0 a1_1 a2_0 a2_1).bind fun t214 => ((impl_signOf.f t214).bind fun t215 => (some t215))) else (some 0))) = some r := h
 clear h
 obtain ⟨y210, hy210⟩ : ∃ y_ : List (S55), y_ = (([(⟨a0_0, a0_1⟩ : S55), (⟨a1_0, a1_1⟩ : S55), (⟨a2_0, a2_1⟩ : S55)] : List (S55))) := ⟨_, rfl⟩
 replace H : ((impl_areNear.f 1000 y210).bind fun t213 => (if t213 = true then ((impl_area.f a0_0 a0_1 a1_0 a1_1 a2_0 a2_1).bind fun t214 => ((impl_signOf.f t214).bind fun t215 => (some t215))) else (some 0))) = some r := by first | (rw [hy210]; with_reducible exact H) | (have H2_ := (Option.bind_some _ _).symm.trans H; rw [hy210]; with_reducible exact H2_) | (have H2_ := (Option.bind_some _ _).symm.trans H; with_reducible exact H2_) | with_reducible exact H | (rw [hy210]; exact H) | exact H
 have Ny210 := Aside0.mk hy210
 clear hy210
 obtain ⟨t213, A4, H⟩ := zO H
 by_cases c5 : t213 = true
 ·subst c5
  replace H := (if_pos rfl).symm.trans H
  obtain ⟨t214, A6, H⟩ := zO H
  obtain ⟨t215, A7, H⟩ := zO H
  obtain rfl := Option.some.inj H
  go_enter Tryd.func60, Tryd.ntmps60
  go_wp2_with (first | ((with_reducible refine gate_dst (N := 3) rfl ?_); refine zBx (N := 3) #[.int .i64 a0_0, .int .i64 a0_1] 55 ?_; intro gb207 hg w8 hbox hb; have BK207 := Aside0.mk (hbox); have GW207 := zS hg; have GE207 := zS hg; replace HB := zX hb; clear hb hbox hg) | ((with_reducible refine gate_dst (N := 4) rfl ?_); refine zBx (N := 4) #[.int .i64 a1_0, .int .i64 a1_1] 55 ?_; intro gb208 hg w9 hbox hb; have BK208 := Aside0.mk (hbox); have GW208 := zSg hg (zG GE207.out); have GE208 := zSg hg (zG GE207.out); have NB207_208 := zL hg BK207.out; have NB208_207 := zLg hg BK207.out; replace BK207 := zV BK207.out hb; replace HB := zX1 GE207.out hb; clear hb hbox hg) | ((with_reducible refine gate_dst (N := 5) rfl ?_); refine zBx (N := 5) #[.int .i64 a2_0, .int .i64 a2_1] 55 ?_; intro gb209 hg w10 hbox hb; have BK209 := Aside0.mk (hbox); have GW209 := zSg hg (zG2 GE207.out GE208.out); have GE209 := zSg hg (zG2 GE207.out GE208.out); have NB207_209 := zL hg BK207.out; have NB209_207 := zLg hg BK207.out; replace BK207 := zV BK207.out hb; have NB208_209 := zL hg BK208.out; have NB209_208 := zLg hg BK208.out; replace BK208 := zV BK208.out hb; replace HB := Aside0.mk (below_step (zG2 GE207.out GE208.out) hb); clear hb hbox hg; have hnb11 := NB207_208.out; have hnc11 := NB208_207.out; have hnb12 := NB207_209.out; have hnc12 := NB209_207.out; obtain ⟨hcz13_0, hcz13_1, hfz13_0, hfz13_1⟩ := zq2 BK207.out; have hnb14 := NB208_209.out; have hnc14 := NB209_208.out; obtain ⟨hcz15_0, hcz15_1, hfz15_0, hfz15_1⟩ := zq2 BK208.out; obtain ⟨hcz16_0, hcz16_1, hfz16_0, hfz16_1⟩ := zq2 BK209.out) | ((with_reducible refine gate_dst (N := 10) rfl ?_); refine Kd.R_lit k55 _ 55 ?hg (N := 10) ?hd (xs := ([(⟨a0_0, a0_1⟩ : S55), (⟨a1_0, a1_1⟩ : S55), (⟨a2_0, a2_1⟩ : S55)] : List (S55))) (inner := [.int .i64 a0_0, .int .i64 a0_1, .int .i64 a1_0, .int .i64 a1_1, .int .i64 a2_0, .int .i64 a2_1]) (ok := fun _ => True) (okp := fun _ => True) ?hr ?hp (fun _ hk => hk) trivial (Below.refl _ _) (Nat.le_refl _) (by simp) ?_; (case hd => rfl); (case hg => rfl); (case hr => first | (go_simp; done) | (go_simp; rfl)); (case hp => exact (Reps.c2 (show Kd.M k55 _ _ _ (⟨a0_0, a0_1⟩ : S55) [.int .i64 a0_0, .int .i64 a0_1] from (k55_mkM _ _ _ (⟨a0_0, a0_1⟩ : S55) )) (Reps.c2 (show Kd.M k55 _ _ _ (⟨a1_0, a1_1⟩ : S55) [.int .i64 a1_0, .int .i64 a1_1] from (k55_mkM _ _ _ (⟨a1_0, a1_1⟩ : S55) )) (Reps.c2 (show Kd.M k55 _ _ _ (⟨a2_0, a2_1⟩ : S55) [.int .i64 a2_0, .int .i64 a2_1] from (k55_mkM _ _ _ (⟨a2_0, a2_1⟩ : S55) )) (Reps.none _ _))))); intro v211 w17 ho18 hb hg_ hnew_; clear hg_ hnew_; (first | rw [← Ny210.out] at ho18 | (simp only [Int.reduceToNat] at ho18; rw [← Ny210.out] at ho18)); have HO212 := Aside0.mk (Kd.R_lower (Kd.R_newB (Kd.R_newB (Kd.R_newB ho18 (g := gb207) (o := .cells #[.int .i64 a0_0, .int .i64 a0_1] 55 (0, 0)) (zK BK207.out)) (g := gb208) (o := .cells #[.int .i64 a1_0, .int .i64 a1_1] 55 (0, 0)) (zK BK208.out)) (g := gb209) (o := .cells #[.int .i64 a2_0, .int .i64 a2_1] 55 (0, 0)) (zK BK209.out)) (below_size (zG3 GE207.out GE208.out GE209.out))); replace BK207 := zV BK207.out hb; replace BK208 := zV BK208.out hb; replace BK209 := zV BK209.out hb; replace HB := Aside0.mk (below_step (zG3 GE207.out GE208.out GE209.out) hb); clear hb ho18; obtain ⟨Ao19, co19, eo19⟩ := Kd.R_slice HO212.out; subst eo19) | ((with_reducible refine gate_callee (f := 58) rfl ?_); refine zD (some 11) Tryd.func58 #[.int .i64 1000, .slice Ao19 y210.length co19] ?_; (with_reducible refine (impl_areNear.calls 1000 _ _ y210 true _ ?side1 ?side2 A4.out).mono ?_); (case side1 => repeat (first | exact (Kd.R_reads' HO212.out).2.2 | (with_reducible refine Kd.C_alloc ?_ _) | (with_reducible refine Kd.C_drewN ?_ _) | (with_reducible refine Kd.C_drew ?_))); (case side2 => exact (Kd.R_reads' HO212.out).2.1); rintro e w20 ⟨rfl, hb⟩; refine ⟨_, rfl, ?_⟩; replace HO212 := zW HO212.out hb; replace BK207 := zV BK207.out hb; replace BK208 := zV BK208.out hb; replace BK209 := zV BK209.out hb; replace HB := Aside0.mk (below_step (zG3 GE207.out GE208.out GE209.out) hb); (try clear hb); obtain ⟨hcz21_0, hcz21_1, hfz21_0, hfz21_1⟩ := zq2 BK207.out; obtain ⟨hcz22_0, hcz22_1, hfz22_0, hfz22_1⟩ := zq2 BK208.out; obtain ⟨hcz23_0, hcz23_1, hfz23_0, hfz23_1⟩ := zq2 BK209.out) | ((with_reducible refine gate_callee (f := 71) rfl ?_); refine zD (some 16) Tryd.func71 #[.agg #[.int .i64 a0_0, .int .i64 a0_1], .agg #[.int .i64 a1_0, .int .i64 a1_1], .agg #[.int .i64 a2_0, .int .i64 a2_1]] ?_; (with_reducible refine (impl_area.calls a0_0 a0_1 a1_0 a1_1 a2_0 a2_1 t214 _ A6.out).mono ?_); rintro e w24 ⟨rfl, hb⟩; refine ⟨_, rfl, ?_⟩; replace HO212 := zW HO212.out hb; replace BK207 := zV BK207.out hb; replace BK208 := zV BK208.out hb; replace BK209 := zV BK209.out hb; replace HB := Aside0.mk (below_step (zG3 GE207.out GE208.out GE209.out) hb); (try clear hb)) | ((with_reducible refine gate_callee (f := 70) rfl ?_); refine zD (some 17) Tryd.func70 #[.int .i64 t214] ?_; (with_reducible refine (impl_signOf.calls t214 t215 _ A7.out).mono ?_); rintro e w' ⟨rfl, ⟨nd, rfl⟩⟩; refine ⟨_, rfl, ?_⟩))
  go_ret
  exact ⟨zE, zG3 GE207.out GE208.out GE209.out⟩
 replace c5 := Bool.eq_false_iff.mpr c5
 subst c5
 replace H := (if_neg zFf).symm.trans H
 obtain rfl := Option.some.inj H
 go_enter Tryd.func60, Tryd.ntmps60
 go_wp2_with (first | ((with_reducible refine gate_dst (N := 3) rfl ?_); refine zBx (N := 3) #[.int .i64 a0_0, .int .i64 a0_1] 55 ?_; intro gb207 hg w25 hbox hb; have BK207 := Aside0.mk (hbox); have GW207 := zS hg; have GE207 := zS hg; replace HB := zX hb; clear hb hbox hg) | ((with_reducible refine gate_dst (N := 4) rfl ?_); refine zBx (N := 4) #[.int .i64 a1_0, .int .i64 a1_1] 55 ?_; intro gb208 hg w26 hbox hb; have BK208 := Aside0.mk (hbox); have GW208 := zSg hg (zG GE207.out); have GE208 := zSg hg (zG GE207.out); have NB207_208 := zL hg BK207.out; have NB208_207 := zLg hg BK207.out; replace BK207 := zV BK207.out hb; replace HB := zX1 GE207.out hb; clear hb hbox hg) | ((with_reducible refine gate_dst (N := 5) rfl ?_); refine zBx (N := 5) #[.int .i64 a2_0, .int .i64 a2_1] 55 ?_; intro gb209 hg w27 hbox hb; have BK209 := Aside0.mk (hbox); have GW209 := zSg hg (zG2 GE207.out GE208.out); have GE209 := zSg hg (zG2 GE207.out GE208.out); have NB207_209 := zL hg BK207.out; have NB209_207 := zLg hg BK207.out; replace BK207 := zV BK207.out hb; have NB208_209 := zL hg BK208.out; have NB209_208 := zLg hg BK208.out; replace BK208 := zV BK208.out hb; replace HB := Aside0.mk (below_step (zG2 GE207.out GE208.out) hb); clear hb hbox hg; have hnb28 := NB207_208.out; have hnc28 := NB208_207.out; have hnb29 := NB207_209.out; have hnc29 := NB209_207.out; obtain ⟨hcz30_0, hcz30_1, hfz30_0, hfz30_1⟩ := zq2 BK207.out; have hnb31 := NB208_209.out; have hnc31 := NB209_208.out; obtain ⟨hcz32_0, hcz32_1, hfz32_0, hfz32_1⟩ := zq2 BK208.out; obtain ⟨hcz33_0, hcz33_1, hfz33_0, hfz33_1⟩ := zq2 BK209.out) | ((with_reducible refine gate_dst (N := 10) rfl ?_); refine Kd.R_lit k55 _ 55 ?hg (N := 10) ?hd (xs := ([(⟨a0_0, a0_1⟩ : S55), (⟨a1_0, a1_1⟩ : S55), (⟨a2_0, a2_1⟩ : S55)] : List (S55))) (inner := [.int .i64 a0_0, .int .i64 a0_1, .int .i64 a1_0, .int .i64 a1_1, .int .i64 a2_0, .int .i64 a2_1]) (ok := fun _ => True) (okp := fun _ => True) ?hr ?hp (fun _ hk => hk) trivial (Below.refl _ _) (Nat.le_refl _) (by simp) ?_; (case hd => rfl); (case hg => rfl); (case hr => first | (go_simp; done) | (go_simp; rfl)); (case hp => exact (Reps.c2 (show Kd.M k55 _ _ _ (⟨a0_0, a0_1⟩ : S55) [.int .i64 a0_0, .int .i64 a0_1] from (k55_mkM _ _ _ (⟨a0_0, a0_1⟩ : S55) )) (Reps.c2 (show Kd.M k55 _ _ _ (⟨a1_0, a1_1⟩ : S55) [.int .i64 a1_0, .int .i64 a1_1] from (k55_mkM _ _ _ (⟨a1_0, a1_1⟩ : S55) )) (Reps.c2 (show Kd.M k55 _ _ _ (⟨a2_0, a2_1⟩ : S55) [.int .i64 a2_0, .int .i64 a2_1] from (k55_mkM _ _ _ (⟨a2_0, a2_1⟩ : S55) )) (Reps.none _ _))))); intro v211 w34 ho35 hb hg_ hnew_; clear hg_ hnew_; (first | rw [← Ny210.out] at ho35 | (simp only [Int.reduceToNat] at ho35; rw [← Ny210.out] at ho35)); have HO212 := Aside0.mk (Kd.R_lower (Kd.R_newB (Kd.R_newB (Kd.R_newB ho35 (g := gb207) (o := .cells #[.int .i64 a0_0, .int .i64 a0_1] 55 (0, 0)) (zK BK207.out)) (g := gb208) (o := .cells #[.int .i64 a1_0, .int .i64 a1_1] 55 (0, 0)) (zK BK208.out)) (g := gb209) (o := .cells #[.int .i64 a2_0, .int .i64 a2_1] 55 (0, 0)) (zK BK209.out)) (below_size (zG3 GE207.out GE208.out GE209.out))); replace BK207 := zV BK207.out hb; replace BK208 := zV BK208.out hb; replace BK209 := zV BK209.out hb; replace HB := Aside0.mk (below_step (zG3 GE207.out GE208.out GE209.out) hb); clear hb ho35; obtain ⟨Ao36, co36, eo36⟩ := Kd.R_slice HO212.out; subst eo36) | ((with_reducible refine gate_callee (f := 58) rfl ?_); refine zD (some 11) Tryd.func58 #[.int .i64 1000, .slice Ao36 y210.length co36] ?_; (with_reducible refine (impl_areNear.calls 1000 _ _ y210 false _ ?side1 ?side2 A4.out).mono ?_); (case side1 => repeat (first | exact (Kd.R_reads' HO212.out).2.2 | (with_reducible refine Kd.C_alloc ?_ _) | (with_reducible refine Kd.C_drewN ?_ _) | (with_reducible refine Kd.C_drew ?_))); (case side2 => exact (Kd.R_reads' HO212.out).2.1); rintro e w37 ⟨rfl, hb⟩; refine ⟨_, rfl, ?_⟩; replace HO212 := zW HO212.out hb; replace BK207 := zV BK207.out hb; replace BK208 := zV BK208.out hb; replace BK209 := zV BK209.out hb; replace HB := Aside0.mk (below_step (zG3 GE207.out GE208.out GE209.out) hb); (try clear hb)))
 go_ret
 exact ⟨zE, zG3 GE207.out GE208.out GE209.out⟩
/-! ### impl_ArePoints: function 42 -/
mutual
def impl_ArePoints.j0 : Nat → List (S55) → Bool → Option (Bool)
 | 0, _, _ => none
 | k + 1, x0, x17 => if x17 = true then (some false) else ((impl_triplesOf.f k (x0.length : Int)).bind fun t217 => (impl_ArePoints.l0 k x0 t217 (t217.length : Int) 0))
def impl_ArePoints.l0 : Nat → List (S55) → List (S76) → Int → Int → Option (Bool)
 | 0, _, _, _, _ => none
 | k + 1, x0, x20, x21, x22 => if x22 < x21 then (if 0 ≤ x22 then (if x22 < (x20.length : Int) then (if 0 ≤ ((rd_T76 x20 x22).f0) then (if ((rd_T76 x20 x22).f0) < (x0.length : Int) then (if 0 ≤ ((rd_T76 x20 x22).f1) then (if ((rd_T76 x20 x22).f1) < (x0.length : Int) then (if 0 ≤ ((rd_T76 x20 x22).f2) then (if ((rd_T76 x20 x22).f2) < (x0.length : Int) then ((impl_TurnOf.f ((rd_T55 x0 ((rd_T76 x20 x22).f0)).f0) ((rd_T55 x0 ((rd_T76 x20 x22).f0)).f1) ((rd_T55 x0 ((rd_T76 x20 x22).f1)).f0) ((rd_T55 x0 ((rd_T76 x20 x22).f1)).f1) ((rd_T55 x0 ((rd_T76 x20 x22).f2)).f0) ((rd_T55 x0 ((rd_T76 x20 x22).f2)).f1)).bind fun t225 => (if t225 = 0 then (some false) else (impl_ArePoints.l0 k x0 x20 x21 (wrap64 (x22 + 1))))) else (none)) else (none)) else (none)) else (none)) else (none)) else (none)) else (none)) else (none)) else (some true)
end
def impl_ArePoints.f (k : Nat) (l0 : List (S55)) : Option (Bool) := if (l0.length : Int) < 3 then (impl_ArePoints.j0 k l0 true) else (if (l0.length : Int) > 7 then (impl_ArePoints.j0 k l0 true) else ((impl_areNear.f 50 l0).bind fun t216 => (impl_ArePoints.j0 k l0 (!t216))))
def impl_ArePoints.T6 : Bool × List (List Nat × List Nat) := (true, [([], []), ([], []), ([1], [1]), ([0, 2], [0, 2]), ([3], [3]), ([], []), ([], []), ([6], [6]), ([5, 7], [5, 7]), ([8], [8]), ([], []), ([], []), ([11], [11]), ([10, 12], [10, 12]), ([13], [13]), ([4, 9, 14], [4, 9, 14]), ([15], [15])])
def impl_ArePoints.B6 : List Nat := [0, 0, 2, 7, 15, 0, 0, 64, 224, 480, 0, 0, 2048, 7168, 15360, 32767, 65535]
theorem impl_ArePoints.tab6 : rtab .any (opsOf Tryd.f42 6) = impl_ArePoints.T6 := by kernel_rfl
theorem impl_ArePoints.bits6 : waitsOk impl_ArePoints.T6.2 impl_ArePoints.B6 = true := by kernel_rfl
set_option maxHeartbeats 8000000 in
set_option maxRecDepth 100000 in
theorem impl_ArePoints.calls (k : Nat) (A0 : Option Addr) (c0 : Nat) (l0 : List (S55)) (r : Bool) (w : World) (hr0 : Kd.C k55 w A0 l0.length l0) (hc0 : l0.length ≤ c0) (h : impl_ArePoints.f k l0 = some r) :
  Calls Tryd.prog 42 #[.slice A0 l0.length c0] w fun e w' => e = .returned (.bool r) ∧ Below w.heap.size w w' := by
 have hu76 := Tryd.underlying76
 have hu55 := Tryd.underlying55
 have HR0 := Aside0.mk hr0
 have HC0 := Aside0.mk hc0
 clear hr0 hc0
 have HB := Aside0.mk (Below.refl w.heap.size w)
 have H : (if (l0.length : Int) < 3 then (impl_ArePoints.j0 k l0 true) else (if (l0.length : Int) > 7 then (impl_ArePoints.j0 k l0 true) else ((impl_areNear.f 50 l0).bind fun t216 => (impl_ArePoints.j0 k l0 (!t216))))) = some r := h
 clear h
 have HC2 := Aside0.mk H
 clear H
 go_enter Tryd.func42, Tryd.ntmps42
 go_upto_region 1 with (fail)
 go_cut [17] (fun v17 wc => ∃ (kq : Nat) (x17_1 : Bool), v17 = .bool x17_1 ∧ Aside0 (impl_ArePoints.j0 kq l0 x17_1 = some r) ∧ Aside0 (kq ≤ k) ∧ Aside0 (Below w.heap.size w wc))
 case first =>
  have H := HC2.out
  clear HC2
  by_cases c3 : (l0.length : Int) < 3
  ·rw [if_pos c3] at H
   have c3b0 : decide ((l0.length : Int) < 3) = true := decide_eq_true c3
   have c3b1 : decide (l0.length < 3) = true := decide_eq_true (by omega)
   clear c3
   (first | rw [c3b0] | (simp only [i64_w, i32_w]; rw [c3b0]) | skip)
   have H' := Aside0.mk H; clear H
   go_wp2
   go_meet
   case rel => exact ⟨_, (true), zF, H', ⟨by first | omega | exact Nat.le_refl _⟩, ⟨zB⟩⟩
  rw [if_neg c3] at H
  have c3b0 : decide ((l0.length : Int) < 3) = false := decide_eq_false c3
  have c3b1 : decide (l0.length < 3) = false := decide_eq_false (by omega)
  clear c3
  (first | rw [c3b0] | (simp only [i64_w, i32_w]; rw [c3b0]) | skip)
  by_cases c4 : (l0.length : Int) > 7
  ·rw [if_pos c4] at H
   have c4b0 : decide (7 < (l0.length : Int)) = true := decide_eq_true c4
   have c4b1 : decide (7 < l0.length) = true := decide_eq_true (by omega)
   clear c4
   have H' := Aside0.mk H; clear H
   go_wp2
   go_meet
   case rel => exact ⟨_, (true), zF, H', ⟨by first | omega | exact Nat.le_refl _⟩, ⟨zB⟩⟩
  rw [if_neg c4] at H
  have c4b0 : decide (7 < (l0.length : Int)) = false := decide_eq_false c4
  have c4b1 : decide (7 < l0.length) = false := decide_eq_false (by omega)
  clear c4
  obtain ⟨t216, A5, H⟩ := zO H
  have H' := Aside0.mk H; clear H
  go_wp2_with (first | (go_at_call 58; (with_reducible refine (impl_areNear.calls 50 _ _ l0 t216 _ ?side1 ?side2 A5.out).mono ?_); (case side1 => repeat (first | exact (Kd.C_below HR0.out HB.out) | (with_reducible refine Kd.C_alloc ?_ _) | (with_reducible refine Kd.C_drewN ?_ _) | (with_reducible refine Kd.C_drew ?_))); (case side2 => exact HC0.out); rintro e w6 ⟨rfl, hb⟩; replace HB := zX hb; (try clear hb); (try clear hb2); (try clear hk); (try clear hi)))
  go_meet
  case rel => exact ⟨_, (!t216), zF, H', ⟨by first | omega | exact Nat.le_refl _⟩, ⟨zB⟩⟩
 case rest =>
 clear HC2
 obtain ⟨kq, x17_1, rfl, HA, HJ1, HB⟩ := hcut
 cases kq with
 | zero => exact absurd HA.out (by simp [impl_ArePoints.j0])
 | succ kj1 =>
 have H := HA.out
 clear HA
 simp only [impl_ArePoints.j0] at H
 by_cases c7 : x17_1 = true
 ·subst c7
  replace H := (if_pos rfl).symm.trans H
  obtain rfl := Option.some.inj H
  go_wp2
  go_ret
  exact ⟨zE, zB⟩
 replace c7 := Bool.eq_false_iff.mpr c7
 subst c7
 replace H := (if_neg zFf).symm.trans H
 obtain ⟨t217, A8, H⟩ := zO H
 have H' := Aside0.mk H; clear H
 go_wp2_with (first | ((with_reducible refine gate_callee (f := 59) rfl ?_); refine zD (some 20) Tryd.func59 #[.int .i64 (l0.length : Int)] ?_; (with_reducible refine (impl_triplesOf.calls kj1 (l0.length : Int) t217 _ A8.out).mono ?_); rintro e w9 ⟨v218, rfl, ho0, hb⟩; refine ⟨_, rfl, ?_⟩; have HO219 := Aside0.mk (Kd.R_lower ho0 (below_size zB)); replace HB := zX hb; (try clear hb); (try clear ho0); obtain ⟨Ao10, co10, eo10⟩ := Kd.R_slice HO219.out; subst eo10))
 go_loopg [22] kj1 (fun kq v22 w' => ∃ (x22_2 : Int), v22 = .int .i64 x22_2 ∧ Aside0 (impl_ArePoints.l0 kq l0 t217 (t217.length : Int) x22_2 = some r) ∧ Aside0 (kq ≤ kj1) ∧ Aside0 (Kd.R k76 76 w' w.heap.size (fun _ => True) (.slice Ao10 t217.length co10) t217) ∧ Aside0 (Below w.heap.size w w'))
 case atStart => exact ⟨(0), zF, H', ⟨Nat.le_refl _⟩, ⟨zR HO219.out⟩, ⟨zB⟩⟩
 case round =>
 clear H'
 try clear c7
 obtain ⟨x22_2, rfl, HA, HK2, HO_20, HB⟩ := hrel
 cases gk with
 | zero => exact absurd HA.out (by simp [impl_ArePoints.l0])
 | succ k2 =>
 have H := HA.out
 clear HA
 simp only [impl_ArePoints.l0] at H
 by_cases c11 : x22_2 < (t217.length : Int)
 ·rw [if_pos c11] at H
  have c11b0 : decide (x22_2 < (t217.length : Int)) = true := decide_eq_true c11
  clear c11
  by_cases c12 : 0 ≤ x22_2
  ·rw [if_pos c12] at H
   have c12b0 : decide (0 ≤ x22_2) = true := decide_eq_true c12
   clear c12
   by_cases c13 : x22_2 < (t217.length : Int)
   ·rw [if_pos c13] at H
    have c13b0 : decide (x22_2 < (t217.length : Int)) = true := decide_eq_true c13
    clear c13
    by_cases c14 : 0 ≤ ((rd_T76 t217 x22_2).f0)
    ·rw [if_pos c14] at H
     have c14b0 : decide (0 ≤ ((rd_T76 t217 x22_2).f0)) = true := decide_eq_true c14
     clear c14
     by_cases c15 : ((rd_T76 t217 x22_2).f0) < (l0.length : Int)
     ·rw [if_pos c15] at H
      have c15b0 : decide (((rd_T76 t217 x22_2).f0) < (l0.length : Int)) = true := decide_eq_true c15
      clear c15
      by_cases c16 : 0 ≤ ((rd_T76 t217 x22_2).f1)
      ·rw [if_pos c16] at H
       have c16b0 : decide (0 ≤ ((rd_T76 t217 x22_2).f1)) = true := decide_eq_true c16
       clear c16
       by_cases c17 : ((rd_T76 t217 x22_2).f1) < (l0.length : Int)
       ·rw [if_pos c17] at H
        have c17b0 : decide (((rd_T76 t217 x22_2).f1) < (l0.length : Int)) = true := decide_eq_true c17
        clear c17
        by_cases c18 : 0 ≤ ((rd_T76 t217 x22_2).f2)
        ·rw [if_pos c18] at H
         have c18b0 : decide (0 ≤ ((rd_T76 t217 x22_2).f2)) = true := decide_eq_true c18
         clear c18
         by_cases c19 : ((rd_T76 t217 x22_2).f2) < (l0.length : Int)
         ·rw [if_pos c19] at H
          have c19b0 : decide (((rd_T76 t217 x22_2).f2) < (l0.length : Int)) = true := decide_eq_true c19
          clear c19
          obtain ⟨t225, A20, H⟩ := zO H
          by_cases c21 : t225 = 0
          ·rw [if_pos c21] at H
           have c21b0 : (t225 == 0) = true := beq_iff_eq.mpr c21
           have c21b1 : (t225 != 0) = false := bne_eq_false_iff_eq.mpr c21
           clear c21
           obtain rfl := Option.some.inj H
           have p220 : 0 ≤ (x22_2 : Int) := zA
           have q220 : x22_2 < (t217.length : Int) := zA
           obtain ⟨ad220, e220, hx220_0, hx220_1, hx220_2⟩ := at_T76 (Kd.R_reads' HO_20.out).2.2 x22_2 p220 q220
           cases e220
           replace p220 := eq_true p220
           replace q220 := eq_true q220
           try go_wp2_with (first | ((with_reducible refine gate_dst (N := 4) rfl ?_); (try (refine gate_guard (by rfl) ?_; dsimp only)); refine zBx (N := 4) #[.int .i64 0, .int .i64 0, .int .i64 0] 76 ?_; intro gb221 hg w22 hbox hb; replace HO_20 := Aside0.mk (Kd.R_below (Kd.R_elderB (zR HO_20.out) gb221 (Nat.le_of_eq hg.symm)) hb); have BK221 := Aside0.mk (hbox); have GW221 := zS hg; have GE221 := zS hg; replace HB := zX hb; clear hb hbox hg; obtain ⟨hcz23_0, hcz23_1, hcz23_2, hfz23_0, hfz23_1, hfz23_2⟩ := zq3 BK221.out))
           have n0_ : Aside0 (Kd.R k76 76 (((w22.setCell ⟨gb221, 0, none⟩ (.int .i64 ((rd_T76 t217 x22_2).f0))).setCell ⟨gb221, 1, none⟩ (.int .i64 ((rd_T76 t217 x22_2).f1))).setCell ⟨gb221, 2, none⟩ (.int .i64 ((rd_T76 t217 x22_2).f2))) w.heap.size (fun k_ => k_ ≠ gb221) (.slice (some ad220) t217.length co10) t217) := ⟨by (with_reducible repeat (first | apply Kd.R_alloc | apply Kd.R_drewN | apply Kd.R_drew)); exact Kd.R_mono (Kd.R_far (p := ⟨gb221, 2, none⟩) (Kd.R_far (p := ⟨gb221, 1, none⟩) (Kd.R_far (p := ⟨gb221, 0, none⟩) (Kd.R_mono HO_20.out (fun k_ hk => (⟨hk, hk.2⟩ : _ ∧ k_ ≠ gb221))) (fun _ hk => hk.2) (.int .i64 ((rd_T76 t217 x22_2).f0))) (fun _ hk => hk.2) (.int .i64 ((rd_T76 t217 x22_2).f1))) (fun _ hk => hk.2) (.int .i64 ((rd_T76 t217 x22_2).f2))) (fun _ hk => hk.1.2)⟩
           have n1_ : Aside0 ((((w22.setCell ⟨gb221, 0, none⟩ (.int .i64 ((rd_T76 t217 x22_2).f0))).setCell ⟨gb221, 1, none⟩ (.int .i64 ((rd_T76 t217 x22_2).f1))).setCell ⟨gb221, 2, none⟩ (.int .i64 ((rd_T76 t217 x22_2).f2))).heap[gb221]? = some (.cells #[.int .i64 ((rd_T76 t217 x22_2).f0), .int .i64 ((rd_T76 t217 x22_2).f1), .int .i64 ((rd_T76 t217 x22_2).f2)] 76 (0, 0))) := ⟨zk0 BK221.out⟩
           have n2_ : Aside0 (Below w.heap.size w (((w22.setCell ⟨gb221, 0, none⟩ (.int .i64 ((rd_T76 t217 x22_2).f0))).setCell ⟨gb221, 1, none⟩ (.int .i64 ((rd_T76 t217 x22_2).f1))).setCell ⟨gb221, 2, none⟩ (.int .i64 ((rd_T76 t217 x22_2).f2)))) := ⟨zG GE221.out⟩
           (try clear HO_20)
           (try clear BK221)
           (try clear HB)
           generalize (((w22.setCell ⟨gb221, 0, none⟩ (.int .i64 ((rd_T76 t217 x22_2).f0))).setCell ⟨gb221, 1, none⟩ (.int .i64 ((rd_T76 t217 x22_2).f1))).setCell ⟨gb221, 2, none⟩ (.int .i64 ((rd_T76 t217 x22_2).f2))) = w24 at n0_ n1_ n2_ ⊢
           have HO_20 := n0_
           have BK221 := n1_
           have HB := n2_
           clear n0_ n1_ n2_
           replace HO_20 := Aside0.mk (Kd.R_drew HO_20.out)
           replace BK221 := Aside0.mk (blk_drew BK221.out)
           replace HB := Aside0.mk (below_drew1 HB.out)
           have p222 : 0 ≤ (((rd_T76 t217 x22_2).f0) : Int) := zA
           have q222 : ((rd_T76 t217 x22_2).f0) < (l0.length : Int) := zA
           obtain ⟨ad222, e222, hx222_0, hx222_1⟩ := at_T55 HR0.out ((rd_T76 t217 x22_2).f0) p222 q222
           have hw222_1 := hx222_1
           have hw222_0 := hx222_0
           cases e222
           replace hx222_0 := (HB.out.cell (World.block_lt_of_cell? w _ hx222_0)).trans hx222_0
           replace hx222_1 := (HB.out.cell (World.block_lt_of_cell? w _ hx222_1)).trans hx222_1
           replace p222 := eq_true p222
           replace q222 := eq_true q222
           have p223 : 0 ≤ (((rd_T76 t217 x22_2).f1) : Int) := zA
           have q223 : ((rd_T76 t217 x22_2).f1) < (l0.length : Int) := zA
           obtain ⟨ad223, e223, hx223_0, hx223_1⟩ := at_T55 HR0.out ((rd_T76 t217 x22_2).f1) p223 q223
           have hw223_1 := hx223_1
           have hw223_0 := hx223_0
           obtain rfl : ad222 = ad223 := (by injection e223)
           replace hx223_0 := (HB.out.cell (World.block_lt_of_cell? w _ hx223_0)).trans hx223_0
           replace hx223_1 := (HB.out.cell (World.block_lt_of_cell? w _ hx223_1)).trans hx223_1
           replace p223 := eq_true p223
           replace q223 := eq_true q223
           have p224 : 0 ≤ (((rd_T76 t217 x22_2).f2) : Int) := zA
           have q224 : ((rd_T76 t217 x22_2).f2) < (l0.length : Int) := zA
           obtain ⟨ad224, e224, hx224_0, hx224_1⟩ := at_T55 HR0.out ((rd_T76 t217 x22_2).f2) p224 q224
           have hw224_1 := hx224_1
           have hw224_0 := hx224_0
           obtain rfl : ad222 = ad224 := (by injection e224)
           replace hx224_0 := (HB.out.cell (World.block_lt_of_cell? w _ hx224_0)).trans hx224_0
           replace hx224_1 := (HB.out.cell (World.block_lt_of_cell? w _ hx224_1)).trans hx224_1
           replace p224 := eq_true p224
           replace q224 := eq_true q224
           refine start_ (n := 17) (S := fun w' => w'.cell? ⟨gb221, 0, none⟩ = some (.int .i64 ((rd_T76 t217 x22_2).f0)) ∧ w'.cell? ⟨gb221, 1, none⟩ = some (.int .i64 ((rd_T76 t217 x22_2).f1)) ∧ w'.cell? ⟨gb221, 2, none⟩ = some (.int .i64 ((rd_T76 t217 x22_2).f2)) ∧ w'.cell? (ad222.add ((((rd_T76 t217 x22_2).f0)).toNat * 2)) = some (.int .i64 ((rd_T55 l0 ((rd_T76 t217 x22_2).f0)).f0)) ∧ w'.cell? ⟨(ad222.add ((((rd_T76 t217 x22_2).f0)).toNat * 2)).block, (ad222.add ((((rd_T76 t217 x22_2).f0)).toNat * 2)).off + 1, none⟩ = some (.int .i64 ((rd_T55 l0 ((rd_T76 t217 x22_2).f0)).f1)) ∧ w'.cell? (ad222.add ((((rd_T76 t217 x22_2).f1)).toNat * 2)) = some (.int .i64 ((rd_T55 l0 ((rd_T76 t217 x22_2).f1)).f0)) ∧ w'.cell? ⟨(ad222.add ((((rd_T76 t217 x22_2).f1)).toNat * 2)).block, (ad222.add ((((rd_T76 t217 x22_2).f1)).toNat * 2)).off + 1, none⟩ = some (.int .i64 ((rd_T55 l0 ((rd_T76 t217 x22_2).f1)).f1)) ∧ w'.cell? (ad222.add ((((rd_T76 t217 x22_2).f2)).toNat * 2)) = some (.int .i64 ((rd_T55 l0 ((rd_T76 t217 x22_2).f2)).f0)) ∧ w'.cell? ⟨(ad222.add ((((rd_T76 t217 x22_2).f2)).toNat * 2)).block, (ad222.add ((((rd_T76 t217 x22_2).f2)).toNat * 2)).off + 1, none⟩ = some (.int .i64 ((rd_T55 l0 ((rd_T76 t217 x22_2).f2)).f1))) (ds := []) #[false, false, false, false, false, false, false, false, false, false, false, false, false, false, false, false, false] (by kernel_rfl) rfl rfl ⟨(blk_cell BK221.out 0).trans rfl, (blk_cell BK221.out 1).trans rfl, (blk_cell BK221.out 2).trans rfl, ((HB.out.cell (World.block_lt_of_cell? w _ hw222_0)).trans hw222_0), ((HB.out.cell (World.block_lt_of_cell? w _ hw222_1)).trans hw222_1), ((HB.out.cell (World.block_lt_of_cell? w _ hw223_0)).trans hw223_0), ((HB.out.cell (World.block_lt_of_cell? w _ hw223_1)).trans hw223_1), ((HB.out.cell (World.block_lt_of_cell? w _ hw224_0)).trans hw224_0), ((HB.out.cell (World.block_lt_of_cell? w _ hw224_1)).trans hw224_1)⟩ (fun hHeld => ?_); refine with_tabW impl_ArePoints.tab6 impl_ArePoints.bits6 (fun HT_ HW_ => ?_)
           generalize w24.drew = w25 at HO_20 BK221 HB hx222_0 hx222_1 hx223_0 hx223_1 hx224_0 hx224_1 hHeld ⊢
           refine zP 0 (some 26) rfl rfl ?_
           refine zP 1 (some 27) rfl rfl ?_
           refine zP 5 (some 31) rfl rfl ?_
           refine zP 6 (some 32) rfl rfl ?_
           refine zP 10 (some 36) rfl rfl ?_
           refine zP 11 (some 37) rfl rfl ?_
           refine zY9 2 (some 28) rfl rfl hHeld ?_
           refine zP 3 (some 29) rfl rfl ?_
           refine zY9 4 (some 30) rfl rfl hHeld ?_
           refine zY9 7 (some 33) rfl rfl hHeld ?_
           refine zP 8 (some 34) rfl rfl ?_
           refine zY9 9 (some 35) rfl rfl hHeld ?_
           refine zY9 12 (some 38) rfl rfl hHeld ?_
           refine zP 13 (some 39) rfl rfl ?_
           refine zY9 14 (some 40) rfl rfl hHeld ?_
           refine zU 15 (some 41) rfl rfl (fun K hK => ?_)
           refine goes_ Tryd.func60 (by kernel_rfl) rfl #[.agg #[.int .i64 ((rd_T55 l0 ((rd_T76 t217 x22_2).f0)).f0), .int .i64 ((rd_T55 l0 ((rd_T76 t217 x22_2).f0)).f1)], .agg #[.int .i64 ((rd_T55 l0 ((rd_T76 t217 x22_2).f1)).f0), .int .i64 ((rd_T55 l0 ((rd_T76 t217 x22_2).f1)).f1)], .agg #[.int .i64 ((rd_T55 l0 ((rd_T76 t217 x22_2).f2)).f0), .int .i64 ((rd_T55 l0 ((rd_T76 t217 x22_2).f2)).f1)]] (by rfl) rfl rfl zM ?_
           with_reducible refine (impl_TurnOf.calls ((rd_T55 l0 ((rd_T76 t217 x22_2).f0)).f0) ((rd_T55 l0 ((rd_T76 t217 x22_2).f0)).f1) ((rd_T55 l0 ((rd_T76 t217 x22_2).f1)).f0) ((rd_T55 l0 ((rd_T76 t217 x22_2).f1)).f1) ((rd_T55 l0 ((rd_T76 t217 x22_2).f2)).f0) ((rd_T55 l0 ((rd_T76 t217 x22_2).f2)).f1) t225 _ A20.out).mono ?_
           rintro e w26 ⟨rfl, hb⟩
           refine ⟨_, rfl, ?_⟩
           replace HO_20 := zW HO_20.out hb
           replace BK221 := zV BK221.out hb
           replace HB := zX1 GE221.out hb
           (try clear hb)
           refine hK.out _ _ ⟨(blk_cell BK221.out 0).trans rfl, (blk_cell BK221.out 1).trans rfl, (blk_cell BK221.out 2).trans rfl, ((HB.out.cell (World.block_lt_of_cell? w _ hw222_0)).trans hw222_0), ((HB.out.cell (World.block_lt_of_cell? w _ hw222_1)).trans hw222_1), ((HB.out.cell (World.block_lt_of_cell? w _ hw223_0)).trans hw223_0), ((HB.out.cell (World.block_lt_of_cell? w _ hw223_1)).trans hw223_1), ((HB.out.cell (World.block_lt_of_cell? w _ hw224_0)).trans hw224_0), ((HB.out.cell (World.block_lt_of_cell? w _ hw224_1)).trans hw224_1)⟩ (fun hHeld => ?_)
           clear hK K
           refine zN ?_
           refine zP 16 (some 42) rfl rfl ?_
           refine done_ (done_of HT_.out (by kernel_rfl)) ?_
           try go_wp2
           go_ret
           exact ⟨zE, zG GE221.out⟩
          rw [if_neg c21] at H
          have c21b0 : (t225 == 0) = false := beq_eq_false_iff_ne.mpr c21
          have c21b1 : (t225 != 0) = true := bne_iff_ne.mpr c21
          have H' := Aside0.mk H; clear H
          have p220 : 0 ≤ (x22_2 : Int) := zA
          have q220 : x22_2 < (t217.length : Int) := zA
          obtain ⟨ad220, e220, hx220_0, hx220_1, hx220_2⟩ := at_T76 (Kd.R_reads' HO_20.out).2.2 x22_2 p220 q220
          cases e220
          replace p220 := eq_true p220
          replace q220 := eq_true q220
          try go_wp2_with (first | ((with_reducible refine gate_dst (N := 4) rfl ?_); (try (refine gate_guard (by rfl) ?_; dsimp only)); refine zBx (N := 4) #[.int .i64 0, .int .i64 0, .int .i64 0] 76 ?_; intro gb221 hg w27 hbox hb; replace HO_20 := Aside0.mk (Kd.R_below (Kd.R_elderB (zR HO_20.out) gb221 (Nat.le_of_eq hg.symm)) hb); have BK221 := Aside0.mk (hbox); have GW221 := zS hg; have GE221 := zS hg; replace HB := zX hb; clear hb hbox hg; obtain ⟨hcz28_0, hcz28_1, hcz28_2, hfz28_0, hfz28_1, hfz28_2⟩ := zq3 BK221.out))
          have n0_ : Aside0 (Kd.R k76 76 (((w27.setCell ⟨gb221, 0, none⟩ (.int .i64 ((rd_T76 t217 x22_2).f0))).setCell ⟨gb221, 1, none⟩ (.int .i64 ((rd_T76 t217 x22_2).f1))).setCell ⟨gb221, 2, none⟩ (.int .i64 ((rd_T76 t217 x22_2).f2))) w.heap.size (fun k_ => k_ ≠ gb221) (.slice (some ad220) t217.length co10) t217) := ⟨by (with_reducible repeat (first | apply Kd.R_alloc | apply Kd.R_drewN | apply Kd.R_drew)); exact Kd.R_mono (Kd.R_far (p := ⟨gb221, 2, none⟩) (Kd.R_far (p := ⟨gb221, 1, none⟩) (Kd.R_far (p := ⟨gb221, 0, none⟩) (Kd.R_mono HO_20.out (fun k_ hk => (⟨hk, hk.2⟩ : _ ∧ k_ ≠ gb221))) (fun _ hk => hk.2) (.int .i64 ((rd_T76 t217 x22_2).f0))) (fun _ hk => hk.2) (.int .i64 ((rd_T76 t217 x22_2).f1))) (fun _ hk => hk.2) (.int .i64 ((rd_T76 t217 x22_2).f2))) (fun _ hk => hk.1.2)⟩
          have n1_ : Aside0 ((((w27.setCell ⟨gb221, 0, none⟩ (.int .i64 ((rd_T76 t217 x22_2).f0))).setCell ⟨gb221, 1, none⟩ (.int .i64 ((rd_T76 t217 x22_2).f1))).setCell ⟨gb221, 2, none⟩ (.int .i64 ((rd_T76 t217 x22_2).f2))).heap[gb221]? = some (.cells #[.int .i64 ((rd_T76 t217 x22_2).f0), .int .i64 ((rd_T76 t217 x22_2).f1), .int .i64 ((rd_T76 t217 x22_2).f2)] 76 (0, 0))) := ⟨zk0 BK221.out⟩
          have n2_ : Aside0 (Below w.heap.size w (((w27.setCell ⟨gb221, 0, none⟩ (.int .i64 ((rd_T76 t217 x22_2).f0))).setCell ⟨gb221, 1, none⟩ (.int .i64 ((rd_T76 t217 x22_2).f1))).setCell ⟨gb221, 2, none⟩ (.int .i64 ((rd_T76 t217 x22_2).f2)))) := ⟨zG GE221.out⟩
          (try clear HO_20)
          (try clear BK221)
          (try clear HB)
          generalize (((w27.setCell ⟨gb221, 0, none⟩ (.int .i64 ((rd_T76 t217 x22_2).f0))).setCell ⟨gb221, 1, none⟩ (.int .i64 ((rd_T76 t217 x22_2).f1))).setCell ⟨gb221, 2, none⟩ (.int .i64 ((rd_T76 t217 x22_2).f2))) = w29 at n0_ n1_ n2_ ⊢
          have HO_20 := n0_
          have BK221 := n1_
          have HB := n2_
          clear n0_ n1_ n2_
          replace HO_20 := Aside0.mk (Kd.R_drew HO_20.out)
          replace BK221 := Aside0.mk (blk_drew BK221.out)
          replace HB := Aside0.mk (below_drew1 HB.out)
          have p222 : 0 ≤ (((rd_T76 t217 x22_2).f0) : Int) := zA
          have q222 : ((rd_T76 t217 x22_2).f0) < (l0.length : Int) := zA
          obtain ⟨ad222, e222, hx222_0, hx222_1⟩ := at_T55 HR0.out ((rd_T76 t217 x22_2).f0) p222 q222
          have hw222_1 := hx222_1
          have hw222_0 := hx222_0
          cases e222
          replace hx222_0 := (HB.out.cell (World.block_lt_of_cell? w _ hx222_0)).trans hx222_0
          replace hx222_1 := (HB.out.cell (World.block_lt_of_cell? w _ hx222_1)).trans hx222_1
          replace p222 := eq_true p222
          replace q222 := eq_true q222
          have p223 : 0 ≤ (((rd_T76 t217 x22_2).f1) : Int) := zA
          have q223 : ((rd_T76 t217 x22_2).f1) < (l0.length : Int) := zA
          obtain ⟨ad223, e223, hx223_0, hx223_1⟩ := at_T55 HR0.out ((rd_T76 t217 x22_2).f1) p223 q223
          have hw223_1 := hx223_1
          have hw223_0 := hx223_0
          obtain rfl : ad222 = ad223 := (by injection e223)
          replace hx223_0 := (HB.out.cell (World.block_lt_of_cell? w _ hx223_0)).trans hx223_0
          replace hx223_1 := (HB.out.cell (World.block_lt_of_cell? w _ hx223_1)).trans hx223_1
          replace p223 := eq_true p223
          replace q223 := eq_true q223
          have p224 : 0 ≤ (((rd_T76 t217 x22_2).f2) : Int) := zA
          have q224 : ((rd_T76 t217 x22_2).f2) < (l0.length : Int) := zA
          obtain ⟨ad224, e224, hx224_0, hx224_1⟩ := at_T55 HR0.out ((rd_T76 t217 x22_2).f2) p224 q224
          have hw224_1 := hx224_1
          have hw224_0 := hx224_0
          obtain rfl : ad222 = ad224 := (by injection e224)
          replace hx224_0 := (HB.out.cell (World.block_lt_of_cell? w _ hx224_0)).trans hx224_0
          replace hx224_1 := (HB.out.cell (World.block_lt_of_cell? w _ hx224_1)).trans hx224_1
          replace p224 := eq_true p224
          replace q224 := eq_true q224
          refine start_ (n := 17) (S := fun w' => w'.cell? ⟨gb221, 0, none⟩ = some (.int .i64 ((rd_T76 t217 x22_2).f0)) ∧ w'.cell? ⟨gb221, 1, none⟩ = some (.int .i64 ((rd_T76 t217 x22_2).f1)) ∧ w'.cell? ⟨gb221, 2, none⟩ = some (.int .i64 ((rd_T76 t217 x22_2).f2)) ∧ w'.cell? (ad222.add ((((rd_T76 t217 x22_2).f0)).toNat * 2)) = some (.int .i64 ((rd_T55 l0 ((rd_T76 t217 x22_2).f0)).f0)) ∧ w'.cell? ⟨(ad222.add ((((rd_T76 t217 x22_2).f0)).toNat * 2)).block, (ad222.add ((((rd_T76 t217 x22_2).f0)).toNat * 2)).off + 1, none⟩ = some (.int .i64 ((rd_T55 l0 ((rd_T76 t217 x22_2).f0)).f1)) ∧ w'.cell? (ad222.add ((((rd_T76 t217 x22_2).f1)).toNat * 2)) = some (.int .i64 ((rd_T55 l0 ((rd_T76 t217 x22_2).f1)).f0)) ∧ w'.cell? ⟨(ad222.add ((((rd_T76 t217 x22_2).f1)).toNat * 2)).block, (ad222.add ((((rd_T76 t217 x22_2).f1)).toNat * 2)).off + 1, none⟩ = some (.int .i64 ((rd_T55 l0 ((rd_T76 t217 x22_2).f1)).f1)) ∧ w'.cell? (ad222.add ((((rd_T76 t217 x22_2).f2)).toNat * 2)) = some (.int .i64 ((rd_T55 l0 ((rd_T76 t217 x22_2).f2)).f0)) ∧ w'.cell? ⟨(ad222.add ((((rd_T76 t217 x22_2).f2)).toNat * 2)).block, (ad222.add ((((rd_T76 t217 x22_2).f2)).toNat * 2)).off + 1, none⟩ = some (.int .i64 ((rd_T55 l0 ((rd_T76 t217 x22_2).f2)).f1))) (ds := []) #[false, false, false, false, false, false, false, false, false, false, false, false, false, false, false, false, false] (by kernel_rfl) rfl rfl ⟨(blk_cell BK221.out 0).trans rfl, (blk_cell BK221.out 1).trans rfl, (blk_cell BK221.out 2).trans rfl, ((HB.out.cell (World.block_lt_of_cell? w _ hw222_0)).trans hw222_0), ((HB.out.cell (World.block_lt_of_cell? w _ hw222_1)).trans hw222_1), ((HB.out.cell (World.block_lt_of_cell? w _ hw223_0)).trans hw223_0), ((HB.out.cell (World.block_lt_of_cell? w _ hw223_1)).trans hw223_1), ((HB.out.cell (World.block_lt_of_cell? w _ hw224_0)).trans hw224_0), ((HB.out.cell (World.block_lt_of_cell? w _ hw224_1)).trans hw224_1)⟩ (fun hHeld => ?_); refine with_tabW impl_ArePoints.tab6 impl_ArePoints.bits6 (fun HT_ HW_ => ?_)
          generalize w29.drew = w30 at HO_20 BK221 HB hx222_0 hx222_1 hx223_0 hx223_1 hx224_0 hx224_1 hHeld ⊢
          refine zP 0 (some 26) rfl rfl ?_
          refine zP 1 (some 27) rfl rfl ?_
          refine zP 5 (some 31) rfl rfl ?_
          refine zP 6 (some 32) rfl rfl ?_
          refine zP 10 (some 36) rfl rfl ?_
          refine zP 11 (some 37) rfl rfl ?_
          refine zY9 2 (some 28) rfl rfl hHeld ?_
          refine zP 3 (some 29) rfl rfl ?_
          refine zY9 4 (some 30) rfl rfl hHeld ?_
          refine zY9 7 (some 33) rfl rfl hHeld ?_
          refine zP 8 (some 34) rfl rfl ?_
          refine zY9 9 (some 35) rfl rfl hHeld ?_
          refine zY9 12 (some 38) rfl rfl hHeld ?_
          refine zP 13 (some 39) rfl rfl ?_
          refine zY9 14 (some 40) rfl rfl hHeld ?_
          refine zU 15 (some 41) rfl rfl (fun K hK => ?_)
          refine goes_ Tryd.func60 (by kernel_rfl) rfl #[.agg #[.int .i64 ((rd_T55 l0 ((rd_T76 t217 x22_2).f0)).f0), .int .i64 ((rd_T55 l0 ((rd_T76 t217 x22_2).f0)).f1)], .agg #[.int .i64 ((rd_T55 l0 ((rd_T76 t217 x22_2).f1)).f0), .int .i64 ((rd_T55 l0 ((rd_T76 t217 x22_2).f1)).f1)], .agg #[.int .i64 ((rd_T55 l0 ((rd_T76 t217 x22_2).f2)).f0), .int .i64 ((rd_T55 l0 ((rd_T76 t217 x22_2).f2)).f1)]] (by rfl) rfl rfl zM ?_
          with_reducible refine (impl_TurnOf.calls ((rd_T55 l0 ((rd_T76 t217 x22_2).f0)).f0) ((rd_T55 l0 ((rd_T76 t217 x22_2).f0)).f1) ((rd_T55 l0 ((rd_T76 t217 x22_2).f1)).f0) ((rd_T55 l0 ((rd_T76 t217 x22_2).f1)).f1) ((rd_T55 l0 ((rd_T76 t217 x22_2).f2)).f0) ((rd_T55 l0 ((rd_T76 t217 x22_2).f2)).f1) t225 _ A20.out).mono ?_
          rintro e w31 ⟨rfl, hb⟩
          refine ⟨_, rfl, ?_⟩
          replace HO_20 := zW HO_20.out hb
          replace BK221 := zV BK221.out hb
          replace HB := zX1 GE221.out hb
          (try clear hb)
          refine hK.out _ _ ⟨(blk_cell BK221.out 0).trans rfl, (blk_cell BK221.out 1).trans rfl, (blk_cell BK221.out 2).trans rfl, ((HB.out.cell (World.block_lt_of_cell? w _ hw222_0)).trans hw222_0), ((HB.out.cell (World.block_lt_of_cell? w _ hw222_1)).trans hw222_1), ((HB.out.cell (World.block_lt_of_cell? w _ hw223_0)).trans hw223_0), ((HB.out.cell (World.block_lt_of_cell? w _ hw223_1)).trans hw223_1), ((HB.out.cell (World.block_lt_of_cell? w _ hw224_0)).trans hw224_0), ((HB.out.cell (World.block_lt_of_cell? w _ hw224_1)).trans hw224_1)⟩ (fun hHeld => ?_)
          clear hK K
          refine zN ?_
          refine zP 16 (some 42) rfl rfl ?_
          refine done_ (done_of HT_.out (by kernel_rfl)) ?_
          try go_wp2
          go_roundg k2
          case measure => have := HJ1.out; have := HK2.out; omega
          case rel => exact ⟨(wrap64 (x22_2 + 1)), zF, H', ⟨by have := HJ1.out; have := HK2.out; omega⟩, ⟨by (with_reducible repeat (first | apply Kd.R_alloc | apply Kd.R_drewN | apply Kd.R_drew)); exact Kd.R_mono HO_20.out (fun _ hk => trivial)⟩, ⟨zG GE221.out⟩⟩
         rw [if_neg c19] at H
         exact absurd H (by simp)
        rw [if_neg c18] at H
        exact absurd H (by simp)
       rw [if_neg c17] at H
       exact absurd H (by simp)
      rw [if_neg c16] at H
      exact absurd H (by simp)
     rw [if_neg c15] at H
     exact absurd H (by simp)
    rw [if_neg c14] at H
    exact absurd H (by simp)
   rw [if_neg c13] at H
   exact absurd H (by simp)
  rw [if_neg c12] at H
  exact absurd H (by simp)
 rw [if_neg c11] at H
 have c11b0 : decide (x22_2 < (t217.length : Int)) = false := decide_eq_false c11
 clear c11
 obtain rfl := Option.some.inj H
 go_wp2
 go_ret
 exact ⟨zE, zB⟩
/-! ### impl_PointsText: function 20 -/
def impl_PointsText.l0 : Nat → List ByteArray → List (S55) → Int → Int → Option (ByteArray)
 | 0, _, _, _, _ => none
 | k + 1, x3, x9, x10, x11 => if x11 < x10 then (if 0 ≤ x11 then (if x11 < (x9.length : Int) then ((impl_FormatInt.f ((rd_T55 x9 x11).f0)).bind fun t230 => (if t230.size + 1 ≤ 9223372036854775807 then ((impl_FormatInt.f ((rd_T55 x9 x11).f1)).bind fun t231 => (if t230.size + 1 + t231.size ≤ 9223372036854775807 then (if x3.length < 8796093022208 then (impl_PointsText.l0 k (x3 ++ [(t230 ++ (⟨#[44]⟩ : ByteArray)) ++ t231]) x9 x10 (wrap64 (x11 + 1))) else (none)) else (none))) else (none))) else (none)) else (none)) else ((impl_Join.f x3 (⟨#[32]⟩ : ByteArray)).bind fun t235 => (some t235))
def impl_PointsText.f (k : Nat) (l0 : List (S55)) : Option (ByteArray) := (impl_ArePoints.f k l0).bind fun t227 => (if t227 = true then (impl_PointsText.l0 k ([] : List ByteArray) l0 (l0.length : Int) 0) else (some (⟨#[]⟩ : ByteArray)))
def impl_PointsText.T7 : Bool × List (List Nat × List Nat) := (true, [([], []), ([], []), ([1], [1]), ([2], [2]), ([3], [3]), ([], []), ([5], [5]), ([6, 3], [6]), ([4, 7], [4, 7]), ([8], [8]), ([0, 9, 7], [0, 9]), ([10, 10, 0, 1, 2, 3, 4, 5, 6, 7, 8, 9, 10], [0, 10])])
def impl_PointsText.B7 : List Nat := [0, 0, 2, 6, 14, 0, 32, 110, 254, 510, 1023, 2047]
theorem impl_PointsText.tab7 : rtab .any (opsOf Tryd.f20 7) = impl_PointsText.T7 := by kernel_rfl
theorem impl_PointsText.bits7 : waitsOk impl_PointsText.T7.2 impl_PointsText.B7 = true := by kernel_rfl
theorem zl50_0 {p q p0 : Prop} (g : p) (g0 : p0) (h : p → p0 → q := by intro zg_ z0_; repeat (first | (with_reducible first | exact zg_ | apply below_alloc | apply pw_below_drewN | apply below_drew1 | refine below_set ?_ z0_) | exact zg_)) : q := h g g0
set_option maxHeartbeats 8000000 in
set_option maxRecDepth 100000 in
theorem impl_PointsText.calls (k : Nat) (A0 : Option Addr) (c0 : Nat) (l0 : List (S55)) (r : ByteArray) (w : World) (hr0 : Kd.C k55 w A0 l0.length l0) (hc0 : l0.length ≤ c0) (h : impl_PointsText.f k l0 = some r) (hT : T1 w) :
  Calls Tryd.prog 20 #[.slice A0 l0.length c0] w fun e w' => e = .returned (.string r) ∧ Below w.heap.size w w' := by
 have HT := Aside0.mk hT
 clear hT
 have hu55 := Tryd.underlying55
 have HR0 := Aside0.mk hr0
 have HC0 := Aside0.mk hc0
 clear hr0 hc0
 have HB := Aside0.mk (Below.refl w.heap.size w)
 have H : ((impl_ArePoints.f k l0).bind fun t227 => (if t227 = true then (impl_PointsText.l0 k ([] : List ByteArray) l0 (l0.length : Int) 0) else (some (⟨#[]⟩ : ByteArray)))) = some r := h
 clear h
 obtain ⟨t227, A2, H⟩ := zO H
 by_cases c3 : t227 = true
 ·subst c3
  replace H := (if_pos rfl).symm.trans H
  have H' := Aside0.mk H; clear H
  go_enter Tryd.func20, Tryd.ntmps20
  go_wp2_with (first | ((with_reducible refine gate_callee (f := 42) rfl ?_); refine zD (some 7) Tryd.func42 #[.slice A0 l0.length c0] ?_; (with_reducible refine (impl_ArePoints.calls k _ _ l0 true _ ?side1 ?side2 A2.out).mono ?_); (case side1 => repeat (first | exact HR0.out | (with_reducible refine Kd.C_alloc ?_ _) | (with_reducible refine Kd.C_drewN ?_ _) | (with_reducible refine Kd.C_drew ?_))); (case side2 => exact HC0.out); rintro e w4 ⟨rfl, hb⟩; refine ⟨_, rfl, ?_⟩; replace HB := zX hb; (try clear hb)))
  go_loopg [3, 11] k (fun kq v3 v11 w' => ∃ (x3_1 : List ByteArray) (x11_1 : Int), v11 = .int .i64 x11_1 ∧ Aside0 (impl_PointsText.l0 kq x3_1 l0 (l0.length : Int) x11_1 = some r) ∧ Aside0 (kq ≤ k) ∧ Aside0 (Kd.R Kd.string 9 w' w.heap.size (fun _ => True) v3 x3_1) ∧ Aside0 (Below w.heap.size w w'))
  case atStart => exact ⟨(([] : List ByteArray)), (0), zF, H', ⟨Nat.le_refl _⟩, ⟨by first | exact Kd.R_nil _ _ _ _ _ | exact Kd.N_nil _ _ _ _ _ | exact Kd.V_nil _ _ _ _ _ | exact Kd.Q_nil _ _ _ _ _ | exact Kd.S_nil _ _ _ _ _⟩, ⟨zB⟩⟩
  case round =>
  clear H'
  try clear c3
  obtain ⟨x3_1, x11_1, rfl, HA, HK1, HO_3, HB⟩ := hrel
  cases gk with
  | zero => exact absurd HA.out (by simp [impl_PointsText.l0])
  | succ k1 =>
  have H := HA.out
  clear HA
  simp only [impl_PointsText.l0] at H
  by_cases c5 : x11_1 < (l0.length : Int)
  ·rw [if_pos c5] at H
   have c5b0 : decide (x11_1 < (l0.length : Int)) = true := decide_eq_true c5
   clear c5
   by_cases c6 : 0 ≤ x11_1
   ·rw [if_pos c6] at H
    have c6b0 : decide (0 ≤ x11_1) = true := decide_eq_true c6
    clear c6
    by_cases c7 : x11_1 < (l0.length : Int)
    ·rw [if_pos c7] at H
     have c7b0 : decide (x11_1 < (l0.length : Int)) = true := decide_eq_true c7
     clear c7
     obtain ⟨t230, A8, H⟩ := zO H
     by_cases c9 : t230.size + 1 ≤ 9223372036854775807
     ·rw [if_pos c9] at H
      have c9b0 := eq_true c9
      have c9b1 : decide (t230.size + 1 ≤ 9223372036854775807) = true := decide_eq_true c9
      try have c9b2 : (9223372036854775807 < t230.size + 1) = False := eq_false (Nat.not_lt.2 c9)
      obtain ⟨t231, A10, H⟩ := zO H
      by_cases c11 : t230.size + 1 + t231.size ≤ 9223372036854775807
      ·rw [if_pos c11] at H
       have c11b0 := eq_true c11
       have c11b1 : decide (t230.size + 1 + t231.size ≤ 9223372036854775807) = true := decide_eq_true c11
       try have c11b2 : (9223372036854775807 < t230.size + 1 + t231.size) = False := eq_false (Nat.not_lt.2 c11)
       by_cases c12 : x3_1.length < 8796093022208
       ·rw [if_pos c12] at H
        have LMc12 := Aside0.mk c12
        clear c12
        obtain ⟨y232, hy232⟩ : ∃ y_ : List ByteArray, y_ = (x3_1 ++ [(t230 ++ (⟨#[44]⟩ : ByteArray)) ++ t231]) := ⟨_, rfl⟩
        replace H : (impl_PointsText.l0 k1 y232 l0 (l0.length : Int) (wrap64 (x11_1 + 1))) = some r := by first | (rw [hy232]; with_reducible exact H) | (have H2_ := (Option.bind_some _ _).symm.trans H; rw [hy232]; with_reducible exact H2_) | (have H2_ := (Option.bind_some _ _).symm.trans H; with_reducible exact H2_) | with_reducible exact H | (rw [hy232]; exact H) | exact H
        have Ny232 := Aside0.mk hy232
        clear hy232
        have H' := Aside0.mk H; clear H
        have p228 : 0 ≤ (x11_1 : Int) := zA
        have q228 : x11_1 < (l0.length : Int) := zA
        obtain ⟨ad228, e228, hx228_0, hx228_1⟩ := at_T55 HR0.out x11_1 p228 q228
        cases e228
        replace hx228_0 := (HB.out.cell (World.block_lt_of_cell? w _ hx228_0)).trans hx228_0
        replace hx228_1 := (HB.out.cell (World.block_lt_of_cell? w _ hx228_1)).trans hx228_1
        replace p228 := eq_true p228
        replace q228 := eq_true q228
        try go_wp2_with (first | ((with_reducible refine gate_dst (N := 5) rfl ?_); refine zBx (N := 5) #[.int .i64 0, .int .i64 0] 55 ?_; intro gb229 hg w13 hbox hb; replace HO_3 := zW HO_3.out hb; have BK229 := Aside0.mk (hbox); have GW229 := zS hg; have GE229 := zS hg; replace HB := zX hb; clear hb hbox hg; obtain ⟨hcz14_0, hcz14_1, hfz14_0, hfz14_1⟩ := zq2 BK229.out))
        have n0_ : Aside0 (Kd.R Kd.string 9 ((w13.setCell ⟨gb229, 0, none⟩ (.int .i64 ((rd_T55 l0 x11_1).f0))).setCell ⟨gb229, 1, none⟩ (.int .i64 ((rd_T55 l0 x11_1).f1))) w.heap.size (fun _ => True) u3 x3_1) := ⟨by (with_reducible repeat (first | apply Kd.R_alloc | apply Kd.R_drewN | apply Kd.R_drew)); exact Kd.R_mono (Kd.R_far (p := ⟨gb229, 1, none⟩) (Kd.R_far (p := ⟨gb229, 0, none⟩) (Kd.R_types HO_3.out BK229.out (by decide)) (fun _ hk => hk.2) (.int .i64 ((rd_T55 l0 x11_1).f0))) (fun _ hk => hk.2) (.int .i64 ((rd_T55 l0 x11_1).f1))) (fun _ hk => trivial)⟩
        have n1_ : Aside0 (((w13.setCell ⟨gb229, 0, none⟩ (.int .i64 ((rd_T55 l0 x11_1).f0))).setCell ⟨gb229, 1, none⟩ (.int .i64 ((rd_T55 l0 x11_1).f1))).heap[gb229]? = some (.cells #[.int .i64 ((rd_T55 l0 x11_1).f0), .int .i64 ((rd_T55 l0 x11_1).f1)] 55 (0, 0))) := ⟨zk0 BK229.out⟩
        have n2_ : Aside0 (Below w.heap.size w ((w13.setCell ⟨gb229, 0, none⟩ (.int .i64 ((rd_T55 l0 x11_1).f0))).setCell ⟨gb229, 1, none⟩ (.int .i64 ((rd_T55 l0 x11_1).f1)))) := ⟨zG GE229.out⟩
        (try clear HO_3)
        (try clear BK229)
        (try clear HB)
        generalize ((w13.setCell ⟨gb229, 0, none⟩ (.int .i64 ((rd_T55 l0 x11_1).f0))).setCell ⟨gb229, 1, none⟩ (.int .i64 ((rd_T55 l0 x11_1).f1))) = w15 at n0_ n1_ n2_ ⊢
        have HO_3 := n0_
        have BK229 := n1_
        have HB := n2_
        clear n0_ n1_ n2_
        replace HO_3 := Aside0.mk (Kd.R_drew HO_3.out)
        replace BK229 := Aside0.mk (blk_drew BK229.out)
        replace HB := Aside0.mk (below_drew1 HB.out)
        refine start_ (n := 12) (S := fun w' => w'.cell? ⟨gb229, 0, none⟩ = some (.int .i64 ((rd_T55 l0 x11_1).f0)) ∧ w'.cell? ⟨gb229, 1, none⟩ = some (.int .i64 ((rd_T55 l0 x11_1).f1))) (ds := []) #[false, false, false, false, false, false, false, false, false, false, false, false] (by kernel_rfl) rfl rfl ⟨(blk_cell BK229.out 0).trans rfl, (blk_cell BK229.out 1).trans rfl⟩ (fun hHeld => ?_); refine with_tabW impl_PointsText.tab7 impl_PointsText.bits7 (fun HT_ HW_ => ?_)
        generalize w15.drew = w16 at HO_3 BK229 HB hHeld ⊢
        refine zP 0 (some 15) rfl rfl ?_
        refine zP 1 (some 16) rfl rfl ?_
        refine zP 5 (some 20) rfl rfl ?_
        refine zY2 2 (some 17) rfl rfl hHeld ?_
        refine zY2 6 (some 21) rfl rfl hHeld ?_
        refine zU 3 (some 18) rfl rfl (fun K hK => ?_)
        refine goes_ Tryd.func12 (by kernel_rfl) rfl #[.int .i64 ((rd_T55 l0 x11_1).f0)] (by rfl) rfl rfl zM ?_
        with_reducible refine (impl_FormatInt.calls ((rd_T55 l0 x11_1).f0) t230 _ A8.out (HT.out.below ?sideT)).mono ?_
        case sideT => exact (zl50_0 HB.out GE229.out)
        rintro e w17 ⟨rfl, hb⟩
        refine ⟨_, rfl, ?_⟩
        replace HO_3 := zW HO_3.out hb
        replace BK229 := zV BK229.out hb
        replace HB := zX1 GE229.out hb
        (try clear hb)
        refine hK.out _ _ (zh2 BK229.out) (fun hHeld => ?_)
        clear hK K
        refine zN ?_
        refine zP 4 (some 19) rfl rfl ?_
        refine zU 7 (some 22) rfl rfl (fun K hK => ?_)
        refine goes_ Tryd.func12 (by kernel_rfl) rfl #[.int .i64 ((rd_T55 l0 x11_1).f1)] (by rfl) rfl rfl zM ?_
        with_reducible refine (impl_FormatInt.calls ((rd_T55 l0 x11_1).f1) t231 _ A10.out (HT.out.below ?sideT)).mono ?_
        case sideT => exact (zl50_0 HB.out GE229.out)
        rintro e w18 ⟨rfl, hb⟩
        refine ⟨_, rfl, ?_⟩
        replace HO_3 := zW HO_3.out hb
        replace BK229 := zV BK229.out hb
        replace HB := zX1 GE229.out hb
        (try clear hb)
        refine hK.out _ _ (zh2 BK229.out) (fun hHeld => ?_)
        clear hK K
        refine zN ?_
        refine zP 8 (some 23) rfl rfl ?_
        refine zU 9 (some 24) rfl rfl (fun K hK => ?_)
        refine value_ (w1 := ?_) (v := ?_) (by rfl) rfl ?_ ?_
        rotate_left 2
        ·go_simp
         constructor
         ·rfl
         rfl
        refine hK.out _ _ ⟨(blk_cell (blk_alloc BK229.out _) 0).trans rfl, (blk_cell (blk_alloc BK229.out _) 1).trans rfl⟩ (fun hHeld => ?_)
        clear hK K
        refine zN ?_
        refine zU 10 (some 25) rfl rfl (fun K hK => ?_)
        refine Kd.R_append_step Kd.string (w0 := w) w.heap.size (by rfl) (.tmp 15) (.tmp 24) 53 9 (.string ⟨#[]⟩) 16 rfl Tryd.underlying53 info9 rfl (by decide) (by omega) u3 x3_1 ((t230 ++ (⟨#[44]⟩ : ByteArray)) ++ t231) [.string ((t230 ++ (⟨#[44]⟩ : ByteArray)) ++ t231)] (fun _ => True) (fun _ => False) rfl rfl ?aP (fun _ hk => hk.elim) ?aF ?aO ?aB ?aS ?aL ?_
        (case aP => exact rfl)
        (case aB => exact (zG GE229.out))
        (case aF => exact (fun _ _ => trivial))
        (case aO => exact (zR HO_3.out))
        (case aS => exact (below_size (zG GE229.out)))
        (case aL => have := LMc12.out; omega)
        intro v233 w19 ho hb hg hat
        rw [← Ny232.out] at ho
        have n0_ := Aside0.mk (blk_grown (g := gb229) (o := .cells #[.int .i64 ((rd_T55 l0 x11_1).f0), .int .i64 ((rd_T55 l0 x11_1).f1)] 55 (0, 0)) (zK BK229.out) hg (Kd.R_ne HO_3.out BK229.out (by decide)))
        have n1_ := Aside0.mk (hb)
        have n2_ := Aside0.mk (ho)
        clear BK229
        clear HB
        clear HO_3
        have BK229 := n0_
        have HB := n1_
        have HO234 := n2_
        clear n0_ n1_ n2_
        clear ho hb hg hat
        refine hK.out _ _ (zh2 BK229.out) (fun hHeld => ?_)
        clear hK K
        refine zN ?_
        refine zP 11 (some 3) rfl rfl ?_
        refine done_ (done_of HT_.out (by kernel_rfl)) ?_
        try go_wp2
        go_roundg k1
        case measure => have := HK1.out; omega
        case rel => exact ⟨(y232), (wrap64 (x11_1 + 1)), zF, H', ⟨by have := HK1.out; omega⟩, ⟨zR HO234.out⟩, ⟨zG GE229.out⟩⟩
       rw [if_neg c12] at H
       exact absurd H (by simp)
      rw [if_neg c11] at H
      exact absurd H (by simp)
     rw [if_neg c9] at H
     exact absurd H (by simp)
    rw [if_neg c7] at H
    exact absurd H (by simp)
   rw [if_neg c6] at H
   exact absurd H (by simp)
  rw [if_neg c5] at H
  have c5b0 : decide (x11_1 < (l0.length : Int)) = false := decide_eq_false c5
  clear c5
  obtain ⟨t235, A20, H⟩ := zO H
  obtain rfl := Option.some.inj H
  obtain ⟨Ao21, co21, eo21⟩ := Kd.R_slice HO_3.out
  subst eo21
  go_wp2_with (first | ((with_reducible refine gate_callee (f := 43) rfl ?_); refine zD (some 28) Tryd.func43 #[.slice Ao21 x3_1.length co21, .string (⟨#[32]⟩ : ByteArray)] ?_; (with_reducible refine (impl_Join.calls _ _ x3_1 (⟨#[32]⟩ : ByteArray) t235 _ ?side1 ?side2 A20.out).mono ?_); (case side1 => repeat (first | exact (Kd.R_reads' HO_3.out).2.2 | (with_reducible refine Kd.C_alloc ?_ _) | (with_reducible refine Kd.C_drewN ?_ _) | (with_reducible refine Kd.C_drew ?_))); (case side2 => exact (Kd.R_reads' HO_3.out).2.1); rintro e w22 ⟨rfl, hb⟩; refine ⟨_, rfl, ?_⟩; replace HO_3 := zW HO_3.out hb; replace HB := zX hb; (try clear hb)))
  go_ret
  exact ⟨zE, zB⟩
 replace c3 := Bool.eq_false_iff.mpr c3
 subst c3
 replace H := (if_neg zFf).symm.trans H
 obtain rfl := Option.some.inj H
 go_enter Tryd.func20, Tryd.ntmps20
 go_wp2_with (first | ((with_reducible refine gate_callee (f := 42) rfl ?_); refine zD (some 7) Tryd.func42 #[.slice A0 l0.length c0] ?_; (with_reducible refine (impl_ArePoints.calls k _ _ l0 false _ ?side1 ?side2 A2.out).mono ?_); (case side1 => repeat (first | exact HR0.out | (with_reducible refine Kd.C_alloc ?_ _) | (with_reducible refine Kd.C_drewN ?_ _) | (with_reducible refine Kd.C_drew ?_))); (case side2 => exact HC0.out); rintro e w23 ⟨rfl, hb⟩; refine ⟨_, rfl, ?_⟩; replace HB := zX hb; (try clear hb)))
 go_ret
 exact ⟨zE, zB⟩
/-! ### laws_eqPoint: function 44 -/
def laws_eqPoint.f (a0_0 : Int) (a0_1 : Int) (a1_0 : Int) (a1_1 : Int) : Option (Bool) := if a0_0 = a1_0 then (if a0_1 = a1_1 then (some true) else (some false)) else (some false)
set_option maxHeartbeats 8000000 in
set_option maxRecDepth 100000 in
theorem laws_eqPoint.calls (a0_0 : Int) (a0_1 : Int) (a1_0 : Int) (a1_1 : Int) (r : Bool) (w : World) (h : laws_eqPoint.f a0_0 a0_1 a1_0 a1_1 = some r) :
  Calls Tryd.prog 44 #[.agg #[.int .i64 a0_0, .int .i64 a0_1], .agg #[.int .i64 a1_0, .int .i64 a1_1]] w fun e w' => e = .returned (.bool r) ∧ Below w.heap.size w w' := by
 have hu55 := Tryd.underlying55
 have HB := Aside0.mk (Below.refl w.heap.size w)
 have H : (if a0_0 = a1_0 then (if a0_1 = a1_1 then (some true) else (some false)) else (some false)) = some r := h
 clear h
 by_cases c3 : a0_0 = a1_0
 ·rw [if_pos c3] at H
  have c3b0 : (a0_0 == a1_0) = true := beq_iff_eq.mpr c3
  have c3b1 : (a0_0 != a1_0) = false := bne_eq_false_iff_eq.mpr c3
  clear c3
  by_cases c4 : a0_1 = a1_1
  ·rw [if_pos c4] at H
   have c4b0 : (a0_1 == a1_1) = true := beq_iff_eq.mpr c4
   have c4b1 : (a0_1 != a1_1) = false := bne_eq_false_iff_eq.mpr c4
   clear c4
   obtain rfl := Option.some.inj H
   go_enter Tryd.func44, Tryd.ntmps44
   go_wp2_with (first | ((with_reducible refine gate_dst (N := 2) rfl ?_); refine zBx (N := 2) #[.int .i64 a0_0, .int .i64 a0_1] 55 ?_; intro gb236 hg w5 hbox hb; have BK236 := Aside0.mk (hbox); have GW236 := zS hg; have GE236 := zS hg; replace HB := zX hb; clear hb hbox hg) | ((with_reducible refine gate_dst (N := 3) rfl ?_); refine zBx (N := 3) #[.int .i64 a1_0, .int .i64 a1_1] 55 ?_; intro gb237 hg w6 hbox hb; have BK237 := Aside0.mk (hbox); have GW237 := zSg hg (zG GE236.out); have GE237 := zSg hg (zG GE236.out); have NB236_237 := zL hg BK236.out; have NB237_236 := zLg hg BK236.out; replace BK236 := zV BK236.out hb; replace HB := zX1 GE236.out hb; clear hb hbox hg; have hnb7 := NB236_237.out; have hnc7 := NB237_236.out; obtain ⟨hcz8_0, hcz8_1, hfz8_0, hfz8_1⟩ := zq2 BK236.out; obtain ⟨hcz9_0, hcz9_1, hfz9_0, hfz9_1⟩ := zq2 BK237.out))
   go_ret
   exact ⟨zE, zG2 GE236.out GE237.out⟩
  rw [if_neg c4] at H
  have c4b0 : (a0_1 == a1_1) = false := beq_eq_false_iff_ne.mpr c4
  have c4b1 : (a0_1 != a1_1) = true := bne_iff_ne.mpr c4
  obtain rfl := Option.some.inj H
  go_enter Tryd.func44, Tryd.ntmps44
  go_wp2_with (first | ((with_reducible refine gate_dst (N := 2) rfl ?_); refine zBx (N := 2) #[.int .i64 a0_0, .int .i64 a0_1] 55 ?_; intro gb236 hg w10 hbox hb; have BK236 := Aside0.mk (hbox); have GW236 := zS hg; have GE236 := zS hg; replace HB := zX hb; clear hb hbox hg) | ((with_reducible refine gate_dst (N := 3) rfl ?_); refine zBx (N := 3) #[.int .i64 a1_0, .int .i64 a1_1] 55 ?_; intro gb237 hg w11 hbox hb; have BK237 := Aside0.mk (hbox); have GW237 := zSg hg (zG GE236.out); have GE237 := zSg hg (zG GE236.out); have NB236_237 := zL hg BK236.out; have NB237_236 := zLg hg BK236.out; replace BK236 := zV BK236.out hb; replace HB := zX1 GE236.out hb; clear hb hbox hg; have hnb12 := NB236_237.out; have hnc12 := NB237_236.out; obtain ⟨hcz13_0, hcz13_1, hfz13_0, hfz13_1⟩ := zq2 BK236.out; obtain ⟨hcz14_0, hcz14_1, hfz14_0, hfz14_1⟩ := zq2 BK237.out))
  go_ret
  exact ⟨zE, zG2 GE236.out GE237.out⟩
 rw [if_neg c3] at H
 have c3b0 : (a0_0 == a1_0) = false := beq_eq_false_iff_ne.mpr c3
 have c3b1 : (a0_0 != a1_0) = true := bne_iff_ne.mpr c3
 obtain rfl := Option.some.inj H
 go_enter Tryd.func44, Tryd.ntmps44
 go_wp2_with (first | ((with_reducible refine gate_dst (N := 2) rfl ?_); refine zBx (N := 2) #[.int .i64 a0_0, .int .i64 a0_1] 55 ?_; intro gb236 hg w15 hbox hb; have BK236 := Aside0.mk (hbox); have GW236 := zS hg; have GE236 := zS hg; replace HB := zX hb; clear hb hbox hg) | ((with_reducible refine gate_dst (N := 3) rfl ?_); refine zBx (N := 3) #[.int .i64 a1_0, .int .i64 a1_1] 55 ?_; intro gb237 hg w16 hbox hb; have BK237 := Aside0.mk (hbox); have GW237 := zSg hg (zG GE236.out); have GE237 := zSg hg (zG GE236.out); have NB236_237 := zL hg BK236.out; have NB237_236 := zLg hg BK236.out; replace BK236 := zV BK236.out hb; replace HB := zX1 GE236.out hb; clear hb hbox hg; have hnb17 := NB236_237.out; have hnc17 := NB237_236.out; obtain ⟨hcz18_0, hcz18_1, hfz18_0, hfz18_1⟩ := zq2 BK236.out; obtain ⟨hcz19_0, hcz19_1, hfz19_0, hfz19_1⟩ := zq2 BK237.out))
 go_ret
 exact ⟨zE, zG2 GE236.out GE237.out⟩
/-! ### laws_eqPointS: function 21 -/
def laws_eqPointS.l0 : Nat → List (S55) → List (S55) → Int → Option (Bool)
 | 0, _, _, _ => none
 | k + 1, x0, x1, x5 => if x5 < (x0.length : Int) then (if 0 ≤ x5 then (if x5 < (x1.length : Int) then ((laws_eqPoint.f ((rd_T55 x0 x5).f0) ((rd_T55 x0 x5).f1) ((rd_T55 x1 x5).f0) ((rd_T55 x1 x5).f1)).bind fun t240 => (if t240 = true then (laws_eqPointS.l0 k x0 x1 (wrap64 (x5 + 1))) else (some false))) else (none)) else (none)) else (some true)
def laws_eqPointS.f (k : Nat) (l0 : List (S55)) (l1 : List (S55)) : Option (Bool) := if (l0.length : Int) = (l1.length : Int) then (laws_eqPointS.l0 k l0 l1 0) else (some false)
def laws_eqPointS.T6 : Bool × List (List Nat × List Nat) := (true, [([], []), ([], []), ([0, 1], [0, 1]), ([2], [2]), ([], []), ([], []), ([4, 5], [4, 5]), ([6], [6]), ([3, 7], [3, 7]), ([8], [8])])
def laws_eqPointS.B6 : List Nat := [0, 0, 3, 7, 0, 0, 48, 112, 255, 511]
theorem laws_eqPointS.tab6 : rtab .any (opsOf Tryd.f21 6) = laws_eqPointS.T6 := by kernel_rfl
theorem laws_eqPointS.bits6 : waitsOk laws_eqPointS.T6.2 laws_eqPointS.B6 = true := by kernel_rfl
set_option maxHeartbeats 8000000 in
set_option maxRecDepth 100000 in
theorem laws_eqPointS.calls (k : Nat) (A0 : Option Addr) (c0 : Nat) (l0 : List (S55)) (A1 : Option Addr) (c1 : Nat) (l1 : List (S55)) (r : Bool) (w : World) (hr0 : Kd.C k55 w A0 l0.length l0) (hc0 : l0.length ≤ c0) (hr1 : Kd.C k55 w A1 l1.length l1) (hc1 : l1.length ≤ c1) (h : laws_eqPointS.f k l0 l1 = some r) :
  Calls Tryd.prog 21 #[.slice A0 l0.length c0, .slice A1 l1.length c1] w fun e w' => e = .returned (.bool r) ∧ Below w.heap.size w w' := by
 have hu55 := Tryd.underlying55
 have HR0 := Aside0.mk hr0
 have HC0 := Aside0.mk hc0
 clear hr0 hc0
 have HR1 := Aside0.mk hr1
 have HC1 := Aside0.mk hc1
 clear hr1 hc1
 have HB := Aside0.mk (Below.refl w.heap.size w)
 have H : (if (l0.length : Int) = (l1.length : Int) then (laws_eqPointS.l0 k l0 l1 0) else (some false)) = some r := h
 clear h
 by_cases c3 : (l0.length : Int) = (l1.length : Int)
 ·rw [if_pos c3] at H
  have c3b0 : ((l0.length : Int) == (l1.length : Int)) = true := beq_iff_eq.mpr c3
  have c3b1 : ((l0.length : Int) != (l1.length : Int)) = false := bne_eq_false_iff_eq.mpr c3
  have c3b2 : (l0.length == l1.length) = true := by first | simpa using c3 | (simp at c3 ⊢; omega)
  clear c3
  have H' := Aside0.mk H; clear H
  go_enter Tryd.func21, Tryd.ntmps21
  go_wp2
  go_loopg [5] k (fun kq v5 w' => ∃ (x5_1 : Int), v5 = .int .i64 x5_1 ∧ Aside0 (laws_eqPointS.l0 kq l0 l1 x5_1 = some r) ∧ Aside0 (kq ≤ k) ∧ Aside0 (Below w.heap.size w w'))
  case atStart => exact ⟨(0), zF, H', ⟨Nat.le_refl _⟩, ⟨zB⟩⟩
  case round =>
  clear H'
  try clear c3
  try clear c3b0
  try clear c3b1
  try clear c3b2
  obtain ⟨x5_1, rfl, HA, HK1, HB⟩ := hrel
  cases gk with
  | zero => exact absurd HA.out (by simp [laws_eqPointS.l0])
  | succ k1 =>
  have H := HA.out
  clear HA
  simp only [laws_eqPointS.l0] at H
  by_cases c4 : x5_1 < (l0.length : Int)
  ·rw [if_pos c4] at H
   have c4b0 : decide (x5_1 < (l0.length : Int)) = true := decide_eq_true c4
   clear c4
   by_cases c5 : 0 ≤ x5_1
   ·rw [if_pos c5] at H
    have c5b0 : decide (0 ≤ x5_1) = true := decide_eq_true c5
    clear c5
    by_cases c6 : x5_1 < (l1.length : Int)
    ·rw [if_pos c6] at H
     have c6b0 : decide (x5_1 < (l1.length : Int)) = true := decide_eq_true c6
     clear c6
     obtain ⟨t240, A7, H⟩ := zO H
     by_cases c8 : t240 = true
     ·subst c8
      replace H := (if_pos rfl).symm.trans H
      have H' := Aside0.mk H; clear H
      try go_wp2
      replace HB := Aside0.mk (below_drew1 HB.out)
      have p238 : 0 ≤ (x5_1 : Int) := zA
      have q238 : x5_1 < (l0.length : Int) := zA
      obtain ⟨ad238, e238, hx238_0, hx238_1⟩ := at_T55 HR0.out x5_1 p238 q238
      have hw238_1 := hx238_1
      have hw238_0 := hx238_0
      cases e238
      replace hx238_0 := (HB.out.cell (World.block_lt_of_cell? w _ hx238_0)).trans hx238_0
      replace hx238_1 := (HB.out.cell (World.block_lt_of_cell? w _ hx238_1)).trans hx238_1
      replace p238 := eq_true p238
      replace q238 := eq_true q238
      have p239 : 0 ≤ (x5_1 : Int) := zA
      have q239 : x5_1 < (l1.length : Int) := zA
      obtain ⟨ad239, e239, hx239_0, hx239_1⟩ := at_T55 HR1.out x5_1 p239 q239
      have hw239_1 := hx239_1
      have hw239_0 := hx239_0
      cases e239
      replace hx239_0 := (HB.out.cell (World.block_lt_of_cell? w _ hx239_0)).trans hx239_0
      replace hx239_1 := (HB.out.cell (World.block_lt_of_cell? w _ hx239_1)).trans hx239_1
      replace p239 := eq_true p239
      replace q239 := eq_true q239
      refine start_ (n := 10) (S := fun w' => w'.cell? (ad238.add ((x5_1).toNat * 2)) = some (.int .i64 ((rd_T55 l0 x5_1).f0)) ∧ w'.cell? ⟨(ad238.add ((x5_1).toNat * 2)).block, (ad238.add ((x5_1).toNat * 2)).off + 1, none⟩ = some (.int .i64 ((rd_T55 l0 x5_1).f1)) ∧ w'.cell? (ad239.add ((x5_1).toNat * 2)) = some (.int .i64 ((rd_T55 l1 x5_1).f0)) ∧ w'.cell? ⟨(ad239.add ((x5_1).toNat * 2)).block, (ad239.add ((x5_1).toNat * 2)).off + 1, none⟩ = some (.int .i64 ((rd_T55 l1 x5_1).f1))) (ds := []) #[false, false, false, false, false, false, false, false, false, false] (by kernel_rfl) rfl rfl ⟨((HB.out.cell (World.block_lt_of_cell? w _ hw238_0)).trans hw238_0), ((HB.out.cell (World.block_lt_of_cell? w _ hw238_1)).trans hw238_1), ((HB.out.cell (World.block_lt_of_cell? w _ hw239_0)).trans hw239_0), ((HB.out.cell (World.block_lt_of_cell? w _ hw239_1)).trans hw239_1)⟩ (fun hHeld => ?_); refine with_tabW laws_eqPointS.tab6 laws_eqPointS.bits6 (fun HT_ HW_ => ?_)
      generalize wr.drew = w9 at HB hx238_0 hx238_1 hx239_0 hx239_1 hHeld ⊢
      refine zP 0 (some 17) rfl rfl ?_
      refine zP 1 (some 18) rfl rfl ?_
      refine zP 2 (some 19) rfl rfl ?_
      refine zP 4 (some 21) rfl rfl ?_
      refine zP 5 (some 22) rfl rfl ?_
      refine zP 6 (some 23) rfl rfl ?_
      refine zY4 3 (some 20) rfl rfl hHeld ?_
      refine zY4 7 (some 24) rfl rfl hHeld ?_
      refine zU 8 (some 25) rfl rfl (fun K hK => ?_)
      refine goes_ Tryd.func44 (by kernel_rfl) rfl #[.agg #[.int .i64 ((rd_T55 l0 x5_1).f0), .int .i64 ((rd_T55 l0 x5_1).f1)], .agg #[.int .i64 ((rd_T55 l1 x5_1).f0), .int .i64 ((rd_T55 l1 x5_1).f1)]] (by rfl) rfl rfl zM ?_
      with_reducible refine (laws_eqPoint.calls ((rd_T55 l0 x5_1).f0) ((rd_T55 l0 x5_1).f1) ((rd_T55 l1 x5_1).f0) ((rd_T55 l1 x5_1).f1) true _ A7.out).mono ?_
      rintro e w10 ⟨rfl, hb⟩
      refine ⟨_, rfl, ?_⟩
      replace HB := zX hb
      (try clear hb)
      refine hK.out _ _ ⟨((HB.out.cell (World.block_lt_of_cell? w _ hw238_0)).trans hw238_0), ((HB.out.cell (World.block_lt_of_cell? w _ hw238_1)).trans hw238_1), ((HB.out.cell (World.block_lt_of_cell? w _ hw239_0)).trans hw239_0), ((HB.out.cell (World.block_lt_of_cell? w _ hw239_1)).trans hw239_1)⟩ (fun hHeld => ?_)
      clear hK K
      refine zN ?_
      refine zP 9 (some 26) rfl rfl ?_
      refine done_ (done_of HT_.out (by kernel_rfl)) ?_
      try go_wp2
      go_roundg k1
      case measure => have := HK1.out; omega
      case rel => exact ⟨(wrap64 (x5_1 + 1)), zF, H', ⟨by have := HK1.out; omega⟩, ⟨zB⟩⟩
     replace c8 := Bool.eq_false_iff.mpr c8
     subst c8
     replace H := (if_neg zFf).symm.trans H
     obtain rfl := Option.some.inj H
     try go_wp2
     replace HB := Aside0.mk (below_drew1 HB.out)
     have p238 : 0 ≤ (x5_1 : Int) := zA
     have q238 : x5_1 < (l0.length : Int) := zA
     obtain ⟨ad238, e238, hx238_0, hx238_1⟩ := at_T55 HR0.out x5_1 p238 q238
     have hw238_1 := hx238_1
     have hw238_0 := hx238_0
     cases e238
     replace hx238_0 := (HB.out.cell (World.block_lt_of_cell? w _ hx238_0)).trans hx238_0
     replace hx238_1 := (HB.out.cell (World.block_lt_of_cell? w _ hx238_1)).trans hx238_1
     replace p238 := eq_true p238
     replace q238 := eq_true q238
     have p239 : 0 ≤ (x5_1 : Int) := zA
     have q239 : x5_1 < (l1.length : Int) := zA
     obtain ⟨ad239, e239, hx239_0, hx239_1⟩ := at_T55 HR1.out x5_1 p239 q239
     have hw239_1 := hx239_1
     have hw239_0 := hx239_0
     cases e239
     replace hx239_0 := (HB.out.cell (World.block_lt_of_cell? w _ hx239_0)).trans hx239_0
     replace hx239_1 := (HB.out.cell (World.block_lt_of_cell? w _ hx239_1)).trans hx239_1
     replace p239 := eq_true p239
     replace q239 := eq_true q239
     refine start_ (n := 10) (S := fun w' => w'.cell? (ad238.add ((x5_1).toNat * 2)) = some (.int .i64 ((rd_T55 l0 x5_1).f0)) ∧ w'.cell? ⟨(ad238.add ((x5_1).toNat * 2)).block, (ad238.add ((x5_1).toNat * 2)).off + 1, none⟩ = some (.int .i64 ((rd_T55 l0 x5_1).f1)) ∧ w'.cell? (ad239.add ((x5_1).toNat * 2)) = some (.int .i64 ((rd_T55 l1 x5_1).f0)) ∧ w'.cell? ⟨(ad239.add ((x5_1).toNat * 2)).block, (ad239.add ((x5_1).toNat * 2)).off + 1, none⟩ = some (.int .i64 ((rd_T55 l1 x5_1).f1))) (ds := []) #[false, false, false, false, false, false, false, false, false, false] (by kernel_rfl) rfl rfl ⟨((HB.out.cell (World.block_lt_of_cell? w _ hw238_0)).trans hw238_0), ((HB.out.cell (World.block_lt_of_cell? w _ hw238_1)).trans hw238_1), ((HB.out.cell (World.block_lt_of_cell? w _ hw239_0)).trans hw239_0), ((HB.out.cell (World.block_lt_of_cell? w _ hw239_1)).trans hw239_1)⟩ (fun hHeld => ?_); refine with_tabW laws_eqPointS.tab6 laws_eqPointS.bits6 (fun HT_ HW_ => ?_)
     generalize wr.drew = w11 at HB hx238_0 hx238_1 hx239_0 hx239_1 hHeld ⊢
     refine zP 0 (some 17) rfl rfl ?_
     refine zP 1 (some 18) rfl rfl ?_
     refine zP 2 (some 19) rfl rfl ?_
     refine zP 4 (some 21) rfl rfl ?_
     refine zP 5 (some 22) rfl rfl ?_
     refine zP 6 (some 23) rfl rfl ?_
     refine zY4 3 (some 20) rfl rfl hHeld ?_
     refine zY4 7 (some 24) rfl rfl hHeld ?_
     refine zU 8 (some 25) rfl rfl (fun K hK => ?_)
     refine goes_ Tryd.func44 (by kernel_rfl) rfl #[.agg #[.int .i64 ((rd_T55 l0 x5_1).f0), .int .i64 ((rd_T55 l0 x5_1).f1)], .agg #[.int .i64 ((rd_T55 l1 x5_1).f0), .int .i64 ((rd_T55 l1 x5_1).f1)]] (by rfl) rfl rfl zM ?_
     with_reducible refine (laws_eqPoint.calls ((rd_T55 l0 x5_1).f0) ((rd_T55 l0 x5_1).f1) ((rd_T55 l1 x5_1).f0) ((rd_T55 l1 x5_1).f1) false _ A7.out).mono ?_
     rintro e w12 ⟨rfl, hb⟩
     refine ⟨_, rfl, ?_⟩
     replace HB := zX hb
     (try clear hb)
     refine hK.out _ _ ⟨((HB.out.cell (World.block_lt_of_cell? w _ hw238_0)).trans hw238_0), ((HB.out.cell (World.block_lt_of_cell? w _ hw238_1)).trans hw238_1), ((HB.out.cell (World.block_lt_of_cell? w _ hw239_0)).trans hw239_0), ((HB.out.cell (World.block_lt_of_cell? w _ hw239_1)).trans hw239_1)⟩ (fun hHeld => ?_)
     clear hK K
     refine zN ?_
     refine zP 9 (some 26) rfl rfl ?_
     refine done_ (done_of HT_.out (by kernel_rfl)) ?_
     try go_wp2
     go_ret
     exact ⟨zE, zB⟩
    rw [if_neg c6] at H
    exact absurd H (by simp)
   rw [if_neg c5] at H
   exact absurd H (by simp)
  rw [if_neg c4] at H
  have c4b0 : decide (x5_1 < (l0.length : Int)) = false := decide_eq_false c4
  clear c4
  obtain rfl := Option.some.inj H
  go_wp2
  go_ret
  exact ⟨zE, zB⟩
 rw [if_neg c3] at H
 have c3b0 : ((l0.length : Int) == (l1.length : Int)) = false := beq_eq_false_iff_ne.mpr c3
 have c3b1 : ((l0.length : Int) != (l1.length : Int)) = true := bne_iff_ne.mpr c3
 have c3b2 : (l0.length == l1.length) = false := by first | simpa using c3 | (simp at c3 ⊢; omega)
 obtain rfl := Option.some.inj H
 go_enter Tryd.func21, Tryd.ntmps21
 go_wp2
 go_ret
 exact ⟨zE, zB⟩
/-! ### laws_FnExactPointsText: function 5 -/
def laws_FnExactPointsText.f (k : Nat) (l0 : List (S58)) : Option (Bool) := (laws_szPointS.f l0 1048576).bind fun t241 => (if t241 < 0 then (some true) else ((laws_toPointS.f k l0).bind fun t242 => ((spec_PointsText.f k t242).bind fun t245 => ((laws_toPointS.f k l0).bind fun t246 => ((impl_PointsText.f k t246).bind fun t249 => (if t249.toList = t245.toList then ((laws_toPointS.f k l0).bind fun t250 => ((laws_eqPointS.f k t246 t250).bind fun t253 => (if t253 = true then (some true) else (some false)))) else (some false)))))))
theorem zl53_0 {p q : Prop} (g : p) (h : p → q := by intro zg_; repeat (first | (with_reducible first | exact zg_ | apply below_alloc | apply pw_below_drewN | apply below_drew1) | exact zg_)) : q := h g
set_option maxHeartbeats 8000000 in
set_option maxRecDepth 100000 in
theorem laws_FnExactPointsText.calls (k : Nat) (A0 : Option Addr) (c0 : Nat) (l0 : List (S58)) (r : Bool) (w : World) (hr0 : Kd.C k58 w A0 l0.length l0) (hc0 : l0.length ≤ c0) (h : laws_FnExactPointsText.f k l0 = some r) (hr_ : r = true) (hT : T1 w) :
  Calls Tryd.prog 5 #[.slice A0 l0.length c0] w fun e w' => e = .returned (.bool r) ∧ Below w.heap.size w w' := by
 have HT := Aside0.mk hT
 clear hT
 have HR0 := Aside0.mk hr0
 have HC0 := Aside0.mk hc0
 clear hr0 hc0
 have HB := Aside0.mk (Below.refl w.heap.size w)
 have H : ((laws_szPointS.f l0 1048576).bind fun t241 => (if t241 < 0 then (some true) else ((laws_toPointS.f k l0).bind fun t242 => ((spec_PointsText.f k t242).bind fun t245 => ((laws_toPointS.f k l0).bind fun t246 => ((impl_PointsText.f k t246).bind fun t249 => (if t249.toList = t245.toList then ((laws_toPointS.f k l0).bind fun t250 => ((laws_eqPointS.f k t246 t250).bind fun t253 => (if t253 = true then (some true) else (some false)))) else (some false)))))))) = some r := h
 clear h
 obtain ⟨t241, A2, H⟩ := zO H
 by_cases c3 : t241 < 0
 ·rw [if_pos c3] at H
  have c3b0 : decide (t241 < 0) = true := decide_eq_true c3
  clear c3
  obtain rfl := Option.some.inj H
  go_enter Tryd.func5, Tryd.ntmps5
  go_wp2_with (first | ((with_reducible refine gate_callee (f := 17) rfl ?_); refine zD (some 9) Tryd.func17 #[.slice A0 l0.length c0, .int .i64 1048576] ?_; (with_reducible refine (laws_szPointS.calls _ _ l0 1048576 t241 _ ?side1 ?side2 A2.out).mono ?_); (case side1 => repeat (first | exact HR0.out | (with_reducible refine Kd.C_alloc ?_ _) | (with_reducible refine Kd.C_drewN ?_ _) | (with_reducible refine Kd.C_drew ?_))); (case side2 => exact HC0.out); rintro e w' ⟨rfl, ⟨nd, rfl⟩⟩; refine ⟨_, rfl, ?_⟩))
  go_ret
  exact ⟨zE, zB⟩
 rw [if_neg c3] at H
 have c3b0 : decide (t241 < 0) = false := decide_eq_false c3
 clear c3
 obtain ⟨t242, A4, H⟩ := zO H
 obtain ⟨t245, A5, H⟩ := zO H
 obtain ⟨t246, A6, H⟩ := zO H
 obtain ⟨t249, A7, H⟩ := zO H
 by_cases c8 : t249.toList = t245.toList
 ·rw [if_pos c8] at H
  have c8b0 : (t249.toList == t245.toList) = true := beq_iff_eq.mpr c8
  have c8b1 : (t249.toList != t245.toList) = false := bne_eq_false_iff_eq.mpr c8
  clear c8
  obtain ⟨t250, A9, H⟩ := zO H
  obtain ⟨t253, A10, H⟩ := zO H
  by_cases c11 : t253 = true
  ·subst c11
   replace H := (if_pos rfl).symm.trans H
   obtain rfl := Option.some.inj H
   go_enter Tryd.func5, Tryd.ntmps5
   go_wp2_with (first | ((with_reducible refine gate_callee (f := 17) rfl ?_); refine zD (some 9) Tryd.func17 #[.slice A0 l0.length c0, .int .i64 1048576] ?_; (with_reducible refine (laws_szPointS.calls _ _ l0 1048576 t241 _ ?side1 ?side2 A2.out).mono ?_); (case side1 => repeat (first | exact HR0.out | (with_reducible refine Kd.C_alloc ?_ _) | (with_reducible refine Kd.C_drewN ?_ _) | (with_reducible refine Kd.C_drew ?_))); (case side2 => exact HC0.out); rintro e w' ⟨rfl, ⟨nd, rfl⟩⟩; refine ⟨_, rfl, ?_⟩) | ((with_reducible refine gate_callee (f := 19) rfl ?_); refine zD (some 13) Tryd.func19 #[.slice A0 l0.length c0] ?_; (with_reducible refine (laws_toPointS.calls k _ _ l0 t242 _ ?side1 ?side2 A4.out).mono ?_); (case side1 => repeat (first | exact HR0.out | (with_reducible refine Kd.C_alloc ?_ _) | (with_reducible refine Kd.C_drewN ?_ _) | (with_reducible refine Kd.C_drew ?_))); (case side2 => exact HC0.out); rintro e w12 ⟨v243, rfl, ho0, hb⟩; refine ⟨_, rfl, ?_⟩; have HO244 := Aside0.mk (Kd.R_lower ho0 (below_size zB)); replace HB := zX hb; (try clear hb); (try clear ho0); obtain ⟨Ao13, co13, eo13⟩ := Kd.R_slice HO244.out; subst eo13) | ((with_reducible refine gate_callee (f := 18) rfl ?_); refine zD (some 14) Tryd.func18 #[.slice Ao13 t242.length co13] ?_; (with_reducible refine (spec_PointsText.calls k _ _ t242 t245 _ ?side1 ?side2 A5.out).mono ?_); (case side1 => repeat (first | exact (Kd.R_reads' HO244.out).2.2 | (with_reducible refine Kd.C_alloc ?_ _) | (with_reducible refine Kd.C_drewN ?_ _) | (with_reducible refine Kd.C_drew ?_))); (case side2 => exact (Kd.R_reads' HO244.out).2.1); rintro e w14 ⟨rfl, hb⟩; refine ⟨_, rfl, ?_⟩; replace HO244 := zW HO244.out hb; replace HB := zX hb; (try clear hb)) | ((with_reducible refine gate_callee (f := 19) rfl ?_); refine zD (some 16) Tryd.func19 #[.slice A0 l0.length c0] ?_; (with_reducible refine (laws_toPointS.calls k _ _ l0 t246 _ ?side1 ?side2 A6.out).mono ?_); (case side1 => repeat (first | exact (Kd.C_below HR0.out HB.out) | (with_reducible refine Kd.C_alloc ?_ _) | (with_reducible refine Kd.C_drewN ?_ _) | (with_reducible refine Kd.C_drew ?_))); (case side2 => exact HC0.out); rintro e w15 ⟨v247, rfl, ho0, hb⟩; refine ⟨_, rfl, ?_⟩; have HO248 := Aside0.mk (Kd.R_lower (Kd.R_new' ho0 (Kd.R_lt (zR HO244.out))) (below_size zB)); replace HO244 := Aside0.mk (Kd.R_elder' (zR HO244.out) (Kd.R_base ho0) hb); replace HB := zX hb; (try clear hb); (try clear ho0); obtain ⟨Ao16, co16, eo16⟩ := Kd.R_slice HO248.out; subst eo16) | ((with_reducible refine gate_callee (f := 20) rfl ?_); refine zD (some 18) Tryd.func20 #[.slice Ao16 t246.length co16] ?_; (with_reducible refine (impl_PointsText.calls k _ _ t246 t249 _ ?side1 ?side2 A7.out (HT.out.below ?sideT)).mono ?_); (case sideT => exact (zl53_0 HB.out)); (case side1 => repeat (first | exact (Kd.R_reads' HO248.out).2.2 | (with_reducible refine Kd.C_alloc ?_ _) | (with_reducible refine Kd.C_drewN ?_ _) | (with_reducible refine Kd.C_drew ?_))); (case side2 => exact (Kd.R_reads' HO248.out).2.1); rintro e w17 ⟨rfl, hb⟩; refine ⟨_, rfl, ?_⟩; replace HO244 := zW HO244.out hb; replace HO248 := zW HO248.out hb; replace HB := zX hb; (try clear hb)) | ((with_reducible refine gate_callee (f := 19) rfl ?_); refine zD (some 24) Tryd.func19 #[.slice A0 l0.length c0] ?_; (with_reducible refine (laws_toPointS.calls k _ _ l0 t250 _ ?side1 ?side2 A9.out).mono ?_); (case side1 => repeat (first | exact (Kd.C_below HR0.out HB.out) | (with_reducible refine Kd.C_alloc ?_ _) | (with_reducible refine Kd.C_drewN ?_ _) | (with_reducible refine Kd.C_drew ?_))); (case side2 => exact HC0.out); rintro e w18 ⟨v251, rfl, ho0, hb⟩; refine ⟨_, rfl, ?_⟩; have HO252 := Aside0.mk (Kd.R_lower (Kd.R_new' (Kd.R_new' ho0 (Kd.R_lt (zR HO244.out))) (Kd.R_lt (zR HO248.out))) (below_size zB)); replace HO244 := Aside0.mk (Kd.R_elder' (zR HO244.out) (Kd.R_base ho0) hb); replace HO248 := Aside0.mk (Kd.R_elder' (zR HO248.out) (Kd.R_base ho0) hb); replace HB := zX hb; (try clear hb); (try clear ho0); obtain ⟨Ao19, co19, eo19⟩ := Kd.R_slice HO252.out; subst eo19) | ((with_reducible refine gate_callee (f := 21) rfl ?_); refine zD (some 25) Tryd.func21 #[.slice Ao16 t246.length co16, .slice Ao19 t250.length co19] ?_; (with_reducible refine (laws_eqPointS.calls k _ _ t246 _ _ t250 true _ ?side1 ?side2 ?side3 ?side4 A10.out).mono ?_); (case side1 => repeat (first | exact (Kd.R_reads' HO248.out).2.2 | (with_reducible refine Kd.C_alloc ?_ _) | (with_reducible refine Kd.C_drewN ?_ _) | (with_reducible refine Kd.C_drew ?_))); (case side2 => exact (Kd.R_reads' HO248.out).2.1); (case side3 => repeat (first | exact (Kd.R_reads' HO252.out).2.2 | (with_reducible refine Kd.C_alloc ?_ _) | (with_reducible refine Kd.C_drewN ?_ _) | (with_reducible refine Kd.C_drew ?_))); (case side4 => exact (Kd.R_reads' HO252.out).2.1); rintro e w20 ⟨rfl, hb⟩; refine ⟨_, rfl, ?_⟩; replace HO244 := zW HO244.out hb; replace HO248 := zW HO248.out hb; replace HO252 := zW HO252.out hb; replace HB := zX hb; (try clear hb)))
   go_ret
   exact ⟨zE, zB⟩
  replace c11 := Bool.eq_false_iff.mpr c11
  subst c11
  replace H := (if_neg zFf).symm.trans H
  obtain rfl := Option.some.inj H
  cases hr_
 rw [if_neg c8] at H
 have c8b0 : (t249.toList == t245.toList) = false := beq_eq_false_iff_ne.mpr c8
 have c8b1 : (t249.toList != t245.toList) = true := bne_iff_ne.mpr c8
 obtain rfl := Option.some.inj H
 cases hr_
end Go.Proofs.YthhgcdfdjlijjaaDoor.PX
namespace Go.Proofs.YthhgcdfdjlijjaaDoor.M
open Go.RowKit Go.Proofs.YthhgcdfdjlijjaaDoorW.PrintWords Go.Proofs.YthhgcdfdjlijjaaDoor.PX
abbrev IP := S55
theorem rdIP {l : List IP} {i : Nat} (h : i < l.length) : rd_T55 l (i : Int) = l[i] := by
  unfold rd_T55
  rw [Int.toNat_natCast, List.getD_eq_getElem?_getD, List.getElem?_eq_getElem h]
  rfl
end Go.Proofs.YthhgcdfdjlijjaaDoor.M
namespace Go.Proofs.YthhgcdfdjlijjaaDoor.M
open Go.RowKit Go.Proofs.YthhgcdfdjlijjaaDoorW.PrintWords Go.Proofs.YthhgcdfdjlijjaaDoor.PX
def tripN (n : Nat) : List S76 := (List.range n).flatMap fun (i : Nat) => (List.range n).flatMap fun (j : Nat) => (List.range n).flatMap fun (k : Nat) => if i < j ∧ j < k then [(⟨(i : Int), (j : Int), (k : Int)⟩ : S76)] else []
theorem triples_closed : (impl_triplesOf.f 200 3 = some (tripN 3) ∧ impl_triplesOf.f 200 4 = some (tripN 4) ∧ impl_triplesOf.f 200 5 = some (tripN 5)) ∧ impl_triplesOf.f 200 6 = some (tripN 6) ∧ impl_triplesOf.f 200 7 = some (tripN 7) := by
  refine ⟨⟨?_, ?_, ?_⟩, ?_, ?_⟩ <;> kernel_rfl
theorem five {n : Nat} (h0 : 3 ≤ n) (h1 : n ≤ 7) {p : Nat → Prop} (a : p 3) (b : p 4) (c : p 5) (d : p 6) (e : p 7) : p n := by
  have : n = 3 ∨ n = 4 ∨ n = 5 ∨ n = 6 ∨ n = 7 := by omega
  rcases this with rfl | rfl | rfl | rfl | rfl <;> assumption
theorem triples_ev {n : Nat} (h0 : 3 ≤ n) (h1 : n ≤ 7) : Ev (fun k => impl_triplesOf.f k (n : Int)) (tripN n) := by
  obtain ⟨⟨h3, h4, h5⟩, h6, h7⟩ := triples_closed
  refine five (p := fun n => Ev (fun k => impl_triplesOf.f k (n : Int)) (tripN n)) h0 h1 ?_ ?_ ?_ ?_ ?_
  · exact Ev.of (impl_triplesOf.mono 3) h3
  · exact Ev.of (impl_triplesOf.mono 4) h4
  · exact Ev.of (impl_triplesOf.mono 5) h5
  · exact Ev.of (impl_triplesOf.mono 6) h6
  · exact Ev.of (impl_triplesOf.mono 7) h7
theorem tripN_L {n : Nat} (h0 : 3 ≤ n) (h1 : n ≤ 7) : tripN n = (tripsL n).map fun q => ⟨(q.1 : Int), (q.2.1 : Int), (q.2.2 : Int)⟩ := by
  refine five (p := fun n => tripN n = (tripsL n).map fun q => ⟨(q.1 : Int), (q.2.1 : Int), (q.2.2 : Int)⟩) h0 h1 ?_ ?_ ?_ ?_ ?_ <;> kernel_rfl
theorem trips_small : ∀ n, n ≤ 7 → (tripsL n).length ≤ 35 := by decide +kernel
theorem trip_len {n : Nat} (h0 : 3 ≤ n) (h1 : n ≤ 7) : (tripN n).length ≤ 35 := by
  rw [tripN_L h0 h1, List.length_map]
  exact trips_small n h1
theorem rd_trip {ts : List S76} {i : Nat} (h : i < ts.length) : rd_T76 ts (i : Int) = ts[i] := by
  unfold rd_T76
  rw [Int.toNat_natCast, List.getD_eq_getElem?_getD, List.getElem?_eq_getElem h]
  rfl
theorem trip_pos {n p : Nat} (h0 : 3 ≤ n) (h1 : n ≤ 7) (hp : p < (tripN n).length) : ∃ a b c : Nat, (tripN n)[p] = ⟨(a : Int), (b : Int), (c : Int)⟩ ∧ a < b ∧ b < c ∧ c < n := by
  have e := tripN_L h0 h1
  have hm : (tripN n)[p] ∈ (tripsL n).map fun q => (⟨(q.1 : Int), (q.2.1 : Int), (q.2.2 : Int)⟩ : S76) := by rw [← e]; exact List.getElem_mem _
  obtain ⟨⟨a, b, c⟩, hq, he⟩ := List.mem_map.1 hm
  obtain ⟨h2, h3, h4⟩ := mem_trips hq
  exact ⟨a, b, c, he.symm, h2, h3, h4⟩
end Go.Proofs.YthhgcdfdjlijjaaDoor.M
namespace Go.Proofs.YthhgcdfdjlijjaaDoor.M
open Go.RowKit Go.Proofs.YthhgcdfdjlijjaaDoorW.PrintWords Go.Proofs.YthhgcdfdjlijjaaDoor.PX Go.Proofs.YthhgcdfdjlijjaaDoor.G
def nearP (most : Int) (p : IP) : Bool := (decide (-most ≤ p.f0) && decide (p.f0 ≤ most)) && (decide (-most ≤ p.f1) && decide (p.f1 ≤ most))
def areaP (a b c : IP) : Int := (b.f0 - a.f0) * (c.f1 - a.f1) - (b.f1 - a.f1) * (c.f0 - a.f0)
def sgnI (x : Int) : Int := if x < 0 then -1 else if x > 0 then 1 else 0
theorem nearP_iff {most : Int} {p : IP} : nearP most p = true ↔ (-most ≤ p.f0 ∧ p.f0 ≤ most) ∧ (-most ≤ p.f1 ∧ p.f1 ≤ most) := by
  unfold nearP
  simp only [Bool.and_eq_true, decide_eq_true_eq]
theorem nearIdx_any (most : Int) (l : List IP) : ∀ (d i : Nat), i + d = l.length → decide (0 ≤ nearIdx most l d (i : Int)) = (l.drop i).any fun p => farQ p.f0 most || farQ p.f1 most := by
  intro d
  induction d with
  | zero =>
    intro i hi
    rw [List.drop_of_length_le (by omega)]
    rfl
  | succ d ih =>
    intro i hi
    rw [nearIdx, List.drop_eq_getElem_cons (by omega), List.any_cons, rdIP (by omega)]
    cases g : (farQ (l[i]'(by omega)).f0 most || farQ (l[i]'(by omega)).f1 most) with
    | true =>
      rw [if_pos rfl, Bool.true_or]
      exact decide_eq_true (by omega)
    | false =>
      rw [if_neg (by decide), Bool.false_or]
      exact ih (i + 1) (by omega)
theorem impl_near (most : Int) (h0 : 0 ≤ most) (h1 : most ≤ 1000000) (l : List IP) : impl_areNear.f most l = some (l.all (nearP most)) := by
  unfold impl_areNear.f
  have h := nearIdx_any most l l.length 0 (by omega)
  rw [List.drop_zero] at h
  have h' : decide (0 ≤ nearIdx most l l.length 0) = l.any fun p => farQ p.f0 most || farQ p.f1 most := h
  rw [h', List.not_any_eq_all_not]
  congr 2
  funext p
  unfold farQ nearP
  rw [wrap_id (by omega) (by omega), Bool.eq_iff_iff]
  simp
theorem spec_fits (p : IP) (most : Int) (h0 : 0 ≤ most) (h1 : most ≤ 1000000) : spec_l2Fits.f p.f0 p.f1 most = some (nearP most p) := by
  have one : ∀ x : Int, spec_l1In.f x (-most) most = some (decide (-most ≤ x) && decide (x ≤ most)) := by
    intro x
    unfold spec_l1In.f
    by_cases h : x ≥ -most
    · rw [if_pos h, decide_eq_true (show -most ≤ x from h), Bool.true_and]
    · rw [if_neg h, decide_eq_false (show ¬ -most ≤ x from h), Bool.false_and]
  unfold spec_l2Fits.f nearP
  rw [wrap_id (by omega) (by omega), one, one]
  cases decide (-most ≤ p.f0) && decide (p.f0 ≤ most) <;> rfl
theorem mul_bd {x y : Int} (h1 : -2000 ≤ x) (h2 : x ≤ 2000) (h3 : -2000 ≤ y) (h4 : y ≤ 2000) : -4000000 ≤ x * y ∧ x * y ≤ 4000000 := by
  have h := Int.natAbs_mul x y
  have h' : x.natAbs * y.natAbs ≤ 2000 * 2000 := Nat.mul_le_mul (by omega) (by omega)
  omega
theorem area_ok {a b c : IP} (ha : nearP 1000 a = true) (hb : nearP 1000 b = true) (hc : nearP 1000 c = true) :
    wrap64 ((wrap64 ((wrap64 (b.f0 - a.f0)) * (wrap64 (c.f1 - a.f1)))) - (wrap64 ((wrap64 (b.f1 - a.f1)) * (wrap64 (c.f0 - a.f0))))) = areaP a b c ∧ -8000000 ≤ areaP a b c ∧ areaP a b c ≤ 8000000 := by
  obtain ⟨⟨a1, a2⟩, a3, a4⟩ := nearP_iff.1 ha
  obtain ⟨⟨b1, b2⟩, b3, b4⟩ := nearP_iff.1 hb
  obtain ⟨⟨c1, c2⟩, c3, c4⟩ := nearP_iff.1 hc
  have m1 := mul_bd (x := b.f0 - a.f0) (y := c.f1 - a.f1) (by omega) (by omega) (by omega) (by omega)
  have m2 := mul_bd (x := b.f1 - a.f1) (y := c.f0 - a.f0) (by omega) (by omega) (by omega) (by omega)
  rw [wrap_id (x := b.f0 - a.f0) (by omega) (by omega), wrap_id (x := c.f1 - a.f1) (by omega) (by omega), wrap_id (x := b.f1 - a.f1) (by omega) (by omega), wrap_id (x := c.f0 - a.f0) (by omega) (by omega)]
  rw [wrap_id (x := (b.f0 - a.f0) * (c.f1 - a.f1)) (by omega) (by omega), wrap_id (x := (b.f1 - a.f1) * (c.f0 - a.f0)) (by omega) (by omega)]
  unfold areaP
  exact ⟨wrap_id (by omega) (by omega), by omega, by omega⟩
def near3 (a b c : IP) : Bool := nearP 1000 a && (nearP 1000 b && nearP 1000 c)
theorem near3_iff {a b c : IP} : near3 a b c = true ↔ nearP 1000 a = true ∧ nearP 1000 b = true ∧ nearP 1000 c = true := by
  unfold near3
  simp only [Bool.and_eq_true]
theorem spec_area {a b c : IP} (h : near3 a b c = true) : spec_l2Area.f a.f0 a.f1 b.f0 b.f1 c.f0 c.f1 = some (areaP a b c) := by
  obtain ⟨ha, hb, hc⟩ := near3_iff.1 h
  unfold spec_l2Area.f
  rw [(area_ok ha hb hc).1]
theorem impl_area {a b c : IP} (h : near3 a b c = true) : impl_area.f a.f0 a.f1 b.f0 b.f1 c.f0 c.f1 = some (areaP a b c) := by
  obtain ⟨ha, hb, hc⟩ := near3_iff.1 h
  unfold impl_area.f
  rw [(area_ok ha hb hc).1]
theorem sign_of (x : Int) : impl_signOf.f x = some (sgnI x) := by
  unfold impl_signOf.f cmp_Compare_int.f cmp_isNaN_int.f sgnI
  by_cases h : x < 0
  · simp [h]
  · by_cases h' : x > 0 <;> simp [h, h']
def turnP (a b c : IP) : Int := if near3 a b c = true then sgnI (areaP a b c) else 0
theorem near_3 (a b c : IP) : impl_areNear.f 1000 [a, b, c] = some (near3 a b c) := by
  rw [impl_near 1000 (by decide) (by decide)]
  simp [near3]
theorem impl_turn (a b c : IP) : impl_TurnOf.f a.f0 a.f1 b.f0 b.f1 c.f0 c.f1 = some (turnP a b c) := by
  unfold impl_TurnOf.f turnP
  have e : ([(⟨a.f0, a.f1⟩ : IP), (⟨b.f0, b.f1⟩ : IP), (⟨c.f0, c.f1⟩ : IP)] : List IP) = [a, b, c] := rfl
  rw [e, near_3]
  by_cases h : near3 a b c = true
  · simp only [Option.bind_some, h, if_true]
    rw [impl_area h]
    simp only [Option.bind_some]
    rw [sign_of]
    rfl
  · simp [h]
end Go.Proofs.YthhgcdfdjlijjaaDoor.M
namespace Go.Proofs.YthhgcdfdjlijjaaDoor.M
open Go.RowKit Go.Proofs.YthhgcdfdjlijjaaDoorW.PrintWords Go.Proofs.YthhgcdfdjlijjaaDoor.PX Go.Proofs.YthhgcdfdjlijjaaDoor.G
def pt (l : List IP) (i : Nat) : IP := rd_T55 l (i : Int)
theorem pt_eq {l : List IP} {i : Nat} (h : i < l.length) : pt l i = l[i] := rdIP h
def flatQ (l : List IP) (q : Nat × Nat × Nat) : Bool := decide (areaP (pt l q.1) (pt l q.2.1) (pt l q.2.2) = 0)
def arePts (l : List IP) : Bool := (decide (3 ≤ l.length) && decide (l.length ≤ 7)) && (l.all (nearP 50) && !((tripsL l.length).any (flatQ l)))
theorem near_wide {p : IP} (h : nearP 50 p = true) : nearP 1000 p = true := by
  rw [nearP_iff] at h ⊢
  omega
theorem arePts_iff {l : List IP} : arePts l = true ↔ (3 ≤ l.length ∧ l.length ≤ 7) ∧ (∀ p ∈ l, nearP 50 p = true) ∧ ∀ a b c, a < b → b < c → c < l.length → areaP (pt l a) (pt l b) (pt l c) ≠ 0 := by
  unfold arePts
  simp only [Bool.and_eq_true, decide_eq_true_eq, List.all_eq_true, Bool.not_eq_true', List.any_eq_false, flatQ]
  constructor
  · rintro ⟨h1, h2, h3⟩
    exact ⟨h1, h2, fun a b c hab hbc hc => h3 (a, b, c) (trips_mem hab hbc hc)⟩
  · rintro ⟨h1, h2, h3⟩
    exact ⟨h1, h2, fun ⟨a, b, c⟩ hq => h3 a b c (mem_trips hq).1 (mem_trips hq).2.1 (mem_trips hq).2.2⟩
theorem pts_near3 {l : List IP} (h : l.all (nearP 50) = true) {a b c : Nat} (ha : a < l.length) (hb : b < l.length) (hc : c < l.length) : near3 (pt l a) (pt l b) (pt l c) = true := by
  have key : ∀ {i : Nat}, i < l.length → nearP 1000 (pt l i) = true := fun {i} hi => by
    rw [pt_eq hi]
    exact near_wide (List.all_eq_true.1 h _ (List.getElem_mem hi))
  exact near3_iff.2 ⟨key ha, key hb, key hc⟩
theorem spec_inPts (x lo hi : Int) : spec_l1In.f x lo hi = some (decide (lo ≤ x) && decide (x ≤ hi)) := by
  unfold spec_l1In.f
  by_cases h : x ≥ lo
  · rw [if_pos h, decide_eq_true (show lo ≤ x from h), Bool.true_and]
  · rw [if_neg h, decide_eq_false (show ¬ lo ≤ x from h), Bool.false_and]
def offPts (l : List IP) (k : Nat) : Bool := !nearP 50 (pt l k) || (List.range' 0 (k - 0)).any fun j => (List.range' 0 (j - 0)).any fun i => flatQ l (i, j, k)
theorem offPts_any (l : List IP) : (!((List.range' 0 (l.length - 0)).any (offPts l))) = (l.all (nearP 50) && !((tripsL l.length).any (flatQ l))) := by
  rw [Bool.eq_iff_iff]
  simp only [Bool.not_eq_true', List.any_eq_false, Bool.and_eq_true, List.all_eq_true, offPts, Bool.or_eq_true, not_or, Bool.not_eq_false, List.any_eq_true, not_exists, not_and, List.mem_range'_1]
  constructor
  · intro h
    refine ⟨fun p hp => ?_, fun ⟨a, b, c⟩ hq => ?_⟩
    · obtain ⟨i, hi, rfl⟩ := List.getElem_of_mem hp
      have := (h i (by omega)).1
      rw [pt_eq hi] at this
      simpa using this
    · obtain ⟨h1, h2, h3⟩ := mem_trips hq
      exact (h c (by omega)).2 b (by omega) a (by omega)
  · rintro ⟨h1, h2⟩ k hk
    refine ⟨?_, fun j hj i hi => h2 (i, j, k) (trips_mem (by omega) (by omega) (by omega))⟩
    rw [pt_eq (show k < l.length by omega)]
    simpa using h1 _ (List.getElem_mem _)
theorem spec_arePts (l : List IP) (hl : l.length ≤ 10000000) : Ev (fun q => spec_ArePoints.f q l) (arePts l) := by
  unfold spec_ArePoints.f
  refine ev_call (spec_inPts _ _ _) ?_
  by_cases hn : 3 ≤ l.length ∧ l.length ≤ 7
  · refine ev_pos (by simp; omega) (ev_cast ?_ (show (!((List.range' 0 (l.length - 0)).any (offPts l))) = arePts l from ?_))
    · have key := loop_up' (σ := Unit) (ρ := Bool) (lo := 0) (n := l.length) (K := fun _ _ => some true) (L := fun x _ q => spec_ArePoints.l0 q l x) (fun k _ => ∀ i, i < k → nearP 50 (pt l i) = true) (fun _ k => if offPts l k then .error false else .ok ()) (fun u _ => ?_) (fun k _ hk u hI => ?_) (fun k _ hk u hI u' e => ?_) (by omega) () (fun i hi => absurd hi (Nat.not_lt_zero _))
      · rw [foldlM_any (offPts l)] at key
        cases hq : (List.range' 0 (l.length - 0)).any (offPts l) with
        | true => rw [hq] at key; exact key
        | false => rw [hq] at key; exact key _ (Ev.now _)
      · refine Goes.step ?_
        simp only [spec_ArePoints.l0]
        exact Goes.neg (by omega) (Goes.ok (K := fun _ _ => some true) u)
      · refine Goes.step ?_
        simp only [spec_ArePoints.l0]
        refine Goes.pos (by omega) (Goes.pos (by omega) (Goes.call (spec_fits (pt l k) 50 (by decide) (by decide)) ?_))
        cases hf : nearP 50 (pt l k) with
        | false => exact Goes.neg (by decide) (Goes.cast (Goes.ret _) (by simp [offPts, hf]))
        | true =>
          refine Goes.pos rfl ?_
          have one := loop_up (σ := Unit) (ρ := Bool) (lo := 0) (n := k) (K := fun _ q => spec_ArePoints.l0 q l ((k + 1 : Nat) : Int)) (L := fun x _ q => spec_ArePoints.l1 q l (k : Int) x) (fun _ j => if (List.range' 0 (j - 0)).any (fun i => flatQ l (i, j, k)) then .error false else .ok ()) (fun u => ?_) (fun j _ hj u => ?_) (by omega) ()
          · rw [foldlM_any (fun j => (List.range' 0 (j - 0)).any fun i => flatQ l (i, j, k))] at one
            refine one.cast ?_
            simp [offPts, hf]
          · refine Goes.step ?_
            simp only [spec_ArePoints.l1]
            rw [wrap_id (by omega) (by omega)]
            exact Goes.neg (by omega) (Goes.ok (K := fun (_ : Unit) q => spec_ArePoints.l0 q l ((k + 1 : Nat) : Int)) u)
          · refine Goes.step ?_
            simp only [spec_ArePoints.l1]
            refine Goes.pos (by omega) ?_
            have two := loop_up (σ := Unit) (ρ := Bool) (lo := 0) (n := j) (K := fun _ q => spec_ArePoints.l1 q l (k : Int) ((j + 1 : Nat) : Int)) (L := fun x _ q => spec_ArePoints.l2 q l (k : Int) (j : Int) x) (fun _ i => if flatQ l (i, j, k) then .error false else .ok ()) (fun u => ?_) (fun i _ hi u => ?_) (by omega) ()
            · rw [foldlM_any (fun i => flatQ l (i, j, k))] at two
              exact two
            · refine Goes.step ?_
              simp only [spec_ArePoints.l2]
              rw [wrap_id (by omega) (by omega)]
              exact Goes.neg (by omega) (Goes.ok (K := fun (_ : Unit) q => spec_ArePoints.l1 q l (k : Int) ((j + 1 : Nat) : Int)) u)
            · refine Goes.step ?_
              simp only [spec_ArePoints.l2]
              rw [wrap_id (x := (i : Int) + 1) (by omega) (by omega)]
              refine Goes.pos (by omega) (Goes.pos (by omega) (Goes.pos (by omega) (Goes.pos (by omega) (Goes.pos (by omega) (Goes.pos (by omega) (Goes.pos (by omega) ?_))))))
              have nn : ∀ x, x ≤ k → nearP 1000 (pt l x) = true := fun x hx => by
                by_cases e : x = k
                · subst e; exact near_wide hf
                · exact near_wide (hI x (by omega))
              refine Goes.call (spec_area (a := pt l i) (b := pt l j) (c := pt l k) (near3_iff.2 ⟨nn i (by omega), nn j (by omega), nn k (by omega)⟩)) ?_
              by_cases g : areaP (pt l i) (pt l j) (pt l k) = 0
              · exact Goes.pos g (Goes.cast (Goes.ret _) (by simp [flatQ, g]))
              · exact Goes.neg g (Goes.cast (Goes.ok (K := fun (_ : Unit) q => spec_ArePoints.l2 q l (k : Int) (j : Int) ((i + 1 : Nat) : Int)) u) (by simp [flatQ, g]))
      · intro i hi
        by_cases ei : i = k
        · subst ei
          cases hf : nearP 50 (pt l i) with
          | true => rfl
          | false => simp [offPts, hf] at e
        · exact hI i (by omega)
    · unfold arePts
      rw [offPts_any]
      simp [hn.1, hn.2]
  · refine ev_neg (by simp; omega) (ev_cast (Ev.now _) ?_)
    unfold arePts
    have : (decide (3 ≤ l.length) && decide (l.length ≤ 7)) = false := by simp; omega
    rw [this]
    rfl
theorem impl_arePts (l : List IP) (hl : l.length ≤ 10000000) : Ev (fun q => impl_ArePoints.f q l) (arePts l) := by
  unfold impl_ArePoints.f
  have no : (decide (3 ≤ l.length) && decide (l.length ≤ 7)) = false → Ev (fun q => impl_ArePoints.j0 q l true) (arePts l) := fun h => by
    refine ev_step ?_
    simp only [impl_ArePoints.j0]
    refine ev_pos (by trivial) (ev_cast (Ev.now _) ?_)
    unfold arePts
    rw [h]
    rfl
  by_cases h3 : (l.length : Int) < 3
  · exact ev_pos h3 (no (by simp; omega))
  refine ev_neg h3 ?_
  by_cases h7 : (l.length : Int) > 7
  · exact ev_pos h7 (no (by simp; omega))
  refine ev_neg h7 (ev_call (impl_near 50 (by decide) (by decide) l) (ev_step ?_))
  simp only [impl_ArePoints.j0]
  have e0 : (decide (3 ≤ l.length) && decide (l.length ≤ 7)) = true := by simp; omega
  unfold arePts
  rw [e0, Bool.true_and]
  cases hn : l.all (nearP 50) with
  | false => exact ev_pos (by trivial) (Ev.now _)
  | true =>
    refine ev_neg (by decide) (Ev.bind (triples_ev (n := l.length) (by omega) (by omega)) ?_)
    rw [Bool.true_and]
    have eT := tripN_L (n := l.length) (by omega) (by omega)
    have lT := trip_len (n := l.length) (by omega) (by omega)
    have el : (tripN l.length).length = (tripsL l.length).length := by rw [eT, List.length_map]
    have key := loop_up (σ := Unit) (ρ := Bool) (lo := 0) (n := (tripN l.length).length) (K := fun _ _ => some true) (L := fun x _ q => impl_ArePoints.l0 q l (tripN l.length) ((tripN l.length).length : Int) x)
      (fun _ i => if flatQ l ((tripsL l.length).getD i (0, 0, 0)) then .error false else .ok ()) (fun u => ?_) (fun i _ hi u => ?_) (by omega) ()
    · rw [el, foldlM_index (0, 0, 0) (fun (_ : Unit) q => if flatQ l q then (.error false : Except Bool Unit) else .ok ()), foldlM_any (flatQ l)] at key
      rw [el]
      cases hq : (tripsL l.length).any (flatQ l) with
      | true => rw [hq] at key; exact key
      | false => rw [hq] at key; exact key _ (Ev.now _)
    · refine Goes.step ?_
      simp only [impl_ArePoints.l0]
      exact Goes.neg (by omega) (Goes.ok (K := fun _ _ => some true) u)
    · obtain ⟨a, b, c, e, hab, hbc, hc⟩ := trip_pos (n := l.length) (by omega) (by omega) hi
      have eq : (tripsL l.length).getD i (0, 0, 0) = (a, b, c) := by
        have hi' : i < (tripsL l.length).length := by omega
        rw [List.getD_eq_getElem?_getD, List.getElem?_eq_getElem hi']
        simp only [eT, List.getElem_map] at e
        show (tripsL l.length)[i] = _
        generalize (tripsL l.length)[i] = z at e
        obtain ⟨x, y, w⟩ := z
        simp only at e
        injection e with e1 e2 e3
        rw [Int.ofNat_inj.1 e1, Int.ofNat_inj.1 e2, Int.ofNat_inj.1 e3]
      refine Goes.step ?_
      simp only [impl_ArePoints.l0, rd_trip hi, e]
      refine Goes.pos (by omega) (Goes.pos (by omega) (Goes.pos (by omega) (Goes.pos (by omega) (Goes.pos (by omega) (Goes.pos (by omega) (Goes.pos (by omega) (Goes.pos (by omega) (Goes.pos (by omega) (Goes.call (impl_turn (pt l a) (pt l b) (pt l c)) ?_)))))))))
      have n3 := pts_near3 hn (show a < l.length by omega) (show b < l.length by omega) hc
      have et : turnP (pt l a) (pt l b) (pt l c) = sgnI (areaP (pt l a) (pt l b) (pt l c)) := if_pos n3
      rw [et, eq, wrap_id (by omega) (by omega)]
      by_cases g : areaP (pt l a) (pt l b) (pt l c) = 0
      · exact Goes.pos (by rw [g]; rfl) (Goes.cast (Goes.ret _) (by simp [flatQ, g]))
      · refine Goes.neg ?_ (Goes.cast (Goes.ok (K := fun (_ : Unit) q => impl_ArePoints.l0 q l (tripN l.length) ((tripN l.length).length : Int) ((i + 1 : Nat) : Int)) u) (by simp [flatQ, g]))
        unfold sgnI
        split
        · decide
        · rw [if_pos (by omega)]; decide
end Go.Proofs.YthhgcdfdjlijjaaDoor.M
namespace Go.Proofs.YthhgcdfdjlijjaaDoor.M
open Go.RowKit Go.Proofs.YthhgcdfdjlijjaaDoorW.PrintWords Go.Proofs.YthhgcdfdjlijjaaDoor.PX
theorem rdS_nat {l : List ByteArray} {i : Nat} (h : i < l.length) : rdOf ByteArray.empty l (i : Int) = l[i] := by
  unfold rdOf
  rw [Int.toNat_natCast, List.getD_eq_getElem?_getD, List.getElem?_eq_getElem h]
  rfl
end Go.Proofs.YthhgcdfdjlijjaaDoor.M
namespace Go.Proofs.YthhgcdfdjlijjaaDoor.M
open Go.RowKit Go.Proofs.YthhgcdfdjlijjaaDoorW.PrintWords Go.Proofs.YthhgcdfdjlijjaaDoor.PX Go.Proofs.YthhgcdfdjlijjaaDoor.G
def datas (l : List ByteArray) : List (List UInt8) := l.map (·.data.toList)
def lens (l : List ByteArray) : Nat := (l.map (·.size)).sum
theorem join_take {L : List (List UInt8)} {sep : List UInt8} {i : Nat} {y : List UInt8} (h : L[i]? = some y) : Lib.join (L.take (i + 1)) sep = Lib.join (L.take i) sep ++ (if i = 0 then [] else sep) ++ y := by
  cases L with
  | nil => simp at h
  | cons x r =>
    cases i with
    | zero =>
      simp only [List.getElem?_cons_zero, Option.some.injEq] at h
      subst h
      rw [List.take_succ_cons, List.take_zero, List.take_zero, Lib.join_one, Lib.join_nil]
      rfl
    | succ i =>
      rw [List.getElem?_cons_succ] at h
      rw [List.take_succ_cons, List.take_succ_cons, Lib.join_cons, Lib.join_cons, Lib.joinTail_take_succ sep r i y h, if_neg (Nat.succ_ne_zero i)]
      simp only [List.append_assoc]
theorem join_len (l : List ByteArray) (s : ByteArray) (i : Nat) (hi : i ≤ l.length) : (Lib.join ((datas l).take i) s.data.toList).length ≤ i * s.size + lens l := by
  have key : ∀ i, i ≤ l.length → (Lib.join ((datas l).take i) s.data.toList).length ≤ i * s.size + ((l.take i).map (·.size)).sum := by
    intro i
    induction i with
    | zero => intro _; rw [List.take_zero, Lib.join_nil]; exact Nat.zero_le _
    | succ i ih =>
      intro hi
      have e : (datas l)[i]? = some l[i].data.toList := by
        rw [datas, List.getElem?_map, List.getElem?_eq_getElem (by omega)]
        rfl
      rw [join_take e, List.length_append, List.length_append, List.take_succ_eq_append_getElem (by omega), List.map_append, List.sum_append, Nat.succ_mul]
      have h1 := ih (by omega)
      have h2 : (if i = 0 then [] else s.data.toList).length ≤ s.size := by
        split
        · exact Nat.zero_le _
        · exact Nat.le_refl _
      have h3 : l[i].data.toList.length = l[i].size := rfl
      simp only [List.map_cons, List.map_nil, List.sum_cons, List.sum_nil]
      omega
  have h1 := key i hi
  have h2 : ((l.take i).map (·.size)).sum ≤ lens l := by
    have : lens l = ((l.take i).map (·.size)).sum + ((l.drop i).map (·.size)).sum := by
      unfold lens
      rw [← List.sum_append, ← List.map_append, List.take_append_drop]
    omega
  omega
theorem ofNums_bytes (u : List UInt8) : strOfNums (u.map fun b => (b.toNat : Int)) = (⟨u.toArray⟩ : ByteArray) := by
  unfold strOfNums
  congr 2
  rw [List.map_map]
  refine (List.map_congr_left fun b _ => ?_).trans (List.map_id _)
  show UInt8.ofNat ((b.toNat : Int)).toNat = b
  rw [Int.toNat_natCast]
  exact UInt8.ofNat_toNat
theorem spec_join (l : List ByteArray) (s : ByteArray) (hl : l.length ≤ 1048576) (hs : s.size ≤ 1048576) (hz : lens l ≤ 1048576) : Ev (fun k => spec_Join.f k l s) (joinB l s) := by
  unfold spec_Join.f
  have bound : ∀ i, i ≤ l.length → (Lib.join ((datas l).take i) s.data.toList).length ≤ 1099512676352 := fun i hi => by
    have h1 := join_len l s i hi
    have h2 : i * s.size ≤ 1048576 * 1048576 := Nat.mul_le_mul (by omega) hs
    omega
  have key := loop_up' (σ := List UInt8) (ρ := ByteArray) (lo := 0) (n := l.length) (K := fun u _ => some (⟨u.toArray⟩ : ByteArray)) (L := fun i u k => spec_Join.l0 k l s (u.map fun b => (b.toNat : Int)) i)
    (fun i u => u = Lib.join ((datas l).take i) s.data.toList) (fun u i => .ok (u ++ (if i = 0 then [] else s.data.toList) ++ (rdOf ByteArray.empty l (i : Int)).data.toList)) (fun u hu => ?_) (fun i _ hi u hu => ?_) (fun i _ hi u hu u' e => ?_) (by omega) [] rfl
  · rw [foldlM_ok] at key
    refine key _ ?_
    have inv : ∀ (d i : Nat) (u : List UInt8), i + d = l.length → u = Lib.join ((datas l).take i) s.data.toList → (List.range' i d).foldl (fun (u : List UInt8) (i : Nat) => u ++ (if i = 0 then [] else s.data.toList) ++ (rdOf ByteArray.empty l (i : Int)).data.toList) u = Lib.join (datas l) s.data.toList := by
      intro d
      induction d with
      | zero =>
        intro i u hi hu
        rw [hu, List.take_of_length_le (by rw [datas, List.length_map]; omega)]
        rfl
      | succ d ih =>
        intro i u hi hu
        rw [List.range'_succ, List.foldl_cons]
        refine ih (i + 1) _ (by omega) ?_
        rw [rdS_nat (show i < l.length by omega), hu]
        exact (join_take (by rw [datas, List.getElem?_map, List.getElem?_eq_getElem (by omega)]; rfl)).symm
    rw [Nat.sub_zero, inv l.length 0 [] (by omega) rfl]
    exact Ev.now _
  · refine Goes.step ?_
    simp only [spec_Join.l0]
    rw [ofNums_bytes]
    exact Goes.neg (by omega) (Goes.ok (K := fun u (_ : Nat) => some (⟨u.toArray⟩ : ByteArray)) u)
  · have e := rdS_nat (l := l) hi
    have hb := bound i (by omega)
    have hb2 := bound (i + 1) (by omega)
    have e2 : (datas l)[i]? = some l[i].data.toList := by
      rw [datas, List.getElem?_map, List.getElem?_eq_getElem (by omega)]
      rfl
    rw [join_take e2, ← hu, List.length_append, List.length_append] at hb2
    have h3 : l[i].data.toList.length = l[i].size := rfl
    refine Goes.step ?_
    simp only [spec_Join.l0, e]
    refine Goes.pos (by omega) ?_
    rw [wrap_id (by omega) (by omega)]
    have fin : ∀ u', u' = u ++ (if i = 0 then [] else s.data.toList) ++ l[i].data.toList → Goes (.ok (u ++ (if i = 0 then [] else s.data.toList) ++ l[i].data.toList)) (fun (u : List UInt8) k => spec_Join.l0 k l s (u.map fun b => (b.toNat : Int)) ((i + 1 : Nat) : Int)) (fun k => spec_Join.l0 k l s (u'.map fun b => (b.toNat : Int)) ((i : Int) + 1)) := by
      rintro u' rfl
      exact Goes.ok (K := fun (u : List UInt8) k => spec_Join.l0 k l s (u.map fun b => (b.toNat : Int)) ((i + 1 : Nat) : Int)) _
    by_cases h0 : i = 0
    · subst h0
      rw [if_pos rfl, List.length_nil] at hb2
      refine Goes.neg (by omega) (Goes.pos (by omega) (Goes.pos (by rw [List.length_map]; omega) ?_))
      have := fin (u ++ l[0].data.toList) (by simp)
      rw [List.map_append] at this
      exact this
    · rw [if_neg h0] at hb2
      have h4 : s.data.toList.length = s.size := rfl
      refine Goes.pos (by omega) (Goes.pos (by rw [List.length_map]; omega) (Goes.call rfl (Goes.pos (by omega) (Goes.pos (by rw [List.length_append, List.length_map, bytesOf_length]; omega) ?_))))
      have := fin (u ++ s.data.toList ++ l[i].data.toList) (by rw [if_neg h0])
      rw [List.map_append, List.map_append] at this
      exact this
  · cases e
    rw [rdS_nat (show i < l.length by omega), hu]
    exact (join_take (by rw [datas, List.getElem?_map, List.getElem?_eq_getElem (by omega)]; rfl)).symm
theorem impl_join (l : List ByteArray) (s : ByteArray) (hl : l.length ≤ 1048576) (hs : s.size ≤ 1048576) (hz : lens l ≤ 1048576) : impl_Join.f l s = some (joinB l s) := by
  unfold impl_Join.f
  have h1 := join_len l s l.length (Nat.le_refl _)
  have h2 : l.length * s.size ≤ 1048576 * 1048576 := Nat.mul_le_mul hl hs
  rw [List.take_of_length_le (by rw [datas, List.length_map]; omega)] at h1
  rw [if_pos ⟨by omega, by unfold datas at h1; omega⟩]
end Go.Proofs.YthhgcdfdjlijjaaDoor.M
namespace Go.Proofs.YthhgcdfdjlijjaaDoor.M
open Go.RowKit Go.Proofs.YthhgcdfdjlijjaaDoorW.PrintWords Go.Proofs.YthhgcdfdjlijjaaDoor.PX Go.Proofs.YthhgcdfdjlijjaaDoor.G Go.Proofs.YthhgcdfdjlijjaaDoorW.PrintMore
open Go.Lib (decDigits itoa)
def ptT (p : IP) : ByteArray := (itoaB p.f0 ++ (⟨#[44]⟩ : ByteArray)) ++ itoaB p.f1
def ptsT (l : List IP) : ByteArray := if arePts l = true then joinB (l.map ptT) ⟨#[32]⟩ else ⟨#[]⟩
theorem itoa_le3 {n : Int} (h0 : -100 < n) (h1 : n < 100) : (itoaB n).size ≤ 3 := by
  have := dec_len 1 n.natAbs (by omega)
  rw [size_list, itoaB_data]
  unfold itoa
  by_cases g : n < 0
  · rw [if_pos g, List.length_cons]; omega
  · rw [if_neg g, show n.toNat = n.natAbs by omega]; omega
theorem near_b {p : IP} (h : nearP 50 p = true) : (-100 < p.f0 ∧ p.f0 < 100) ∧ (-100 < p.f1 ∧ p.f1 < 100) := by
  simp only [nearP, Bool.and_eq_true, decide_eq_true_eq] at h
  omega
theorem ptT_le {p : IP} (h : nearP 50 p = true) : (ptT p).size ≤ 7 := by
  obtain ⟨a, b⟩ := near_b h
  have h1 := itoa_le3 a.1 a.2
  have h2 := itoa_le3 b.1 b.2
  unfold ptT
  rw [ByteArray.size_append, ByteArray.size_append]
  show (itoaB p.f0).size + 1 + (itoaB p.f1).size ≤ 7
  omega
theorem lens_le {l : List ByteArray} {m : Nat} (h : ∀ x ∈ l, x.size ≤ m) : lens l ≤ l.length * m := by
  unfold lens
  induction l with
  | nil => simp
  | cons x l ih =>
    have h1 := h x List.mem_cons_self
    have h2 := ih fun y hy => h y (List.mem_cons_of_mem _ hy)
    rw [List.map_cons, List.sum_cons, List.length_cons, Nat.add_mul]
    omega
theorem take_pt {l : List IP} {i : Nat} (h : i < l.length) : (l.take (i + 1)).map ptT = (l.take i).map ptT ++ [ptT l[i]] := by
  rw [List.take_add_one, List.getElem?_eq_getElem h, List.map_append]
  rfl
section
variable {l : List IP} (h : arePts l = true)
include h
theorem ptT_small : l.length ≤ 7 ∧ lens (l.map ptT) ≤ 1048576 ∧ ∀ p ∈ l, nearP 50 p = true := by
  obtain ⟨⟨_, h7⟩, hn, _⟩ := arePts_iff.1 h
  refine ⟨h7, ?_, hn⟩
  have := lens_le (l := l.map ptT) (m := 7) fun x hx => by
    obtain ⟨p, hp, rfl⟩ := List.mem_map.1 hx
    exact ptT_le (hn p hp)
  rw [List.length_map] at this
  omega
theorem impl_ptT_loop (d : Nat) : ∀ i : Nat, i + d = l.length → Ev (fun k => impl_PointsText.l0 k ((l.take i).map ptT) l (l.length : Int) (i : Int)) (joinB (l.map ptT) ⟨#[32]⟩) := by
  obtain ⟨h7, hz, hn⟩ := ptT_small h
  induction d with
  | zero =>
    intro i hi
    refine ev_step ?_
    simp only [impl_PointsText.l0]
    rw [List.take_of_length_le (by omega)]
    exact ev_neg (by omega) (ev_call (impl_join _ _ (by rw [List.length_map]; omega) (by decide) hz) (Ev.now _))
  | succ d ih =>
    intro i hi
    have hil : i < l.length := by omega
    have nx := ih (i + 1) (by omega)
    have np := hn l[i] (List.getElem_mem _)
    obtain ⟨a, b⟩ := near_b np
    have h1 := itoa_le3 a.1 a.2
    have h2 := itoa_le3 b.1 b.2
    rw [take_pt hil] at nx
    refine ev_step ?_
    simp only [impl_PointsText.l0]
    rw [rdIP hil, wrap_id (x := (i : Int) + 1) (by omega) (by omega)]
    refine ev_pos (by omega) (ev_pos (by omega) (ev_pos (by omega) (ev_call (impl_fmt (by omega) (by omega)) (ev_pos (by omega) (ev_call (impl_fmt (by omega) (by omega)) (ev_pos (by omega) (ev_pos ?_ nx)))))))
    rw [List.length_map, List.length_take]
    omega
theorem spec_ptT_loop (d : Nat) : ∀ i : Nat, i + d = l.length → Ev (fun k => spec_PointsText.l0 k l ((l.take i).map ptT) (i : Int)) (joinB (l.map ptT) ⟨#[32]⟩) := by
  obtain ⟨h7, hz, hn⟩ := ptT_small h
  induction d with
  | zero =>
    intro i hi
    refine ev_step ?_
    simp only [spec_PointsText.l0]
    rw [List.take_of_length_le (by omega)]
    exact ev_neg (by omega) (Ev.bind (spec_join _ _ (by rw [List.length_map]; omega) (by decide) hz) (Ev.now _))
  | succ d ih =>
    intro i hi
    have hil : i < l.length := by omega
    have nx := ih (i + 1) (by omega)
    have np := hn l[i] (List.getElem_mem _)
    obtain ⟨a, b⟩ := near_b np
    have h1 := itoa_le3 a.1 a.2
    have h2 := itoa_le3 b.1 b.2
    rw [take_pt hil] at nx
    refine ev_step ?_
    simp only [spec_PointsText.l0]
    rw [rdIP hil, wrap_id (x := (i : Int) + 1) (by omega) (by omega)]
    refine ev_pos (by omega) (ev_pos (by omega) (Ev.bind (spec_fmt (by omega) (by omega)) (ev_pos (by omega) (Ev.bind (spec_fmt (by omega) (by omega)) (ev_pos (by omega) (ev_pos ?_ nx))))))
    rw [List.length_map, List.length_take]
    omega
end
theorem impl_ptsT (l : List IP) (hl : l.length ≤ 10000000) : Ev (fun k => impl_PointsText.f k l) (ptsT l) := by
  unfold impl_PointsText.f ptsT
  refine Ev.bind (impl_arePts l hl) ?_
  by_cases h : arePts l = true
  · exact ev_cast (ev_pos h (impl_ptT_loop h l.length 0 (by omega))) (if_pos h).symm
  · exact ev_cast (ev_neg h (Ev.now _)) (if_neg h).symm
theorem spec_ptsT (l : List IP) (hl : l.length ≤ 10000000) : Ev (fun k => spec_PointsText.f k l) (ptsT l) := by
  unfold spec_PointsText.f ptsT
  refine Ev.bind (spec_arePts l hl) ?_
  by_cases h : arePts l = true
  · exact ev_cast (ev_pos h (spec_ptT_loop h l.length 0 (by omega))) (if_pos h).symm
  · exact ev_cast (ev_neg h (Ev.now _)) (if_neg h).symm
end Go.Proofs.YthhgcdfdjlijjaaDoor.M
namespace Go.Proofs.YthhgcdfdjlijjaaDoor.M
open Go.RowKit Go.Proofs.YthhgcdfdjlijjaaDoorW.PrintWords Go.Proofs.YthhgcdfdjlijjaaDoor.PX
abbrev LP := S58
def toPt (p : LP) : IP := ⟨p.f0, p.f1⟩
theorem rdLP {l : List LP} {i : Nat} (h : i < l.length) : rd_T58 l (i : Int) = l[i] := by
  unfold rd_T58
  rw [Int.toNat_natCast, List.getD_eq_getElem?_getD, List.getElem?_eq_getElem h]
  rfl
theorem toPts_loop (l : List LP) (hl : l.length ≤ 10000000) (d : Nat) : ∀ i : Nat, i + d = l.length → Ev (fun k => laws_toPointS.l0 k l ((l.map toPt).take i ++ List.replicate d z55) (i : Int)) (l.map toPt) := by
  induction d with
  | zero =>
    intro i hi
    refine ev_step ?_
    simp only [laws_toPointS.l0]
    refine ev_neg (by omega) (ev_cast (Ev.now _) ?_)
    rw [List.replicate_zero, List.append_nil, List.take_of_length_le (by rw [List.length_map]; omega)]
  | succ d ih =>
    intro i hi
    have hlt : i < l.length := by omega
    have hl' : i < (l.map toPt).length := by rw [List.length_map]; omega
    refine ev_step ?_
    simp only [laws_toPointS.l0]
    refine ev_pos (by omega) (ev_pos (by omega) (ev_call rfl (ev_pos ?_ ?_)))
    · rw [List.length_append, List.length_take, List.length_replicate, List.length_map]; omega
    · rw [rdLP hlt, wrap_id (x := (i : Int) + 1) (by omega) (by omega)]
      have e : ((l.map toPt).take i ++ List.replicate (d + 1) z55).set (i : Int).toNat (⟨l[i].f0, l[i].f1⟩ : IP) = (l.map toPt).take (i + 1) ++ List.replicate d z55 := by
        rw [Int.toNat_natCast, List.set_append_right _ _ (by rw [List.length_take]; omega), List.length_take, List.length_map, show i - min i l.length = 0 by omega, List.replicate_succ, List.set_cons_zero, List.take_add_one, List.getElem?_eq_getElem hl', List.getElem_map, List.append_assoc]
        rfl
      have g := ih (i + 1) (by omega)
      rw [← e] at g
      exact g
theorem toPts_ev (l : List LP) (hl : l.length ≤ 10000000) : Ev (fun k => laws_toPointS.f k l) (l.map toPt) := by
  unfold laws_toPointS.f
  rw [Int.toNat_natCast]
  have := toPts_loop l hl l.length 0 (by omega)
  rw [List.take_zero, List.nil_append] at this
  exact ev_pos (by omega) (ev_pos (by omega) this)
theorem szPts (l : List LP) (m : Int) : ∃ r, laws_szPointS.f l m = some r := by
  unfold laws_szPointS.f
  split <;> exact ⟨_, rfl⟩
theorem szPts_le (l : List LP) (m r : Int) (hm : m ≤ 1048576) (h0 : 0 ≤ m) (hl : l.length ≤ 9223372036854775807) (h : laws_szPointS.f l m = some r) (hr : ¬ r < 0) : l.length ≤ 1048576 ∧ r ≤ 1048576 ∧ 0 ≤ r := by
  unfold laws_szPointS.f at h
  rw [wrap_id (by omega) (by omega)] at h
  split at h
  · cases h; omega
  · cases h; omega
theorem eqPts_loop (l : List IP) (hl : l.length ≤ 10000000) (d : Nat) : ∀ i : Nat, i + d = l.length → Ev (fun k => laws_eqPointS.l0 k l l (i : Int)) true := by
  induction d with
  | zero =>
    intro i hi
    refine ev_step ?_
    simp only [laws_eqPointS.l0]
    exact ev_neg (by omega) (Ev.now _)
  | succ d ih =>
    intro i hi
    refine ev_step ?_
    simp only [laws_eqPointS.l0]
    refine ev_pos (by omega) (ev_pos (by omega) (ev_pos (by omega) (ev_call (a := true) ?_ (ev_pos rfl ?_))))
    · unfold laws_eqPoint.f
      rw [if_pos rfl, if_pos rfl]
    · rw [wrap_id (by omega) (by omega)]
      exact ih (i + 1) (by omega)
theorem eqPts_self (l : List IP) (hl : l.length ≤ 10000000) : Ev (fun k => laws_eqPointS.f k l l) true := by
  unfold laws_eqPointS.f
  exact ev_pos rfl (eqPts_loop l hl l.length 0 (by omega))
end Go.Proofs.YthhgcdfdjlijjaaDoor.M
namespace Go.Proofs.YthhgcdfdjlijjaaDoor.Pure
open Go.RowKit Go.Proofs.YthhgcdfdjlijjaaDoorW.PrintWords Go.Proofs.YthhgcdfdjlijjaaDoor.PX Go.Proofs.YthhgcdfdjlijjaaDoor.M
theorem FnExactPointsText (l : List S58) (hl : l.length ≤ 9223372036854775807) :
    ∃ k, laws_FnExactPointsText.f k l = some true := by
  refine Ev.rounds (r := true) ?_
  unfold laws_FnExactPointsText.f
  obtain ⟨r, hr⟩ := szPts l 1048576
  refine ev_call hr ?_
  by_cases h : r < 0
  · exact ev_pos h (Ev.now _)
  obtain ⟨l1, _, _⟩ := szPts_le l _ _ (by omega) (by omega) hl hr h
  have pa := toPts_ev l (by omega)
  have la : (l.map toPt).length ≤ 10000000 := by rw [List.length_map]; omega
  exact ev_neg h (Ev.bind pa (Ev.bind (spec_ptsT _ la) (Ev.bind pa (Ev.bind (impl_ptsT _ la) (ev_pos rfl (Ev.bind pa (Ev.bind (eqPts_self _ la) (ev_pos rfl (Ev.now _)))))))))
end Go.Proofs.YthhgcdfdjlijjaaDoor.Pure
namespace Go.Proofs.YthhgcdfdjlijjaaDoor.fnExactPointsText
open Go.ChangeShapes Go.WideShapes Go.ChangeAt Go.RowKit Go.Joins
open Go.ChangeMaps (open_string shut_string)
set_option linter.unusedVariables false
theorem own : ownKnob Tryd.prog.godebug = none := by kernel_rfl
theorem str_mk {H : Type} {enc : TypeId × Value → H} {P : Program} {w : World} {base : Nat} {spare : Nat → Bool} {held : Bool} {t : TypeId} {s : ByteArray} (ht : P.underlying t = some .string) (hs : s.size ≤ maxLen) : DataW.trod enc P w base spare held 1 t [.string s] = some (.lit (.string s.data.toList), []) := by
  simp [DataW.trod, ht, hs]
open Go.Proofs.YthhgcdfdjlijjaaDoor
def numC : Option Value → Int
  | some (.int _ n) => n
  | _ => 0
theorem pts_row {w : World} {a : Addr} {len m : Nat} (hlm : len ≤ m) (hm : len ≤ 9223372036854775807) (h : ∀ i, i < m → ∃ x y : Int, w.cell? (a.add (i * 2)) = some (.int .i64 x) ∧ w.cell? (a.add (i * 2 + 1)) = some (.int .i64 y)) :
    ∃ l : List PX.S58, l.length = len ∧ Go.Proofs.YthhgcdfdjlijjaaDoorW.PrintWords.Kd.C PX.k58 w (some a) len l := by
  refine ⟨(List.range len).map fun i => (⟨numC (w.cell? (a.add (i * 2))), numC (w.cell? (a.add (i * 2 + 1)))⟩ : PX.S58), by simp, by simp, hm, fun _ => ⟨a, rfl, fun j p hp => ?_⟩⟩
  rw [List.getElem?_map] at hp
  obtain ⟨i, hi, rfl⟩ := Option.map_eq_some_iff.1 hp
  obtain ⟨hjl, rfl⟩ := List.getElem?_eq_some_iff.1 hi
  rw [List.length_range] at hjl
  simp only [List.getElem_range]
  obtain ⟨x, y, g1, g2⟩ := h j (Nat.lt_of_lt_of_le hjl hlm)
  rw [g1, g2]
  refine ⟨_, rfl, PX.k58_mk w _, fun i u hu => ?_⟩
  match i with
  | 0 => cases hu; exact g1
  | 1 => cases hu; exact g2
  | (i + 2) => simp at hu
theorem laidOut : laidOutB Tryd.prog = true := by kernel_rfl
set_option maxRecDepth 100000 in
theorem lifted (os : Os) (started : os.Started) (H : Type) (enc : TypeId × Value → H) :
    ReturnsInHanded {} Tryd.checked os 5 .any (fun w args => (Rows.fnExactPointsTextSpec.pre enc Tryd.prog Tryd.f5 Rows.fnExactPointsTextRow.domain false w args ∧ laidMetH Tryd.prog G.l3 w) ∧ sizedMet enc Tryd.prog Tryd.f5 (OpenSpec.ofChange Rows.fnExactPointsTextSpec) false w args) (Rows.fnExactPointsTextSpec.post enc Tryd.prog Tryd.f5 false true false false) := by
  refine returnsInHanded_of_change_and (C := Tryd.checked) (X := fun w _ => laidMetH Tryd.prog G.l3 w) (fun _ _ _ hh h => h.of_heap hh) own started (by kernel_rfl) Tryd.func5
    (ChangeSpec.witness_shaped (enc := enc) (C := Tryd.checked) (os := os) (X := fun w _ => laidMetH Tryd.prog G.l3 w) false (World.doorLaid Tryd.prog 24 os) #[.slice none 0 0] 8 rfl (World.shaped_of_RefB (by kernel_rfl) (by kernel_rfl)) (by kernel_rfl) (by kernel_rfl) (by kernel_rfl) (G.met3 os _)) ?_
  intro W base args ds gs before hval0 hW hcnd hsz0 hL _
  have hsz : (DataW.weightsEach Tryd.prog (Tryd.f5.params.toList ++ Rows.fnExactPointsTextSpec.plain.varTypes Tryd.prog) (ds ++ gs)).all (· ≤ reachBytes) = true := hsz0
  have hval : ∀ (j : Nat) t v, Tryd.f5.params[j]? = some t → args[j]? = some v → Value.okWide Tryd.prog W .any base t v := hval0
  have hW' := hW
  obtain ⟨p, q, hA0, hV, rfl, hfz, hnd⟩ := hW
  have hA : DataW.TrodAll enc Tryd.prog W 0 (fun _ => true) true Tryd.f5.params.toList args.toList ds p := hA0
  rw [Tryd.params5] at hA hval hsz
  obtain ⟨v0, vs0, d0, ds0, p0, q0, hargs, rfl, rfl, h0, r0⟩ := trodAll_cons hA
  obtain ⟨rfl, rfl, rfl⟩ := trodAll_nil r0
  obtain rfl : args = #[v0] := by cases args; simp_all
  obtain ⟨rfl, rfl⟩ := trodVars_none hV
  obtain ⟨a0, len0, cap0, rfl⟩ := okWide_slice Tryd.underlying31 (hval 0 31 v0 rfl rfl)
  have k0 := h0
  have lt0 : ∀ x ∈ p0, x.block < W.heap.size := by obtain ⟨m, hm⟩ := k0; exact DataW.trod_lt m _ _ _ hm
  obtain ⟨l0, hn0, hr0, hc0, hb0⟩ : ∃ l : List PX.S58, l.length = len0 ∧ Go.Proofs.YthhgcdfdjlijjaaDoorW.PrintWords.Kd.C PX.k58 W a0 len0 l ∧ len0 ≤ cap0 ∧ len0 ≤ maxLen := by
    obtain ⟨fuel, hf⟩ := h0
    rcases Go.Deep.open_slice_pairs Tryd.underlying31 Tryd.underlying58 (by kernel_rfl) rfl rfl (by kernel_rfl) (by kernel_rfl) hf with ⟨hcs, _⟩ | ⟨x, l, c, m, n, V0, V1, D0, D1, P0, P1, hcs, _, hl, hm, hmm, _, hx⟩
    · simp [Value.cells] at hcs
      obtain ⟨rfl, rfl, rfl⟩ := hcs
      exact ⟨[], rfl, ⟨rfl, Nat.zero_le _, fun h => absurd h (Nat.lt_irrefl _)⟩, Nat.le_refl _, Nat.zero_le _⟩
    · simp [Value.cells] at hcs
      obtain ⟨rfl, rfl, rfl⟩ := hcs
      have hlm : len0 ≤ m := by rw [hmm]; split <;> omega
      obtain ⟨pl, e1, e2⟩ := pts_row hlm (Nat.le_trans (Nat.le_trans hl hm) (by decide)) (fun j hj => by
        obtain ⟨g1, g2, g3, g4⟩ := hx j hj
        obtain ⟨b1, f1, _, _⟩ := DataW.trod_int Tryd.underlying3 g3
        obtain ⟨b2, f2, _, _⟩ := DataW.trod_int Tryd.underlying3 g4
        simp only [List.cons.injEq, and_true] at f1 f2
        rw [f1] at g1
        rw [f2] at g2
        exact ⟨b1, b2, g1, g2⟩)
      exact ⟨pl, e1, e2, hl, Nat.le_trans hl hm⟩
  subst hn0
  clear hA0 hval0 hsz0 hsz
  obtain ⟨k, hP⟩ := Pure.FnExactPointsText l0 (Nat.le_trans hb0 (by decide))
  refine (PX.laws_FnExactPointsText.calls k _ _ l0 true W hr0 hc0 hP rfl (G.laid3_T1 hL)).mono fun e W' ⟨he, bel⟩ => ?_
  subst he
  exact ⟨_, rfl, _, _, _, [], _, [], hW', trodAll_mk1 (shut_bool Tryd.underlying4 _), (trodAll_cons_mk (Below.trod laidOut (by kernel_rfl) (of_decide_eq_true (by kernel_rfl)) k0 bel lt0) trodAll_mk0), rfl, bel.frame _, fun h => by cases h⟩
theorem over : Rows.fnExactPointsTextRow.holds Tryd.pinned (OpenSpec.ofChange Rows.fnExactPointsTextSpec) :=
  OpenClaim.holds_of_wide 5 Tryd.f5 rfl rfl rfl rfl rfl rfl rfl ⟨rfl, rfl, rfl, rfl, rfl⟩ rfl rfl rfl rfl rfl (by kernel_rfl) Tryd.func5 (by kernel_rfl)
    (of_decide_eq_true (by kernel_rfl)) (by unfold Func.isWrapper; first | (rw [if_pos (by decide +kernel)]; kernel_rfl) | (rw [if_neg (by decide +kernel)]; exact ⟨rfl, rfl⟩))
    (fun os started H enc _ => lifted os started H enc)
theorem proved : Rows.FnExactPointsTextCardSaid :=
  Claim7.holds_tied_plain_at .later [] [.data, .data, .data] true (true, "b6297fe4dff1945e15340171e309d32cd1111b5a543af04a2fb5a0138c81a0d9") true over (fun _ h => by cases h) (by kernel_rfl) (fun _ h => by cases h) fnExactPointsText_row_tie rfl ⟨rfl, rfl⟩ (by kernel_rfl) rfl
    (fun f fn hf hfn => by
      obtain rfl : f = 5 := Option.some.inj (hf.symm.trans (show Tryd.prog.funcNamed "loop.example/g03104/laws.FnExactPointsText" = some 5 by kernel_rfl))
      obtain rfl : fn = Tryd.f5 := (Option.some.inj (Tryd.func5.symm.trans hfn)).symm
      exact ⟨by kernel_rfl, fun j t ht => by
        have hm : t ∈ Tryd.f5.params.toList := Array.mem_toList_iff.2 (Array.mem_of_getElem? ht)
        have hall : (Tryd.f5.params.toList.all fun u => !Tryd.prog.wantsStandIn u) = true := by kernel_rfl
        exact (show Tryd.prog.wantsStandIn t = false by simpa using List.all_eq_true.1 hall t hm)⟩)
    (by kernel_rfl)
#print axioms proved
end Go.Proofs.YthhgcdfdjlijjaaDoor.fnExactPointsText
namespace Go.Proofs.YthhgcdfdjlijjaaDoor
theorem fnExactPointsText_holds : Rows.FnExactPointsTextCardSaid := fnExactPointsText.proved
end Go.Proofs.YthhgcdfdjlijjaaDoor
