/- A part of proofs about signs and points: what some functions answer, and that their calls answer so. No condition. -/
import Derived.Test.YtckkfjdkaimmhaaGreatDoorProg
import Derived.Test.YtckkfjdkaimmhaaGreatDoorV1
import Derived.Test.YtckkfjdkaimmhaaGreatDoorBkqzpml1
import Derived.Test.YtckkfjdkaimmhaaGreatDoorBkqzpml2
set_option linter.unusedVariables false
set_option linter.unusedSimpArgs false
namespace Go.Proofs.YtckkfjdkaimmhaaGreatDoor.PX
open Go.RowKit Go.Proofs.YtckkfjdkaimmhaaGreatDoor.G Go.Proofs.YtckkfjdkaimmhaaGreatDoorW.PrintWords Go.Proofs.YtckkfjdkaimmhaaGreatDoorW.PrintLast Go.Proofs.YtckkfjdkaimmhaaGreatDoorW.PrintMore
attribute [local go_sem] max2_int min2_int Yi Yh Z4 Z7 Xk Xn   -- for this text's walks alone
set_option linter.unusedVariables false
set_option linter.unusedSimpArgs false
def Yg.f (a0 : Int) (a1 : Int) : Option (Bool) := if a0 < (wrap64 (-a1)) then (some true) else (some (decide (a0 > a1)))
set_option maxHeartbeats 8000000 in
set_option maxRecDepth 100000 in
theorem Yg.calls (a0 : Int) (a1 : Int) (r : Bool) (w : World) (h : Yg.f a0 a1 = some r) :
  Calls Tryz.prog 89 #[.int .i64 a0, .int .i64 a1] w fun e w' => e = .returned (.bool r) ∧ Jc w w' := by
 have H := h
 unfold Yg.f at H
 clear h
 replace H := Xg H
 rcases H with ⟨aA, H⟩ | ⟨aA, H⟩
 ·obtain rfl := Option.some.inj H
  go_enter Tryz.func89, Tryz.ntmps89
  go_wp2
  go_ret
  exact ⟨by first | rfl | (simp; done) | (simp [*]; done), by repeat (first | exact Jc.refl _ | apply Jc.step)⟩
 obtain rfl := Option.some.inj H
 go_enter Tryz.func89, Tryz.ntmps89
 go_wp2
 go_ret
 exact ⟨by first | rfl | (simp; done) | (simp [*]; done), by repeat (first | exact Jc.refl _ | apply Jc.step)⟩
mutual
def Qv.j0 : Nat → List (S48) → Int → Bool → Option ((List (S48)) × Bool)
 | 0, _, _, _ => none
 | k + 1, x0, x1, aA => if aA = true then (some (([] : List (S48)), false)) else (Qv.l0 k x1 ([] : List (S48)) x0 (x0.length : Int) 0)
def Qv.l0 : Nat → Int → List (S48) → List (S48) → Int → Int → Option ((List (S48)) × Bool)
 | 0, _, _, _, _, _ => none
 | k + 1, x1, x6, aC, aG, aA => if aA < aG then (if 0 ≤ aA then (if aA < (aC.length : Int) then (if x6.length < 8796093022208 then (Qv.l0 k x1 (x6 ++ [(⟨(Qb aC aA).f0, wrap64 (((Qb aC aA).f1) + (wrap64 (x1 * ((Qb aC aA).f0))))⟩ : S48)]) aC aG (wrap64 (aA + 1))) else (none)) else (none)) else (none)) else ((Jy.f 50 x6).bind fun aD => (if aD = true then (some (x6, true)) else (some (([] : List (S48)), false))))
end
def Qv.f (k : Nat) (l0 : List (S48)) (a1 : Int) : Option ((List (S48)) × Bool) := (Qf.f k l0).bind fun aA => (if aA = true then ((Yg.f a1 100).bind fun aC => (Qv.j0 k l0 a1 aC)) else (Qv.j0 k l0 a1 true))
set_option maxHeartbeats 8000000 in
set_option maxRecDepth 100000 in
theorem Qv.calls (k : Nat) (A0 : Option Addr) (c0 : Nat) (l0 : List (S48)) (a1 : Int) (r1 : List (S48)) (r2 : Bool) (w : World) (hr0 : Kd.C k48 w A0 l0.length l0) (hc0 : l0.length ≤ c0) (h : Qv.f k l0 a1 = some (r1, r2)) :
  Calls Tryz.prog 35 #[.slice A0 l0.length c0, .int .i64 a1] w fun e w' => ∃ bR : Value, e = .returned (.tuple #[bR, .bool r2]) ∧ Kd.R k48 48 w' w.heap.size (fun _ => True) bR r1 ∧ Below w.heap.size w w' := by
 have cB := Tryz.underlying48
 have bF := Qa.mk hr0
 have bS := Qa.mk hc0
 clear hr0 hc0
 have HB := Qa.mk (Below.refl w.heap.size w)
 have H := h
 unfold Qv.f at H
 clear h
 have bG := Qa.mk H
 clear H
 go_enter Tryz.func35, Tryz.ntmps35
 go_upto_region 1 with (fail)
 go_cut [15] (fun v15 wc => ∃ (kq : Nat) (aM : Bool), v15 = .bool aM ∧ Qa (Qv.j0 kq l0 a1 aM = some (r1, r2)) ∧ Qa (kq ≤ k) ∧ Qa (Below w.heap.size w wc))
 case first =>
  have H := bG.out
  clear bG
  obtain ⟨bH, A4, H⟩ := zO H
  by_cases c5 : bH = true
  ·subst c5
   replace H := (if_pos rfl).symm.trans H
   obtain ⟨aW, A6, H⟩ := zO H
   have H' := Qa.mk H; clear H
   go_wp2_with (first | ((with_reducible refine Qd (f := 45) rfl ?_); refine zD (some 10) Tryz.func45 #[.slice A0 l0.length c0] ((Qf.calls k _ _ l0 true _ ?aD ?aG A4.out).mono ?_); (case aD => exact zc (Kd.C_below bF.out HB.out)); (case aG => exact bS.out); rintro e w7 ⟨rfl, hb⟩; refine ⟨_, rfl, ?_⟩; replace HB := zX hb; (try clear hb)) | (go_at_call 89; (with_reducible refine (Yg.calls a1 100 aW _ A6.out).mono ?_); rintro e w' ⟨rfl, ⟨nd, rfl⟩⟩))
   go_meet
   case rel => exact ⟨_, (aW), zF, H', ⟨by first | omega | exact Nat.le_refl _⟩, ⟨zB⟩⟩
  replace c5 := Bool.eq_false_iff.mpr c5
  subst c5
  replace H := (if_neg zFf).symm.trans H
  have H' := Qa.mk H; clear H
  go_wp2_with (first | ((with_reducible refine Qd (f := 45) rfl ?_); refine zD (some 10) Tryz.func45 #[.slice A0 l0.length c0] ((Qf.calls k _ _ l0 false _ ?aD ?aG A4.out).mono ?_); (case aD => exact zc (Kd.C_below bF.out HB.out)); (case aG => exact bS.out); rintro e w8 ⟨rfl, hb⟩; refine ⟨_, rfl, ?_⟩; replace HB := zX hb; (try clear hb)))
  go_meet
  case rel => exact ⟨_, (true), zF, H', ⟨by first | omega | exact Nat.le_refl _⟩, ⟨zB⟩⟩
 case rest =>
 clear bG
 obtain ⟨kq, aM, rfl, HA, HJ2, HB⟩ := hcut
 cases kq with
 | zero => exact absurd HA.out (by simp [Qv.j0])
 | succ bT =>
 have H := HA.out
 clear HA
 simp only [Qv.j0] at H
 by_cases c9 : aM = true
 ·subst c9
  replace H := (if_pos rfl).symm.trans H
  simp only [Option.some.injEq, Prod.mk.injEq] at H
  obtain ⟨rfl, rfl⟩ := H
  go_wp2
  go_ret2
  exact ⟨_, zE, by first | exact Kd.R_nil _ _ _ _ _ | exact Kd.N_nil _ _ _ _ _ | exact Kd.V_nil _ _ _ _ _ | exact Kd.Q_nil _ _ _ _ _ | exact Kd.S_nil _ _ _ _ _, zB⟩
 replace c9 := Bool.eq_false_iff.mpr c9
 subst c9
 replace H := (if_neg zFf).symm.trans H
 have H' := Qa.mk H; clear H
 go_wp2
 go_loopg [6, 18] bT (fun kq v6 v18 w' => ∃ (aI : List (S48)) (aA : Int), v18 = .int .i64 aA ∧ Qa (Qv.l0 kq a1 aI l0 (l0.length : Int) aA = some (r1, r2)) ∧ Qa (kq ≤ bT) ∧ Qa (Kd.R k48 48 w' w.heap.size (fun _ => True) v6 aI) ∧ Qa (Below w.heap.size w w'))
 case atStart => exact ⟨(([] : List (S48))), (0), zF, H', ⟨Nat.le_refl _⟩, ⟨by first | exact Kd.R_nil _ _ _ _ _ | exact Kd.N_nil _ _ _ _ _ | exact Kd.V_nil _ _ _ _ _ | exact Kd.Q_nil _ _ _ _ _ | exact Kd.S_nil _ _ _ _ _⟩, ⟨zB⟩⟩
 case round =>
 clear H'
 try clear c9
 obtain ⟨aI, aA, rfl, HA, bU, aC, HB⟩ := hrel
 cases gk with
 | zero => exact absurd HA.out (by simp [Qv.l0])
 | succ k2 =>
 have H := HA.out
 clear HA
 simp only [Qv.l0] at H
 replace H := Xg H
 rcases H with ⟨aX, H⟩ | ⟨aX, H⟩
 ·replace H := J9 H
  rcases H with ⟨bV, H⟩ | ⟨c11, H⟩
  ·replace H := J9 H
   rcases H with ⟨bW, H⟩ | ⟨c12, H⟩
   ·replace H := Z8 H
    rcases H with ⟨c13, H⟩ | ⟨c13, H⟩
    ·have aY := Qa.mk c13
     clear c13
     generalize aT : (aI ++ [(⟨(Qb l0 aA).f0, wrap64 (((Qb l0 aA).f1) + (wrap64 (a1 * ((Qb l0 aA).f0))))⟩ : S48)] : List (S48)) = bI at H
     have aZ := Qa.mk aT.symm
     clear aT
     have H' := Qa.mk H; clear H
     have aU : 0 ≤ (aA : Int) := zA
     have aV : aA < (l0.length : Int) := zA
     obtain ⟨bX, bJ, aJ, aK⟩ := Jj bF.out aA aU aV
     cases bJ
     replace aJ := (HB.out.cell (World.block_lt_of_cell? w _ aJ)).trans aJ
     replace aK := (HB.out.cell (World.block_lt_of_cell? w _ aK)).trans aK
     replace aU := eq_true aU
     replace aV := eq_true aV
     go_wp2_with (first | ((with_reducible refine Qo (N := 8) rfl ?_); refine zBx (N := 8) #[.int .i64 0, .int .i64 0] 48 ?_; intro aH hg cO hbox hb; replace aC := Qa.mk (Kd.R_below (Kd.R_elderB (zR aC.out) aH (Nat.le_of_eq hg.symm)) hb); have aN := Qa.mk (hbox); have bY := zS hg; have aQ := zS hg; replace HB := zX hb; clear hb hbox hg; obtain ⟨bB, bC, bD, bE⟩ := zq2 aN.out) | ((with_reducible refine J5 (b := .append) (xs := #[.tmp 22, .tmp 33]) rfl ?_); at_builtin; refine Kd.R_append k48 (w0 := w) w.heap.size rfl (.tmp 22) (.tmp 33) 28 48 (.agg #[(.int .i64 0), (.int .i64 0)]) 16 rfl Tryz.underlying28 Yf rfl (by decide) (by omega) u6 aI (⟨(Qb l0 aA).f0, wrap64 (((Qb l0 aA).f1) + (wrap64 (a1 * ((Qb l0 aA).f0))))⟩ : S48) [.int .i64 ((Qb l0 aA).f0), .int .i64 (wrap64 (((Qb l0 aA).f1) + (wrap64 (a1 * ((Qb l0 aA).f0)))))] (fun k_ => k_ ≠ aH) (fun _ => False) rfl (by first | (go_simp; done) | (go_simp; rfl)) ?aP (fun _ hk => hk.elim) ?aF ?aO ?aB ?aS ?aL ?_; (case aP => exact Z0 _ _ _ (⟨(Qb l0 aA).f0, wrap64 (((Qb l0 aA).f1) + (wrap64 (a1 * ((Qb l0 aA).f0))))⟩ : S48)); (case aB => exact (zG aQ.out)); (case aF => exact (fun k_ hk => Kd.freshB (g := aH) (o := .cells #[.int .i64 ((Qb l0 aA).f0), .int .i64 ((Qb l0 aA).f1)] 48 (0, 0)) (zk0 aN.out) k_ hk)); (case aO => exact (by (with_reducible repeat (first | apply Kd.R_alloc | apply Kd.R_drewN | apply Kd.R_drew)); exact Kd.R_mono (Kd.R_far (p := ⟨aH, 1, none⟩) (Kd.R_far (p := ⟨aH, 0, none⟩) (Kd.R_mono aC.out (fun k_ hk => (⟨hk, hk.2⟩ : _ ∧ k_ ≠ aH))) (fun _ hk => hk.2) (.int .i64 ((Qb l0 aA).f0))) (fun _ hk => hk.2) (.int .i64 ((Qb l0 aA).f1))) (fun _ hk => hk.1.2))); (case aS => exact (Ql (zG aQ.out))); (case aL => have := aY.out; omega); intro cK w16 ho hb hg hat; rw [← aZ.out] at ho; replace aN := Qa.mk (Vs (g := aH) (o := .cells #[.int .i64 ((Qb l0 aA).f0), .int .i64 ((Qb l0 aA).f1)] 48 (0, 0)) (zk0 aN.out) hg (Kd.R_away aC.out (fun _ hk => hk.2))); have bA := Qa.mk (ho); replace HB := Qa.mk (hb); clear aC; clear ho hb hg hat))
     go_roundg k2
     case measure => have := HJ2.out; have := bU.out; omega
     case rel => exact ⟨(bI), (wrap64 (aA + 1)), zF, H', ⟨by have := HJ2.out; have := bU.out; omega⟩, ⟨zR (Kd.R_mono bA.out (fun _ hk => trivial))⟩, ⟨zG aQ.out⟩⟩
    exact absurd H (by simp)
   exact absurd H (by simp)
  exact absurd H (by simp)
 obtain ⟨bK, bZ, H⟩ := zO H
 by_cases c18 : bK = true
 ·subst c18
  replace H := (if_pos rfl).symm.trans H
  simp only [Option.some.injEq, Prod.mk.injEq] at H
  obtain ⟨rfl, rfl⟩ := H
  obtain ⟨bL, bM, bN⟩ := Kd.R_slice aC.out
  subst bN
  go_wp2_with (first | ((with_reducible refine Qd (f := 81) rfl ?_); refine zD (some 37) Tryz.func81 #[.int .i64 50, .slice bL aI.length bM] ((Jy.calls 50 _ _ aI true _ ?aD ?aG bZ.out).mono ?_); (case aD => exact zc ((Kd.R_reads' aC.out).2.2)); (case aG => exact (Kd.R_reads' aC.out).2.1); rintro e cZ ⟨rfl, hb⟩; refine ⟨_, rfl, ?_⟩; replace aC := zW aC.out hb; replace HB := zX hb; (try clear hb)))
  go_ret2
  exact ⟨_, zE, zR aC.out, zB⟩
 replace c18 := Bool.eq_false_iff.mpr c18
 subst c18
 replace H := (if_neg zFf).symm.trans H
 simp only [Option.some.injEq, Prod.mk.injEq] at H
 obtain ⟨rfl, rfl⟩ := H
 obtain ⟨bO, bP, bQ⟩ := Kd.R_slice aC.out
 subst bQ
 go_wp2_with (first | ((with_reducible refine Qd (f := 81) rfl ?_); refine zD (some 37) Tryz.func81 #[.int .i64 50, .slice bO aI.length bP] ((Jy.calls 50 _ _ aI false _ ?aD ?aG bZ.out).mono ?_); (case aD => exact zc ((Kd.R_reads' aC.out).2.2)); (case aG => exact (Kd.R_reads' aC.out).2.1); rintro e dA ⟨rfl, hb⟩; refine ⟨_, rfl, ?_⟩; replace aC := zW aC.out hb; replace HB := zX hb; (try clear hb)))
 go_ret2
 exact ⟨_, zE, by first | exact Kd.R_nil _ _ _ _ _ | exact Kd.N_nil _ _ _ _ _ | exact Kd.V_nil _ _ _ _ _ | exact Kd.Q_nil _ _ _ _ _ | exact Kd.S_nil _ _ _ _ _, zB⟩
mutual
def Qm.j0 : Nat → List (S48) → Int → Bool → Option ((List (S48)) × Bool)
 | 0, _, _, _ => none
 | k + 1, x0, x1, aA => if aA = true then (some ((([] : List (S48))), false)) else (Qm.l0 k x0 x1 (([] : List (S48))) 0)
def Qm.l0 : Nat → List (S48) → Int → List (S48) → Int → Option ((List (S48)) × Bool)
 | 0, _, _, _, _ => none
 | k + 1, x0, x1, x6, x7 => if x7 < (x0.length : Int) then (if 0 ≤ x7 then ((Jn.f ((Qb x0 x7).f0) (wrap64 (((Qb x0 x7).f1) + (wrap64 (x1 * ((Qb x0 x7).f0))))) 50).bind fun aA => (if aA = true then (if x6.length < 8796093022208 then (Qm.l0 k x0 x1 (x6 ++ [(⟨(Qb x0 x7).f0, wrap64 (((Qb x0 x7).f1) + (wrap64 (x1 * ((Qb x0 x7).f0))))⟩ : S48)]) (wrap64 (x7 + 1))) else (none)) else (some ((([] : List (S48))), false)))) else (none)) else (some (x6, true))
end
def Qm.f (k : Nat) (l0 : List (S48)) (a1 : Int) : Option ((List (S48)) × Bool) := (Qh.f k l0).bind fun aA => (if aA = true then ((Zi.f a1 (-100) 100).bind fun aC => (Qm.j0 k l0 a1 (!aC))) else (Qm.j0 k l0 a1 true))
def Qm.T7 : Bool × List (List Nat × List Nat) := (true, [([], []), ([], []), ([0, 1], [0, 1]), ([2], [2]), ([3], [3]), ([], []), ([], []), ([5, 6], [5, 6]), ([7], [7]), ([8], [8]), ([], []), ([], []), ([], []), ([11, 12], [11, 12]), ([13], [13]), ([14], [14]), ([10, 15], [10, 15]), ([9, 16], [9, 16]), ([4, 17], [4, 17]), ([], []), ([19, 18, 0, 1, 2, 3, 4, 5, 6, 7, 8, 9, 10, 11, 12, 13, 14, 15, 16, 17, 18, 19], [18, 19])])
def Qm.B7 : List Nat := [0, 0, 3, 7, 15, 0, 0, 96, 224, 480, 0, 0, 0, 6144, 14336, 30720, 64512, 131040, 262143, 0, 1048575]
theorem Qm.tab7 : Vj .any (opsOf Tryz.f36 7) = Qm.T7 := by kernel_rfl
theorem Qm.bits7 : Z5 Qm.T7.2 Qm.B7 = true := by kernel_rfl
set_option maxHeartbeats 8000000 in
set_option maxRecDepth 100000 in
theorem Qm.calls (k : Nat) (A0 : Option Addr) (c0 : Nat) (l0 : List (S48)) (a1 : Int) (r1 : List (S48)) (r2 : Bool) (w : World) (hr0 : Kd.C k48 w A0 l0.length l0) (hc0 : l0.length ≤ c0) (h : Qm.f k l0 a1 = some (r1, r2)) :
  Calls Tryz.prog 36 #[.slice A0 l0.length c0, .int .i64 a1] w fun e w' => ∃ dX : Value, e = .returned (.tuple #[dX, .bool r2]) ∧ Kd.R k48 48 w' w.heap.size (fun _ => True) dX r1 ∧ Below w.heap.size w w' := by
 have eX := Tryz.underlying48
 have bQ := Qa.mk hr0
 have dY := Qa.mk hc0
 clear hr0 hc0
 have HB := Qa.mk (Below.refl w.heap.size w)
 have H := h
 unfold Qm.f at H
 clear h
 have dR := Qa.mk H
 clear H
 go_enter Tryz.func36, Tryz.ntmps36
 go_upto_region 1 with (fail)
 go_cut [16] (fun v16 wc => ∃ (kq : Nat) (bH : Bool), v16 = .bool bH ∧ Qa (Qm.j0 kq l0 a1 bH = some (r1, r2)) ∧ Qa (kq ≤ k) ∧ Qa (Below w.heap.size w wc))
 case first =>
  have H := dR.out
  clear dR
  obtain ⟨dS, A4, H⟩ := zO H
  by_cases c5 : dS = true
  ·subst c5
   replace H := (if_pos rfl).symm.trans H
   obtain ⟨cK, A6, H⟩ := zO H
   have H' := Qa.mk H; clear H
   go_wp2_with (first | ((with_reducible refine Qd (f := 46) rfl ?_); refine zD (some 10) Tryz.func46 #[.slice A0 l0.length c0] ((Qh.calls k _ _ l0 true _ ?bJ ?bK A4.out).mono ?_); (case bJ => exact zc (Kd.C_below bQ.out HB.out)); (case bK => exact dY.out); rintro e w7 ⟨rfl, hb⟩; refine ⟨_, rfl, ?_⟩; replace HB := zX hb; (try clear hb)) | (go_at_call 70; (with_reducible refine (Zi.calls a1 (-100) 100 cK _ A6.out).mono ?_); rintro e w' ⟨rfl, ⟨nd, rfl⟩⟩))
   go_meet
   case rel => exact ⟨_, (!cK), zF, H', ⟨by first | omega | exact Nat.le_refl _⟩, ⟨zB⟩⟩
  replace c5 := Bool.eq_false_iff.mpr c5
  subst c5
  replace H := (if_neg zFf).symm.trans H
  have H' := Qa.mk H; clear H
  go_wp2_with (first | ((with_reducible refine Qd (f := 46) rfl ?_); refine zD (some 10) Tryz.func46 #[.slice A0 l0.length c0] ((Qh.calls k _ _ l0 false _ ?bJ ?bK A4.out).mono ?_); (case bJ => exact zc (Kd.C_below bQ.out HB.out)); (case bK => exact dY.out); rintro e w8 ⟨rfl, hb⟩; refine ⟨_, rfl, ?_⟩; replace HB := zX hb; (try clear hb)))
  go_meet
  case rel => exact ⟨_, (true), zF, H', ⟨by first | omega | exact Nat.le_refl _⟩, ⟨zB⟩⟩
 case rest =>
 clear dR
 obtain ⟨kq, bH, rfl, HA, HJ2, HB⟩ := hcut
 cases kq with
 | zero => exact absurd HA.out (by simp [Qm.j0])
 | succ dZ =>
 have H := HA.out
 clear HA
 simp only [Qm.j0] at H
 by_cases c9 : bH = true
 ·subst c9
  replace H := (if_pos rfl).symm.trans H
  generalize bR : (([] : List (S48)) : List (S48)) = eY at H
  have bS := Qa.mk bR.symm
  clear bR
  simp only [Option.some.injEq, Prod.mk.injEq] at H
  obtain ⟨rfl, rfl⟩ := H
  go_wp2_with (first | ((with_reducible refine Qo (N := 17) rfl ?_); refine Kd.R_lit k48 _ 48 ?hg (N := 17) ?hd (xs := ([] : List (S48))) (inner := []) (ok := fun _ => True) (okp := fun _ => True) ?hr ?hp (fun _ hk => hk) trivial (Below.refl _ _) (Nat.le_refl _) (by simp) ?_; (case hd => rfl); (case hg => rfl); (case hr => first | (go_simp; done) | (go_simp; rfl)); (case hp => exact (J6.none _ _)); intro eZ fI bL hb hg_ hnew_; clear hg_ hnew_; (first | rw [← bS.out] at bL | (simp only [Int.reduceToNat] at bL; rw [← bS.out] at bL)); have cO := Qa.mk (Kd.R_lower bL (Ql zB)); replace HB := zX hb; clear hb bL))
  go_ret2
  exact ⟨_, zE, zR cO.out, zB⟩
 replace c9 := Bool.eq_false_iff.mpr c9
 subst c9
 replace H := (if_neg zFf).symm.trans H
 generalize bT : (([] : List (S48)) : List (S48)) = dU at H
 have bU := Qa.mk bT.symm
 clear bT
 have H' := Qa.mk H; clear H
 go_wp2_with (first | ((with_reducible refine Qo (N := 18) rfl ?_); refine Kd.R_lit k48 _ 48 ?hg (N := 18) ?hd (xs := ([] : List (S48))) (inner := []) (ok := fun _ => True) (okp := fun _ => True) ?hr ?hp (fun _ hk => hk) trivial (Below.refl _ _) (Nat.le_refl _) (by simp) ?_; (case hd => rfl); (case hg => rfl); (case hr => first | (go_simp; done) | (go_simp; rfl)); (case hp => exact (J6.none _ _)); intro fA fJ bM hb hg_ hnew_; clear hg_ hnew_; (first | rw [← bU.out] at bM | (simp only [Int.reduceToNat] at bM; rw [← bU.out] at bM)); have cZ := Qa.mk (Kd.R_lower bM (Ql zB)); replace HB := zX hb; clear hb bM))
 go_loopg [6, 7] dZ (fun kq v6 v7 w' => ∃ (bN : List (S48)) (aC : Int), v7 = .int .i64 aC ∧ Qa (Qm.l0 kq l0 a1 bN aC = some (r1, r2)) ∧ Qa (kq ≤ dZ) ∧ Qa (Kd.R k48 48 w' w.heap.size (fun _ => True) v6 bN) ∧ Qa (Below w.heap.size w w'))
 case atStart => exact ⟨(dU), (0), zF, H', ⟨Nat.le_refl _⟩, ⟨zR cZ.out⟩, ⟨zB⟩⟩
 case round =>
 clear H'
 try clear c9
 obtain ⟨bN, aC, rfl, HA, eB, aZ, HB⟩ := hrel
 cases gk with
 | zero => exact absurd HA.out (by simp [Qm.l0])
 | succ k2 =>
 have H := HA.out
 clear HA
 simp only [Qm.l0] at H
 replace H := Xg H
 rcases H with ⟨dA, H⟩ | ⟨dA, H⟩
 ·replace H := J9 H
  rcases H with ⟨eD, H⟩ | ⟨c15, H⟩
  ·obtain ⟨dV, eF, H⟩ := zO H
   by_cases c17 : dV = true
   ·subst c17
    replace H := (if_pos rfl).symm.trans H
    replace H := Z8 H
    rcases H with ⟨c18, H⟩ | ⟨c18, H⟩
    ·have dB := Qa.mk c18
     clear c18
     generalize bV : (bN ++ [(⟨(Qb l0 aC).f0, wrap64 (((Qb l0 aC).f1) + (wrap64 (a1 * ((Qb l0 aC).f0))))⟩ : S48)] : List (S48)) = dW at H
     have dC := Qa.mk bV.symm
     clear bV
     have H' := Qa.mk H; clear H
     try go_wp2
     replace aZ := Qa.mk (Kd.R_drew aZ.out)
     replace HB := Qa.mk (Qp HB.out)
     have bB : 0 ≤ (aC : Int) := zA
     have bC : aC < (l0.length : Int) := zA
     obtain ⟨aN, bY, aT, aU⟩ := Jj bQ.out aC bB bC
     have aG := aU
     have aH := aT
     cases bY
     replace aT := (HB.out.cell (World.block_lt_of_cell? w _ aT)).trans aT
     replace aU := (HB.out.cell (World.block_lt_of_cell? w _ aU)).trans aU
     replace bB := eq_true bB
     replace bC := eq_true bC
     have bD : 0 ≤ (aC : Int) := zA
     have bE : aC < (l0.length : Int) := zA
     obtain ⟨bO, bZ, aV, aW⟩ := Jj bQ.out aC bD bE
     have aI := aW
     have aJ := aV
     obtain rfl : aN = bO := (by injection bZ)
     replace aV := (HB.out.cell (World.block_lt_of_cell? w _ aV)).trans aV
     replace aW := (HB.out.cell (World.block_lt_of_cell? w _ aW)).trans aW
     replace bD := eq_true bD
     replace bE := eq_true bE
     have bF : 0 ≤ (aC : Int) := zA
     have bG : aC < (l0.length : Int) := zA
     obtain ⟨bP, cB, aX, aY⟩ := Jj bQ.out aC bF bG
     have aK := aY
     have aM := aX
     obtain rfl : aN = bP := (by injection cB)
     replace aX := (HB.out.cell (World.block_lt_of_cell? w _ aX)).trans aX
     replace aY := (HB.out.cell (World.block_lt_of_cell? w _ aY)).trans aY
     replace bF := eq_true bF
     replace bG := eq_true bG
     refine Zy (n := 21) (S := fun w' => w'.cell? (aN.add ((aC).toNat * 2)) = some (.int .i64 ((Qb l0 aC).f0)) ∧ w'.cell? ⟨(aN.add ((aC).toNat * 2)).block, (aN.add ((aC).toNat * 2)).off + 1, none⟩ = some (.int .i64 ((Qb l0 aC).f1)) ∧ w'.cell? (aN.add ((aC).toNat * 2)) = some (.int .i64 ((Qb l0 aC).f0)) ∧ w'.cell? ⟨(aN.add ((aC).toNat * 2)).block, (aN.add ((aC).toNat * 2)).off + 1, none⟩ = some (.int .i64 ((Qb l0 aC).f1)) ∧ w'.cell? (aN.add ((aC).toNat * 2)) = some (.int .i64 ((Qb l0 aC).f0)) ∧ w'.cell? ⟨(aN.add ((aC).toNat * 2)).block, (aN.add ((aC).toNat * 2)).off + 1, none⟩ = some (.int .i64 ((Qb l0 aC).f1))) (ds := []) #[false, false, false, false, false, false, false, false, false, false, false, false, false, false, false, false, false, false, false, false, false] (by kernel_rfl) rfl rfl ⟨((HB.out.cell (World.block_lt_of_cell? w _ aH)).trans aH), ((HB.out.cell (World.block_lt_of_cell? w _ aG)).trans aG), ((HB.out.cell (World.block_lt_of_cell? w _ aJ)).trans aJ), ((HB.out.cell (World.block_lt_of_cell? w _ aI)).trans aI), ((HB.out.cell (World.block_lt_of_cell? w _ aM)).trans aM), ((HB.out.cell (World.block_lt_of_cell? w _ aK)).trans aK)⟩ (fun hHeld => ?_); refine Jr Qm.tab7 Qm.bits7 (fun HT_ HW_ => ?_)
     generalize wr.drew = fK at aZ HB aT aU aV aW aX aY hHeld ⊢
     refine zP 0 (some 25) rfl rfl ?_
     refine zP 1 (some 26) rfl rfl ?_
     refine zP 2 (some 27) rfl rfl ?_
     refine zP 3 (some 28) rfl rfl ?_
     refine zP 5 (some 30) rfl rfl ?_
     refine zP 6 (some 31) rfl rfl ?_
     refine zP 7 (some 32) rfl rfl ?_
     refine zP 8 (some 33) rfl rfl ?_
     refine zP 10 (some 35) rfl rfl ?_
     refine zP 11 (some 36) rfl rfl ?_
     refine zP 12 (some 37) rfl rfl ?_
     refine zP 13 (some 38) rfl rfl ?_
     refine zP 14 (some 39) rfl rfl ?_
     refine zY6 4 (some 29) rfl rfl hHeld ?_
     refine zY6 9 (some 34) rfl rfl hHeld ?_
     refine zY6 15 (some 40) rfl rfl hHeld ?_
     refine zP 16 (some 41) rfl rfl ?_
     refine zP 17 (some 42) rfl rfl ?_
     refine zP 18 (some 43) rfl rfl ?_
     refine zU 19 (some 8) rfl rfl (fun K hK => ?_)
     refine jCq ?hg (N := 8) ?hd (cs := #[.int .i64 0, .int .i64 0]) (t := 48) ?hr ?_; (case hd => rfl); (case hg => rfl); (case hr => first | (go_simp; done) | (go_simp; rfl))
     intro aD hg eG hbox hb
     replace aZ := Qa.mk (Kd.R_below (Kd.R_elderB (zR aZ.out) aD (Nat.le_of_eq hg.symm)) hb)
     have aQ := Qa.mk (hbox)
     have aA := zS hg
     have bA := zS hg
     replace HB := zX hb
     clear hb hbox hg
     refine hK.out _ _ ⟨((HB.out.cell (World.block_lt_of_cell? w _ aH)).trans aH), ((HB.out.cell (World.block_lt_of_cell? w _ aG)).trans aG), ((HB.out.cell (World.block_lt_of_cell? w _ aJ)).trans aJ), ((HB.out.cell (World.block_lt_of_cell? w _ aI)).trans aI), ((HB.out.cell (World.block_lt_of_cell? w _ aM)).trans aM), ((HB.out.cell (World.block_lt_of_cell? w _ aK)).trans aK)⟩ (fun hHeld => ?_)
     clear hK K
     refine zN ?_
     refine zU 20 none rfl rfl (fun K hK => ?_)
     have fB : eG.cell? ⟨aD, 0, none⟩ = some (.int .i64 0) := (Qn aQ.out 0).trans rfl
     have eH := Qy aQ.out 0
     have fC : eG.cell? ⟨aD, 1, none⟩ = some (.int .i64 0) := (Qn aQ.out 1).trans rfl
     have eO := Qy aQ.out 1
     refine Vi (w1 := ?_) (by rfl) rfl ?_ ?_
     rotate_left
     ·go_simp
      rfl
     refine hK.out _ _ ⟨((cell_far (p := ⟨aD, _, none⟩) (by first | exact Nat.ne_of_lt (Nat.lt_of_lt_of_le (by have := World.block_lt_of_cell? _ _ aH; first | rwa [add_block] at this | exact this) aA.out) | (rw [add_block]; exact Nat.ne_of_lt (Nat.lt_of_lt_of_le (by have := World.block_lt_of_cell? _ _ aH; first | rwa [add_block] at this | exact this) aA.out)) | (show (Addr.add _ _).block ≠ _; rw [add_block]; exact Nat.ne_of_lt (Nat.lt_of_lt_of_le (by have := World.block_lt_of_cell? _ _ aH; first | rwa [add_block] at this | exact this) aA.out)) | (dsimp only; exact Nat.ne_of_lt (Nat.lt_of_lt_of_le (by have := World.block_lt_of_cell? _ _ aH; first | rwa [add_block] at this | exact this) aA.out))) _).trans (((cell_far (p := ⟨aD, _, none⟩) (by first | exact Nat.ne_of_lt (Nat.lt_of_lt_of_le (by have := World.block_lt_of_cell? _ _ aH; first | rwa [add_block] at this | exact this) aA.out) | (rw [add_block]; exact Nat.ne_of_lt (Nat.lt_of_lt_of_le (by have := World.block_lt_of_cell? _ _ aH; first | rwa [add_block] at this | exact this) aA.out)) | (show (Addr.add _ _).block ≠ _; rw [add_block]; exact Nat.ne_of_lt (Nat.lt_of_lt_of_le (by have := World.block_lt_of_cell? _ _ aH; first | rwa [add_block] at this | exact this) aA.out)) | (dsimp only; exact Nat.ne_of_lt (Nat.lt_of_lt_of_le (by have := World.block_lt_of_cell? _ _ aH; first | rwa [add_block] at this | exact this) aA.out))) _).trans (hHeld.1)))), ((cell_far (p := ⟨aD, _, none⟩) (by first | exact Nat.ne_of_lt (Nat.lt_of_lt_of_le (by have := World.block_lt_of_cell? _ _ aG; first | rwa [add_block] at this | exact this) aA.out) | (rw [add_block]; exact Nat.ne_of_lt (Nat.lt_of_lt_of_le (by have := World.block_lt_of_cell? _ _ aG; first | rwa [add_block] at this | exact this) aA.out)) | (show (Addr.add _ _).block ≠ _; rw [add_block]; exact Nat.ne_of_lt (Nat.lt_of_lt_of_le (by have := World.block_lt_of_cell? _ _ aG; first | rwa [add_block] at this | exact this) aA.out)) | (dsimp only; exact Nat.ne_of_lt (Nat.lt_of_lt_of_le (by have := World.block_lt_of_cell? _ _ aG; first | rwa [add_block] at this | exact this) aA.out))) _).trans (((cell_far (p := ⟨aD, _, none⟩) (by first | exact Nat.ne_of_lt (Nat.lt_of_lt_of_le (by have := World.block_lt_of_cell? _ _ aG; first | rwa [add_block] at this | exact this) aA.out) | (rw [add_block]; exact Nat.ne_of_lt (Nat.lt_of_lt_of_le (by have := World.block_lt_of_cell? _ _ aG; first | rwa [add_block] at this | exact this) aA.out)) | (show (Addr.add _ _).block ≠ _; rw [add_block]; exact Nat.ne_of_lt (Nat.lt_of_lt_of_le (by have := World.block_lt_of_cell? _ _ aG; first | rwa [add_block] at this | exact this) aA.out)) | (dsimp only; exact Nat.ne_of_lt (Nat.lt_of_lt_of_le (by have := World.block_lt_of_cell? _ _ aG; first | rwa [add_block] at this | exact this) aA.out))) _).trans (hHeld.2.1)))), ((cell_far (p := ⟨aD, _, none⟩) (by first | exact Nat.ne_of_lt (Nat.lt_of_lt_of_le (by have := World.block_lt_of_cell? _ _ aJ; first | rwa [add_block] at this | exact this) aA.out) | (rw [add_block]; exact Nat.ne_of_lt (Nat.lt_of_lt_of_le (by have := World.block_lt_of_cell? _ _ aJ; first | rwa [add_block] at this | exact this) aA.out)) | (show (Addr.add _ _).block ≠ _; rw [add_block]; exact Nat.ne_of_lt (Nat.lt_of_lt_of_le (by have := World.block_lt_of_cell? _ _ aJ; first | rwa [add_block] at this | exact this) aA.out)) | (dsimp only; exact Nat.ne_of_lt (Nat.lt_of_lt_of_le (by have := World.block_lt_of_cell? _ _ aJ; first | rwa [add_block] at this | exact this) aA.out))) _).trans (((cell_far (p := ⟨aD, _, none⟩) (by first | exact Nat.ne_of_lt (Nat.lt_of_lt_of_le (by have := World.block_lt_of_cell? _ _ aJ; first | rwa [add_block] at this | exact this) aA.out) | (rw [add_block]; exact Nat.ne_of_lt (Nat.lt_of_lt_of_le (by have := World.block_lt_of_cell? _ _ aJ; first | rwa [add_block] at this | exact this) aA.out)) | (show (Addr.add _ _).block ≠ _; rw [add_block]; exact Nat.ne_of_lt (Nat.lt_of_lt_of_le (by have := World.block_lt_of_cell? _ _ aJ; first | rwa [add_block] at this | exact this) aA.out)) | (dsimp only; exact Nat.ne_of_lt (Nat.lt_of_lt_of_le (by have := World.block_lt_of_cell? _ _ aJ; first | rwa [add_block] at this | exact this) aA.out))) _).trans (hHeld.2.2.1)))), ((cell_far (p := ⟨aD, _, none⟩) (by first | exact Nat.ne_of_lt (Nat.lt_of_lt_of_le (by have := World.block_lt_of_cell? _ _ aI; first | rwa [add_block] at this | exact this) aA.out) | (rw [add_block]; exact Nat.ne_of_lt (Nat.lt_of_lt_of_le (by have := World.block_lt_of_cell? _ _ aI; first | rwa [add_block] at this | exact this) aA.out)) | (show (Addr.add _ _).block ≠ _; rw [add_block]; exact Nat.ne_of_lt (Nat.lt_of_lt_of_le (by have := World.block_lt_of_cell? _ _ aI; first | rwa [add_block] at this | exact this) aA.out)) | (dsimp only; exact Nat.ne_of_lt (Nat.lt_of_lt_of_le (by have := World.block_lt_of_cell? _ _ aI; first | rwa [add_block] at this | exact this) aA.out))) _).trans (((cell_far (p := ⟨aD, _, none⟩) (by first | exact Nat.ne_of_lt (Nat.lt_of_lt_of_le (by have := World.block_lt_of_cell? _ _ aI; first | rwa [add_block] at this | exact this) aA.out) | (rw [add_block]; exact Nat.ne_of_lt (Nat.lt_of_lt_of_le (by have := World.block_lt_of_cell? _ _ aI; first | rwa [add_block] at this | exact this) aA.out)) | (show (Addr.add _ _).block ≠ _; rw [add_block]; exact Nat.ne_of_lt (Nat.lt_of_lt_of_le (by have := World.block_lt_of_cell? _ _ aI; first | rwa [add_block] at this | exact this) aA.out)) | (dsimp only; exact Nat.ne_of_lt (Nat.lt_of_lt_of_le (by have := World.block_lt_of_cell? _ _ aI; first | rwa [add_block] at this | exact this) aA.out))) _).trans (hHeld.2.2.2.1)))), ((cell_far (p := ⟨aD, _, none⟩) (by first | exact Nat.ne_of_lt (Nat.lt_of_lt_of_le (by have := World.block_lt_of_cell? _ _ aM; first | rwa [add_block] at this | exact this) aA.out) | (rw [add_block]; exact Nat.ne_of_lt (Nat.lt_of_lt_of_le (by have := World.block_lt_of_cell? _ _ aM; first | rwa [add_block] at this | exact this) aA.out)) | (show (Addr.add _ _).block ≠ _; rw [add_block]; exact Nat.ne_of_lt (Nat.lt_of_lt_of_le (by have := World.block_lt_of_cell? _ _ aM; first | rwa [add_block] at this | exact this) aA.out)) | (dsimp only; exact Nat.ne_of_lt (Nat.lt_of_lt_of_le (by have := World.block_lt_of_cell? _ _ aM; first | rwa [add_block] at this | exact this) aA.out))) _).trans (((cell_far (p := ⟨aD, _, none⟩) (by first | exact Nat.ne_of_lt (Nat.lt_of_lt_of_le (by have := World.block_lt_of_cell? _ _ aM; first | rwa [add_block] at this | exact this) aA.out) | (rw [add_block]; exact Nat.ne_of_lt (Nat.lt_of_lt_of_le (by have := World.block_lt_of_cell? _ _ aM; first | rwa [add_block] at this | exact this) aA.out)) | (show (Addr.add _ _).block ≠ _; rw [add_block]; exact Nat.ne_of_lt (Nat.lt_of_lt_of_le (by have := World.block_lt_of_cell? _ _ aM; first | rwa [add_block] at this | exact this) aA.out)) | (dsimp only; exact Nat.ne_of_lt (Nat.lt_of_lt_of_le (by have := World.block_lt_of_cell? _ _ aM; first | rwa [add_block] at this | exact this) aA.out))) _).trans (hHeld.2.2.2.2.1)))), ((cell_far (p := ⟨aD, _, none⟩) (by first | exact Nat.ne_of_lt (Nat.lt_of_lt_of_le (by have := World.block_lt_of_cell? _ _ aK; first | rwa [add_block] at this | exact this) aA.out) | (rw [add_block]; exact Nat.ne_of_lt (Nat.lt_of_lt_of_le (by have := World.block_lt_of_cell? _ _ aK; first | rwa [add_block] at this | exact this) aA.out)) | (show (Addr.add _ _).block ≠ _; rw [add_block]; exact Nat.ne_of_lt (Nat.lt_of_lt_of_le (by have := World.block_lt_of_cell? _ _ aK; first | rwa [add_block] at this | exact this) aA.out)) | (dsimp only; exact Nat.ne_of_lt (Nat.lt_of_lt_of_le (by have := World.block_lt_of_cell? _ _ aK; first | rwa [add_block] at this | exact this) aA.out))) _).trans (((cell_far (p := ⟨aD, _, none⟩) (by first | exact Nat.ne_of_lt (Nat.lt_of_lt_of_le (by have := World.block_lt_of_cell? _ _ aK; first | rwa [add_block] at this | exact this) aA.out) | (rw [add_block]; exact Nat.ne_of_lt (Nat.lt_of_lt_of_le (by have := World.block_lt_of_cell? _ _ aK; first | rwa [add_block] at this | exact this) aA.out)) | (show (Addr.add _ _).block ≠ _; rw [add_block]; exact Nat.ne_of_lt (Nat.lt_of_lt_of_le (by have := World.block_lt_of_cell? _ _ aK; first | rwa [add_block] at this | exact this) aA.out)) | (dsimp only; exact Nat.ne_of_lt (Nat.lt_of_lt_of_le (by have := World.block_lt_of_cell? _ _ aK; first | rwa [add_block] at this | exact this) aA.out))) _).trans (hHeld.2.2.2.2.2))))⟩ (fun hHeld => ?_)
     clear hK K
     refine Ya (Zj HT_.out (by kernel_rfl)) ?_
     obtain ⟨dF, dG, dH, dI⟩ := zq2 aQ.out
     try go_wp2_with (first | ((with_reducible refine Qd (f := 90) rfl ?_); refine zD (some 45) Tryz.func90 _ ((Jn.calls ((Qb l0 aC).f0) (wrap64 (((Qb l0 aC).f1) + (wrap64 (a1 * ((Qb l0 aC).f0))))) 50 true _ eF.out).mono ?_); rintro e fM ⟨rfl, hb⟩; refine ⟨_, rfl, ?_⟩; replace aZ := Qa.mk (Kd.R_below (by (with_reducible repeat (first | apply Kd.R_alloc | apply Kd.R_drewN | apply Kd.R_drew)); exact (Kd.R_mono (Kd.R_far (p := ⟨aD, 1, none⟩) (Kd.R_far (p := ⟨aD, 0, none⟩) (Kd.R_mono aZ.out (fun k_ hk => (⟨hk, hk.2⟩ : _ ∧ k_ ≠ aD))) (fun _ hk => hk.2) (.int .i64 ((Qb l0 aC).f0))) (fun _ hk => hk.2) (.int .i64 (wrap64 (((Qb l0 aC).f1) + (wrap64 (a1 * ((Qb l0 aC).f0))))))) (fun _ h_ => h_.1))) hb); replace aQ := Qa.mk (Je (g := aD) (o := .cells #[.int .i64 ((Qb l0 aC).f0), .int .i64 (wrap64 (((Qb l0 aC).f1) + (wrap64 (a1 * ((Qb l0 aC).f0)))))] 48 (0, 0)) (zk0 aQ.out) hb); replace HB := zX1 bA.out hb; (try clear hb); obtain ⟨dJ, dK, dL, dM⟩ := zq2 aQ.out) | ((with_reducible refine J5 (b := .append) (xs := #[.tmp 48, .tmp 50]) rfl ?_); at_builtin; refine Kd.R_append k48 (w0 := w) w.heap.size rfl (.tmp 48) (.tmp 50) 28 48 (.agg #[(.int .i64 0), (.int .i64 0)]) 16 rfl Tryz.underlying28 Yf rfl (by decide) (by omega) u6 bN (⟨(Qb l0 aC).f0, wrap64 (((Qb l0 aC).f1) + (wrap64 (a1 * ((Qb l0 aC).f0))))⟩ : S48) [.int .i64 ((Qb l0 aC).f0), .int .i64 (wrap64 (((Qb l0 aC).f1) + (wrap64 (a1 * ((Qb l0 aC).f0)))))] (fun k_ => k_ ≠ aD) (fun _ => False) rfl rfl ?aP (fun _ hk => hk.elim) ?aF ?aO ?aB ?aS ?aL ?_; (case aP => exact Z0 _ _ _ (⟨(Qb l0 aC).f0, wrap64 (((Qb l0 aC).f1) + (wrap64 (a1 * ((Qb l0 aC).f0))))⟩ : S48)); (case aB => exact (zG bA.out)); (case aF => exact (fun k_ hk => Kd.freshB (g := aD) (o := .cells #[.int .i64 ((Qb l0 aC).f0), .int .i64 (wrap64 (((Qb l0 aC).f1) + (wrap64 (a1 * ((Qb l0 aC).f0)))))] 48 (0, 0)) (zK aQ.out) k_ hk)); (case aO => exact (zR (Kd.R_mono aZ.out (fun _ hk => hk.2)))); (case aS => exact (Ql (zG bA.out))); (case aL => have := dB.out; omega); intro fD fO ho hb hg hat; rw [← dC.out] at ho; replace aQ := Qa.mk (Vs (g := aD) (o := .cells #[.int .i64 ((Qb l0 aC).f0), .int .i64 (wrap64 (((Qb l0 aC).f1) + (wrap64 (a1 * ((Qb l0 aC).f0)))))] 48 (0, 0)) (zK aQ.out) hg (Kd.R_away aZ.out (fun _ hk => hk.2))); have dD := Qa.mk (ho); replace HB := Qa.mk (hb); clear aZ; clear ho hb hg hat))
     go_roundg k2
     case measure => have := HJ2.out; have := eB.out; omega
     case rel => exact ⟨(dW), (wrap64 (aC + 1)), zF, H', ⟨by have := HJ2.out; have := eB.out; omega⟩, ⟨zR (Kd.R_mono dD.out (fun _ hk => trivial))⟩, ⟨zG bA.out⟩⟩
    exact absurd H (by simp)
   replace c17 := Bool.eq_false_iff.mpr c17
   subst c17
   replace H := (if_neg zFf).symm.trans H
   generalize bW : (([] : List (S48)) : List (S48)) = fE at H
   have bX := Qa.mk bW.symm
   clear bW
   simp only [Option.some.injEq, Prod.mk.injEq] at H
   obtain ⟨rfl, rfl⟩ := H
   try go_wp2
   replace aZ := Qa.mk (Kd.R_drew aZ.out)
   replace HB := Qa.mk (Qp HB.out)
   have bB : 0 ≤ (aC : Int) := zA
   have bC : aC < (l0.length : Int) := zA
   obtain ⟨aN, bY, aT, aU⟩ := Jj bQ.out aC bB bC
   have aG := aU
   have aH := aT
   cases bY
   replace aT := (HB.out.cell (World.block_lt_of_cell? w _ aT)).trans aT
   replace aU := (HB.out.cell (World.block_lt_of_cell? w _ aU)).trans aU
   replace bB := eq_true bB
   replace bC := eq_true bC
   have bD : 0 ≤ (aC : Int) := zA
   have bE : aC < (l0.length : Int) := zA
   obtain ⟨bO, bZ, aV, aW⟩ := Jj bQ.out aC bD bE
   have aI := aW
   have aJ := aV
   obtain rfl : aN = bO := (by injection bZ)
   replace aV := (HB.out.cell (World.block_lt_of_cell? w _ aV)).trans aV
   replace aW := (HB.out.cell (World.block_lt_of_cell? w _ aW)).trans aW
   replace bD := eq_true bD
   replace bE := eq_true bE
   have bF : 0 ≤ (aC : Int) := zA
   have bG : aC < (l0.length : Int) := zA
   obtain ⟨bP, cB, aX, aY⟩ := Jj bQ.out aC bF bG
   have aK := aY
   have aM := aX
   obtain rfl : aN = bP := (by injection cB)
   replace aX := (HB.out.cell (World.block_lt_of_cell? w _ aX)).trans aX
   replace aY := (HB.out.cell (World.block_lt_of_cell? w _ aY)).trans aY
   replace bF := eq_true bF
   replace bG := eq_true bG
   refine Zy (n := 21) (S := fun w' => w'.cell? (aN.add ((aC).toNat * 2)) = some (.int .i64 ((Qb l0 aC).f0)) ∧ w'.cell? ⟨(aN.add ((aC).toNat * 2)).block, (aN.add ((aC).toNat * 2)).off + 1, none⟩ = some (.int .i64 ((Qb l0 aC).f1)) ∧ w'.cell? (aN.add ((aC).toNat * 2)) = some (.int .i64 ((Qb l0 aC).f0)) ∧ w'.cell? ⟨(aN.add ((aC).toNat * 2)).block, (aN.add ((aC).toNat * 2)).off + 1, none⟩ = some (.int .i64 ((Qb l0 aC).f1)) ∧ w'.cell? (aN.add ((aC).toNat * 2)) = some (.int .i64 ((Qb l0 aC).f0)) ∧ w'.cell? ⟨(aN.add ((aC).toNat * 2)).block, (aN.add ((aC).toNat * 2)).off + 1, none⟩ = some (.int .i64 ((Qb l0 aC).f1))) (ds := []) #[false, false, false, false, false, false, false, false, false, false, false, false, false, false, false, false, false, false, false, false, false] (by kernel_rfl) rfl rfl ⟨((HB.out.cell (World.block_lt_of_cell? w _ aH)).trans aH), ((HB.out.cell (World.block_lt_of_cell? w _ aG)).trans aG), ((HB.out.cell (World.block_lt_of_cell? w _ aJ)).trans aJ), ((HB.out.cell (World.block_lt_of_cell? w _ aI)).trans aI), ((HB.out.cell (World.block_lt_of_cell? w _ aM)).trans aM), ((HB.out.cell (World.block_lt_of_cell? w _ aK)).trans aK)⟩ (fun hHeld => ?_); refine Jr Qm.tab7 Qm.bits7 (fun HT_ HW_ => ?_)
   generalize wr.drew = fP at aZ HB aT aU aV aW aX aY hHeld ⊢
   refine zP 0 (some 25) rfl rfl ?_
   refine zP 1 (some 26) rfl rfl ?_
   refine zP 2 (some 27) rfl rfl ?_
   refine zP 3 (some 28) rfl rfl ?_
   refine zP 5 (some 30) rfl rfl ?_
   refine zP 6 (some 31) rfl rfl ?_
   refine zP 7 (some 32) rfl rfl ?_
   refine zP 8 (some 33) rfl rfl ?_
   refine zP 10 (some 35) rfl rfl ?_
   refine zP 11 (some 36) rfl rfl ?_
   refine zP 12 (some 37) rfl rfl ?_
   refine zP 13 (some 38) rfl rfl ?_
   refine zP 14 (some 39) rfl rfl ?_
   refine zY6 4 (some 29) rfl rfl hHeld ?_
   refine zY6 9 (some 34) rfl rfl hHeld ?_
   refine zY6 15 (some 40) rfl rfl hHeld ?_
   refine zP 16 (some 41) rfl rfl ?_
   refine zP 17 (some 42) rfl rfl ?_
   refine zP 18 (some 43) rfl rfl ?_
   refine zU 19 (some 8) rfl rfl (fun K hK => ?_)
   refine jCq ?hg (N := 8) ?hd (cs := #[.int .i64 0, .int .i64 0]) (t := 48) ?hr ?_; (case hd => rfl); (case hg => rfl); (case hr => first | (go_simp; done) | (go_simp; rfl))
   intro aD hg eP hbox hb
   replace aZ := Qa.mk (Kd.R_below (Kd.R_elderB (zR aZ.out) aD (Nat.le_of_eq hg.symm)) hb)
   have aQ := Qa.mk (hbox)
   have aA := zS hg
   have bA := zS hg
   replace HB := zX hb
   clear hb hbox hg
   refine hK.out _ _ ⟨((HB.out.cell (World.block_lt_of_cell? w _ aH)).trans aH), ((HB.out.cell (World.block_lt_of_cell? w _ aG)).trans aG), ((HB.out.cell (World.block_lt_of_cell? w _ aJ)).trans aJ), ((HB.out.cell (World.block_lt_of_cell? w _ aI)).trans aI), ((HB.out.cell (World.block_lt_of_cell? w _ aM)).trans aM), ((HB.out.cell (World.block_lt_of_cell? w _ aK)).trans aK)⟩ (fun hHeld => ?_)
   clear hK K
   refine zN ?_
   refine zU 20 none rfl rfl (fun K hK => ?_)
   have fF : eP.cell? ⟨aD, 0, none⟩ = some (.int .i64 0) := (Qn aQ.out 0).trans rfl
   have eQ := Qy aQ.out 0
   have fG : eP.cell? ⟨aD, 1, none⟩ = some (.int .i64 0) := (Qn aQ.out 1).trans rfl
   have eU := Qy aQ.out 1
   refine Vi (w1 := ?_) (by rfl) rfl ?_ ?_
   rotate_left
   ·go_simp
    rfl
   refine hK.out _ _ ⟨((cell_far (p := ⟨aD, _, none⟩) (by first | exact Nat.ne_of_lt (Nat.lt_of_lt_of_le (by have := World.block_lt_of_cell? _ _ aH; first | rwa [add_block] at this | exact this) aA.out) | (rw [add_block]; exact Nat.ne_of_lt (Nat.lt_of_lt_of_le (by have := World.block_lt_of_cell? _ _ aH; first | rwa [add_block] at this | exact this) aA.out)) | (show (Addr.add _ _).block ≠ _; rw [add_block]; exact Nat.ne_of_lt (Nat.lt_of_lt_of_le (by have := World.block_lt_of_cell? _ _ aH; first | rwa [add_block] at this | exact this) aA.out)) | (dsimp only; exact Nat.ne_of_lt (Nat.lt_of_lt_of_le (by have := World.block_lt_of_cell? _ _ aH; first | rwa [add_block] at this | exact this) aA.out))) _).trans (((cell_far (p := ⟨aD, _, none⟩) (by first | exact Nat.ne_of_lt (Nat.lt_of_lt_of_le (by have := World.block_lt_of_cell? _ _ aH; first | rwa [add_block] at this | exact this) aA.out) | (rw [add_block]; exact Nat.ne_of_lt (Nat.lt_of_lt_of_le (by have := World.block_lt_of_cell? _ _ aH; first | rwa [add_block] at this | exact this) aA.out)) | (show (Addr.add _ _).block ≠ _; rw [add_block]; exact Nat.ne_of_lt (Nat.lt_of_lt_of_le (by have := World.block_lt_of_cell? _ _ aH; first | rwa [add_block] at this | exact this) aA.out)) | (dsimp only; exact Nat.ne_of_lt (Nat.lt_of_lt_of_le (by have := World.block_lt_of_cell? _ _ aH; first | rwa [add_block] at this | exact this) aA.out))) _).trans (hHeld.1)))), ((cell_far (p := ⟨aD, _, none⟩) (by first | exact Nat.ne_of_lt (Nat.lt_of_lt_of_le (by have := World.block_lt_of_cell? _ _ aG; first | rwa [add_block] at this | exact this) aA.out) | (rw [add_block]; exact Nat.ne_of_lt (Nat.lt_of_lt_of_le (by have := World.block_lt_of_cell? _ _ aG; first | rwa [add_block] at this | exact this) aA.out)) | (show (Addr.add _ _).block ≠ _; rw [add_block]; exact Nat.ne_of_lt (Nat.lt_of_lt_of_le (by have := World.block_lt_of_cell? _ _ aG; first | rwa [add_block] at this | exact this) aA.out)) | (dsimp only; exact Nat.ne_of_lt (Nat.lt_of_lt_of_le (by have := World.block_lt_of_cell? _ _ aG; first | rwa [add_block] at this | exact this) aA.out))) _).trans (((cell_far (p := ⟨aD, _, none⟩) (by first | exact Nat.ne_of_lt (Nat.lt_of_lt_of_le (by have := World.block_lt_of_cell? _ _ aG; first | rwa [add_block] at this | exact this) aA.out) | (rw [add_block]; exact Nat.ne_of_lt (Nat.lt_of_lt_of_le (by have := World.block_lt_of_cell? _ _ aG; first | rwa [add_block] at this | exact this) aA.out)) | (show (Addr.add _ _).block ≠ _; rw [add_block]; exact Nat.ne_of_lt (Nat.lt_of_lt_of_le (by have := World.block_lt_of_cell? _ _ aG; first | rwa [add_block] at this | exact this) aA.out)) | (dsimp only; exact Nat.ne_of_lt (Nat.lt_of_lt_of_le (by have := World.block_lt_of_cell? _ _ aG; first | rwa [add_block] at this | exact this) aA.out))) _).trans (hHeld.2.1)))), ((cell_far (p := ⟨aD, _, none⟩) (by first | exact Nat.ne_of_lt (Nat.lt_of_lt_of_le (by have := World.block_lt_of_cell? _ _ aJ; first | rwa [add_block] at this | exact this) aA.out) | (rw [add_block]; exact Nat.ne_of_lt (Nat.lt_of_lt_of_le (by have := World.block_lt_of_cell? _ _ aJ; first | rwa [add_block] at this | exact this) aA.out)) | (show (Addr.add _ _).block ≠ _; rw [add_block]; exact Nat.ne_of_lt (Nat.lt_of_lt_of_le (by have := World.block_lt_of_cell? _ _ aJ; first | rwa [add_block] at this | exact this) aA.out)) | (dsimp only; exact Nat.ne_of_lt (Nat.lt_of_lt_of_le (by have := World.block_lt_of_cell? _ _ aJ; first | rwa [add_block] at this | exact this) aA.out))) _).trans (((cell_far (p := ⟨aD, _, none⟩) (by first | exact Nat.ne_of_lt (Nat.lt_of_lt_of_le (by have := World.block_lt_of_cell? _ _ aJ; first | rwa [add_block] at this | exact this) aA.out) | (rw [add_block]; exact Nat.ne_of_lt (Nat.lt_of_lt_of_le (by have := World.block_lt_of_cell? _ _ aJ; first | rwa [add_block] at this | exact this) aA.out)) | (show (Addr.add _ _).block ≠ _; rw [add_block]; exact Nat.ne_of_lt (Nat.lt_of_lt_of_le (by have := World.block_lt_of_cell? _ _ aJ; first | rwa [add_block] at this | exact this) aA.out)) | (dsimp only; exact Nat.ne_of_lt (Nat.lt_of_lt_of_le (by have := World.block_lt_of_cell? _ _ aJ; first | rwa [add_block] at this | exact this) aA.out))) _).trans (hHeld.2.2.1)))), ((cell_far (p := ⟨aD, _, none⟩) (by first | exact Nat.ne_of_lt (Nat.lt_of_lt_of_le (by have := World.block_lt_of_cell? _ _ aI; first | rwa [add_block] at this | exact this) aA.out) | (rw [add_block]; exact Nat.ne_of_lt (Nat.lt_of_lt_of_le (by have := World.block_lt_of_cell? _ _ aI; first | rwa [add_block] at this | exact this) aA.out)) | (show (Addr.add _ _).block ≠ _; rw [add_block]; exact Nat.ne_of_lt (Nat.lt_of_lt_of_le (by have := World.block_lt_of_cell? _ _ aI; first | rwa [add_block] at this | exact this) aA.out)) | (dsimp only; exact Nat.ne_of_lt (Nat.lt_of_lt_of_le (by have := World.block_lt_of_cell? _ _ aI; first | rwa [add_block] at this | exact this) aA.out))) _).trans (((cell_far (p := ⟨aD, _, none⟩) (by first | exact Nat.ne_of_lt (Nat.lt_of_lt_of_le (by have := World.block_lt_of_cell? _ _ aI; first | rwa [add_block] at this | exact this) aA.out) | (rw [add_block]; exact Nat.ne_of_lt (Nat.lt_of_lt_of_le (by have := World.block_lt_of_cell? _ _ aI; first | rwa [add_block] at this | exact this) aA.out)) | (show (Addr.add _ _).block ≠ _; rw [add_block]; exact Nat.ne_of_lt (Nat.lt_of_lt_of_le (by have := World.block_lt_of_cell? _ _ aI; first | rwa [add_block] at this | exact this) aA.out)) | (dsimp only; exact Nat.ne_of_lt (Nat.lt_of_lt_of_le (by have := World.block_lt_of_cell? _ _ aI; first | rwa [add_block] at this | exact this) aA.out))) _).trans (hHeld.2.2.2.1)))), ((cell_far (p := ⟨aD, _, none⟩) (by first | exact Nat.ne_of_lt (Nat.lt_of_lt_of_le (by have := World.block_lt_of_cell? _ _ aM; first | rwa [add_block] at this | exact this) aA.out) | (rw [add_block]; exact Nat.ne_of_lt (Nat.lt_of_lt_of_le (by have := World.block_lt_of_cell? _ _ aM; first | rwa [add_block] at this | exact this) aA.out)) | (show (Addr.add _ _).block ≠ _; rw [add_block]; exact Nat.ne_of_lt (Nat.lt_of_lt_of_le (by have := World.block_lt_of_cell? _ _ aM; first | rwa [add_block] at this | exact this) aA.out)) | (dsimp only; exact Nat.ne_of_lt (Nat.lt_of_lt_of_le (by have := World.block_lt_of_cell? _ _ aM; first | rwa [add_block] at this | exact this) aA.out))) _).trans (((cell_far (p := ⟨aD, _, none⟩) (by first | exact Nat.ne_of_lt (Nat.lt_of_lt_of_le (by have := World.block_lt_of_cell? _ _ aM; first | rwa [add_block] at this | exact this) aA.out) | (rw [add_block]; exact Nat.ne_of_lt (Nat.lt_of_lt_of_le (by have := World.block_lt_of_cell? _ _ aM; first | rwa [add_block] at this | exact this) aA.out)) | (show (Addr.add _ _).block ≠ _; rw [add_block]; exact Nat.ne_of_lt (Nat.lt_of_lt_of_le (by have := World.block_lt_of_cell? _ _ aM; first | rwa [add_block] at this | exact this) aA.out)) | (dsimp only; exact Nat.ne_of_lt (Nat.lt_of_lt_of_le (by have := World.block_lt_of_cell? _ _ aM; first | rwa [add_block] at this | exact this) aA.out))) _).trans (hHeld.2.2.2.2.1)))), ((cell_far (p := ⟨aD, _, none⟩) (by first | exact Nat.ne_of_lt (Nat.lt_of_lt_of_le (by have := World.block_lt_of_cell? _ _ aK; first | rwa [add_block] at this | exact this) aA.out) | (rw [add_block]; exact Nat.ne_of_lt (Nat.lt_of_lt_of_le (by have := World.block_lt_of_cell? _ _ aK; first | rwa [add_block] at this | exact this) aA.out)) | (show (Addr.add _ _).block ≠ _; rw [add_block]; exact Nat.ne_of_lt (Nat.lt_of_lt_of_le (by have := World.block_lt_of_cell? _ _ aK; first | rwa [add_block] at this | exact this) aA.out)) | (dsimp only; exact Nat.ne_of_lt (Nat.lt_of_lt_of_le (by have := World.block_lt_of_cell? _ _ aK; first | rwa [add_block] at this | exact this) aA.out))) _).trans (((cell_far (p := ⟨aD, _, none⟩) (by first | exact Nat.ne_of_lt (Nat.lt_of_lt_of_le (by have := World.block_lt_of_cell? _ _ aK; first | rwa [add_block] at this | exact this) aA.out) | (rw [add_block]; exact Nat.ne_of_lt (Nat.lt_of_lt_of_le (by have := World.block_lt_of_cell? _ _ aK; first | rwa [add_block] at this | exact this) aA.out)) | (show (Addr.add _ _).block ≠ _; rw [add_block]; exact Nat.ne_of_lt (Nat.lt_of_lt_of_le (by have := World.block_lt_of_cell? _ _ aK; first | rwa [add_block] at this | exact this) aA.out)) | (dsimp only; exact Nat.ne_of_lt (Nat.lt_of_lt_of_le (by have := World.block_lt_of_cell? _ _ aK; first | rwa [add_block] at this | exact this) aA.out))) _).trans (hHeld.2.2.2.2.2))))⟩ (fun hHeld => ?_)
   clear hK K
   refine Ya (Zj HT_.out (by kernel_rfl)) ?_
   obtain ⟨dN, dO, dP, dQ⟩ := zq2 aQ.out
   try go_wp2_with (first | ((with_reducible refine Qd (f := 90) rfl ?_); refine zD (some 45) Tryz.func90 _ ((Jn.calls ((Qb l0 aC).f0) (wrap64 (((Qb l0 aC).f1) + (wrap64 (a1 * ((Qb l0 aC).f0))))) 50 false _ eF.out).mono ?_); rintro e w32 ⟨rfl, hb⟩; refine ⟨_, rfl, ?_⟩; replace aZ := Qa.mk (Kd.R_below (by (with_reducible repeat (first | apply Kd.R_alloc | apply Kd.R_drewN | apply Kd.R_drew)); exact (Kd.R_mono (Kd.R_far (p := ⟨aD, 1, none⟩) (Kd.R_far (p := ⟨aD, 0, none⟩) (Kd.R_mono aZ.out (fun k_ hk => (⟨hk, hk.2⟩ : _ ∧ k_ ≠ aD))) (fun _ hk => hk.2) (.int .i64 ((Qb l0 aC).f0))) (fun _ hk => hk.2) (.int .i64 (wrap64 (((Qb l0 aC).f1) + (wrap64 (a1 * ((Qb l0 aC).f0))))))) (fun _ h_ => h_.1))) hb); replace aQ := Qa.mk (Je (g := aD) (o := .cells #[.int .i64 ((Qb l0 aC).f0), .int .i64 (wrap64 (((Qb l0 aC).f1) + (wrap64 (a1 * ((Qb l0 aC).f0)))))] 48 (0, 0)) (zk0 aQ.out) hb); replace HB := zX1 bA.out hb; (try clear hb)) | ((with_reducible refine Qo (N := 47) rfl ?_); refine Kd.R_lit k48 _ 48 ?hg (N := 47) ?hd (xs := ([] : List (S48))) (inner := []) (ok := fun _ => True) (okp := fun _ => True) ?hr ?hp (fun _ hk => hk) trivial (Below.refl _ _) (Nat.le_refl _) (by simp) ?_; (case hd => rfl); (case hg => rfl); (case hr => first | (go_simp; done) | (go_simp; rfl)); (case hp => exact (J6.none _ _)); intro fH fQ bI hb hg_ hnew_; clear hg_ hnew_; (first | rw [← bX.out] at bI | (simp only [Int.reduceToNat] at bI; rw [← bX.out] at bI)); have dE := Qa.mk (Kd.R_lower (Kd.R_newB (Kd.R_new' bI (Kd.R_lt (zR aZ.out))) (g := aD) (o := .cells #[.int .i64 ((Qb l0 aC).f0), .int .i64 (wrap64 (((Qb l0 aC).f1) + (wrap64 (a1 * ((Qb l0 aC).f0)))))] 48 (0, 0)) (zK aQ.out)) (Ql (zG bA.out))); replace aZ := Qa.mk (Kd.R_elder' (zR aZ.out) (Kd.R_base bI) hb); replace aQ := zV aQ.out hb; replace HB := zX1 bA.out hb; clear hb bI))
   go_ret2
   exact ⟨_, zE, zR (Kd.R_mono dE.out (fun _ hk => trivial)), zG bA.out⟩
  exact absurd H (by simp)
 simp only [Option.some.injEq, Prod.mk.injEq] at H
 obtain ⟨rfl, rfl⟩ := H
 go_wp2
 go_ret2
 exact ⟨_, zE, zR aZ.out, zB⟩
def Xj.f (aC : List Int) (aD : Int) (aG : Int) (a1 : Int) : Option (Bool × Int × Int) := (Q3.f aC aD aG a1).bind fun aA => (some ((aA.1 == 0), aA.2.1, aA.2.2))
theorem jGh {p q : Prop} (g : p) (h : p → q := by intro zg_; repeat (first | (with_reducible first | exact zg_ | apply Qe.alloc | apply Qe.drewN | apply Qe.drew | apply Qe.set_1 | apply Qe.set_2) | exact zg_)) : q := h g
theorem jH5 {p q p0 : Prop} (g : p) (g0 : p0) (h : p → p0 → q := by intro zg_ aA; repeat (first | (with_reducible first | exact zg_ | apply Qw | apply Qs | apply Qp | refine Q5 ?_ aA) | exact zg_)) : q := h g g0
theorem jGf {p q : Prop} (g : p) (h : p → q := by intro zg_; repeat (first | (with_reducible first | exact zg_ | apply Qq.set_ | apply Xl | apply Xa | apply Xm) | exact zg_)) : q := h g
set_option maxHeartbeats 8000000 in
set_option maxRecDepth 100000 in
theorem Xj.calls (g : Nat) (aA : List Int) (aC : Int) (aD : Int) (a1 : Int) (r1 : Bool) (r2 : Int) (r3 : Int) (w0 w : World) (hI : Qe w0 w g aA aC aD) (hB : Below w0.heap.size w0 w) (h : Xj.f aA aC aD a1 = some (r1, r2, r3)) :
  Calls Tryz.prog 53 #[.pointer (some ⟨g, 0, none⟩), .int .i64 a1] w fun e w' => e = .returned (.bool r1) ∧ Qe w0 w' g aA r2 r3 ∧ Below w0.heap.size w0 w' ∧ Qq w w' g none := by
 have HI0 := Qa.mk hI
 have HK := Qa.mk (Qq.refl w g none)
 have HL := Qa.mk hB.size
 clear hI
 have HW0 := Qa.mk hB.size
 have HB := Qa.mk hB
 clear hB
 have H := h
 unfold Xj.f at H
 clear h
 obtain ⟨⟨aG, aH, aI⟩, A3, H⟩ := zO H
 replace H : (some ((aG == 0), aH, aI)) = some (r1, r2, r3) := H
 simp only [Option.some.injEq, Prod.mk.injEq] at H
 obtain ⟨rfl, rfl, rfl⟩ := H
 go_enter Tryz.func53, Tryz.ntmps53
 go_wp2_with (first | ((with_reducible refine Qd (f := 51) rfl ?_); refine zD (some 7) Tryz.func51 _ ((Q3.calls g aA aC aD a1 aG aH aI w0 _ ?aJ ?aK A3.out).mono ?_); (case aJ => exact (jGh HI0.out)); (case aK => exact (jH5 HB.out (Qe.ge HI0.out))); rintro e w4 ⟨rfl, hi, hb, hk⟩; refine ⟨_, rfl, ?_⟩; replace HK := Qa.mk (Qq.trans (jGf HK.out) hk (.inl rfl)); replace HI0 := Qa.mk (hi); replace HB := Qa.mk (hb); (try clear hb); (try clear hk); (try clear hi)))
 go_ret
 exact ⟨zE, (jGh HI0.out), zG (Qe.ge HI0.out), (jGf HK.out)⟩
def Jt.f (k : Nat) (l0 : List Int) : Option ((List (S48)) × (List (S48))) := (Jm.f k l0).bind fun aC => ((J4.f k aC.1 aC.2.1 aC.2.2).bind fun aA => ((Xj.f aC.1 aA.2.1 aA.2.2 2).bind fun aD => (if aD.1 = true then ((some (([] : List (S48)) : List (S48))).bind fun aG => (if aG.length + aA.1.length < 8796093022208 then (some (aA.1, (aG ++ aA.1))) else (none))) else ((J4.f k aC.1 aD.2.1 aD.2.2).bind fun aH => (some (aA.1, aH.1))))))
theorem jFb {p q : Prop} (g : p) (h : p → q := by intro zg_; repeat (first | (with_reducible first | exact zg_ | apply Qw | apply Qs | apply Qp) | exact zg_)) : q := h g
theorem Y7 {p q : Prop} (g : p) (h : p → q := by intro zg_; repeat (first | (with_reducible first | exact zg_ | apply Qe.alloc | apply Qe.drewN | apply Qe.drew | apply Qe.set_1 | apply Qe.set_2) | exact zg_)) : q := h g
theorem Us {p q p0 : Prop} (g : p) (g0 : p0) (h : p → p0 → q := by intro zg_ aA; repeat (first | (with_reducible first | exact zg_ | apply Qw | apply Qs | apply Qp | refine Q5 ?_ aA) | exact zg_)) : q := h g g0
set_option maxHeartbeats 8000000 in
set_option maxRecDepth 100000 in
theorem Jt.calls (k : Nat) (A0 : Option Addr) (c0 : Nat) (l0 : List Int) (r1 : List (S48)) (r2 : List (S48)) (w : World) (hr0 : Kd.C (Kd.int .u8) w A0 l0.length l0) (hc0 : l0.length ≤ c0) (h : Jt.f k l0 = some (r1, r2)) :
  Calls Tryz.prog 37 #[.slice A0 l0.length c0] w fun e w' => ∃ bF bG : Value, e = .returned (.tuple #[bF, bG]) ∧ Kd.R k48 48 w' w.heap.size (fun k_ => some k_ ≠ (bG : Value).ownBlock) bF r1 ∧ Kd.R k48 48 w' w.heap.size (fun k_ => some k_ ≠ (bF : Value).ownBlock) bG r2 ∧ Below w.heap.size w w' := by
 have bQ := Qa.mk hr0
 have bR := Qa.mk hc0
 clear hr0 hc0
 have HB := Qa.mk (Below.refl w.heap.size w)
 have H := h
 unfold Jt.f at H
 clear h
 obtain ⟨⟨aH, aU, aV⟩, A2, H⟩ := zO H
 dsimp only at H
 obtain ⟨⟨aJ, aK, aM⟩, A3, H⟩ := zO H
 dsimp only at H
 obtain ⟨⟨bH, aW, aX⟩, A4, H⟩ := zO H
 dsimp only at H
 by_cases c5 : bH = true
 ·subst c5
  replace H := (if_pos rfl).symm.trans H
  obtain ⟨bA, aY, H⟩ := zs H
  replace H := Z8 H
  rcases H with ⟨c6, H⟩ | ⟨c6, H⟩
  ·have bI := Qa.mk c6
   clear c6
   generalize aZ : (bA ++ aJ : List (S48)) = bW at H
   have bB := Qa.mk aZ.symm
   clear aZ
   simp only [Option.some.injEq, Prod.mk.injEq] at H
   obtain ⟨rfl, rfl⟩ := H
   go_enter Tryz.func37, Tryz.ntmps37
   go_wp2_with (first | ((with_reducible refine Qd (f := 49) rfl ?_); refine zD (some 7) Tryz.func49 #[.slice A0 l0.length c0] ((Jm.calls k _ _ l0 aH aU aV w _ ?aD ?aG ?aQ A2.out).mono ?_); (case aD => exact (jFb HB.out)); (case aG => exact bQ.out); (case aQ => exact bR.out); rintro e w7 ⟨aI, rfl, hi, hb, hb2⟩; refine ⟨_, rfl, ?_⟩; have aA := Qa.mk (hi); replace HB := Qa.mk (hb); (try clear hb); (try clear hb2); (try clear hi)) | ((with_reducible refine Qd (f := 54) rfl ?_); refine zD (some 9) Tryz.func54 _ ((J4.calls k aI aH aU aV aJ aK aM w _ ?aD ?aG A3.out).mono ?_); (case aD => exact (Y7 aA.out)); (case aG => exact (Us HB.out (Qe.ge aA.out))); rintro e w8 ⟨bJ, rfl, ho0, hi, hb, hk⟩; refine ⟨_, rfl, ?_⟩; have aC := Qa.mk (Kd.R_lower ho0 (Ql (zG (Qe.ge aA.out)))); replace aA := Qa.mk (hi); replace HB := Qa.mk (hb); (try clear hb); (try clear hk); (try clear hi); (try clear ho0)) | ((with_reducible refine Qd (f := 53) rfl ?_); refine zD (some 11) Tryz.func53 _ ((Xj.calls aI aH aK aM 2 true aW aX w _ ?aD ?aG A4.out).mono ?_); (case aD => exact (Y7 aA.out)); (case aG => exact (Us HB.out (Qe.ge aA.out))); rintro e w9 ⟨rfl, hi, hb, hk⟩; refine ⟨_, rfl, ?_⟩; replace aC := Qa.mk (Kd.R_mono (Kd.R_keep (Qe.apart (show Qe w _ aI aH aK aM from (Y7 aA.out)) (zR aC.out) (by decide)) hk (fun _ h => h.2)) (fun _ h => h.1)); replace aA := Qa.mk (hi); replace HB := Qa.mk (hb); (try clear hb); (try clear hk); (try clear hi)) | ((with_reducible refine Qo (N := 13) rfl ?_); refine Kd.R_lit k48 _ 48 ?hg (N := 13) ?hd (xs := ([] : List (S48))) (inner := []) (ok := fun _ => True) (okp := fun _ => True) ?hr ?hp (fun _ hk => hk) trivial (Below.refl _ _) (Nat.le_refl _) (by simp) ?_; (case hd => rfl); (case hg => rfl); (case hr => first | (go_simp; done) | (go_simp; rfl)); (case hp => exact (J6.none _ _)); intro bK cB aN hb hg_ hnew_; clear hg_ hnew_; (first | rw [← aY.out] at aN | (simp only [Int.reduceToNat] at aN; rw [← aY.out] at aN)); have bS := Qa.mk (Kd.R_elder' (zR aC.out) (Kd.R_base aN) hb); have bT := Qa.mk (Kd.R_lower (Kd.R_new' aN (Kd.R_lt (zR aC.out))) (Ql (zG (Qe.ge aA.out)))); have bU := Qa.mk (Qe.below (Y7 aA.out) hb); have bV := Qa.mk (Qk (zG (Qe.ge aA.out)) hb); clear aC; clear aA; clear HB; have aC := bS; have aT := bT; have aA := bU; have HB := bV; clear bS bT bU bV; clear hb aN; obtain ⟨bL, bM, bN⟩ := Kd.R_slice aC.out; subst bN) | ((with_reducible refine J5 (b := .append) (xs := #[.tmp 13, .tmp 14]) rfl ?_); at_builtin; refine Kd.R_append_rows k48 (w0 := w) w.heap.size rfl (.tmp 13) (.tmp 14) 28 48 (.agg #[(.int .i64 0), (.int .i64 0)]) 16 rfl Tryz.underlying28 Yf rfl (by decide) (by omega) bK bA aJ _ _ _ (fun k_ => some k_ ≠ (.slice bL aJ.length bM : Value).ownBlock) (fun _ => False) rfl rfl ?aO ?aR (fun _ _ h => h) (fun _ h => h.elim) ?aF ?aB ?aS ?aL ?_; (case aR => repeat (first | exact (Kd.R_reads' aC.out).2.2 | (with_reducible refine Kd.C_alloc ?_ _) | (with_reducible refine Kd.C_drewN ?_ _) | (with_reducible refine Kd.C_drew ?_))); (case aB => exact (zG (Qe.ge aA.out))); (case aF => exact (fun k_ hk => Kd.fresh' (Kd.R_lt (zR aC.out)) k_ hk)); (case aO => exact (zR (Kd.R_mono aT.out (fun _ hk => hk.2)))); (case aS => exact (Ql (zG (Qe.ge aA.out)))); (case aL => have := bI.out; omega); intro bX cK ho hb hg hat; rw [← bB.out] at ho; replace aA := Qa.mk (Qe.grown (Y7 aA.out) hg (Qe.own_ne aA.out aT.out (by decide))); replace aC := Qa.mk (Kd.R_after (ok := (fun _ => True)) (zR aC.out) hg hat); have bC := Qa.mk (ho); replace HB := Qa.mk (hb); clear aT; clear ho hb hg hat))
   go_ret2
   exact ⟨_, _, zE, zR (Kd.R_mono aC.out (fun _ hk => hk.2)), zR bC.out, zG (Qe.ge aA.out)⟩
  exact absurd H (by simp)
 replace c5 := Bool.eq_false_iff.mpr c5
 subst c5
 replace H := (if_neg zFf).symm.trans H
 obtain ⟨⟨bD, bO, bP⟩, bY, H⟩ := zO H
 replace H : (some (aJ, bD)) = some (r1, r2) := H
 simp only [Option.some.injEq, Prod.mk.injEq] at H
 obtain ⟨rfl, rfl⟩ := H
 go_enter Tryz.func37, Tryz.ntmps37
 go_wp2_with (first | ((with_reducible refine Qd (f := 49) rfl ?_); refine zD (some 7) Tryz.func49 #[.slice A0 l0.length c0] ((Jm.calls k _ _ l0 aH aU aV w _ ?aD ?aG ?aQ A2.out).mono ?_); (case aD => exact (jFb HB.out)); (case aG => exact bQ.out); (case aQ => exact bR.out); rintro e cO ⟨aI, rfl, hi, hb, hb2⟩; refine ⟨_, rfl, ?_⟩; have aA := Qa.mk (hi); replace HB := Qa.mk (hb); (try clear hb); (try clear hb2); (try clear hi)) | ((with_reducible refine Qd (f := 54) rfl ?_); refine zD (some 9) Tryz.func54 _ ((J4.calls k aI aH aU aV aJ aK aM w _ ?aD ?aG A3.out).mono ?_); (case aD => exact (Y7 aA.out)); (case aG => exact (Us HB.out (Qe.ge aA.out))); rintro e w16 ⟨bJ, rfl, ho0, hi, hb, hk⟩; refine ⟨_, rfl, ?_⟩; have aC := Qa.mk (Kd.R_lower ho0 (Ql (zG (Qe.ge aA.out)))); replace aA := Qa.mk (hi); replace HB := Qa.mk (hb); (try clear hb); (try clear hk); (try clear hi); (try clear ho0)) | ((with_reducible refine Qd (f := 53) rfl ?_); refine zD (some 11) Tryz.func53 _ ((Xj.calls aI aH aK aM 2 false aW aX w _ ?aD ?aG A4.out).mono ?_); (case aD => exact (Y7 aA.out)); (case aG => exact (Us HB.out (Qe.ge aA.out))); rintro e cZ ⟨rfl, hi, hb, hk⟩; refine ⟨_, rfl, ?_⟩; replace aC := Qa.mk (Kd.R_mono (Kd.R_keep (Qe.apart (show Qe w _ aI aH aK aM from (Y7 aA.out)) (zR aC.out) (by decide)) hk (fun _ h => h.2)) (fun _ h => h.1)); replace aA := Qa.mk (hi); replace HB := Qa.mk (hb); (try clear hb); (try clear hk); (try clear hi)) | ((with_reducible refine Qd (f := 54) rfl ?_); refine zD (some 18) Tryz.func54 _ ((J4.calls k aI aH aW aX bD bO bP w _ ?aD ?aG bY.out).mono ?_); (case aD => exact (Y7 aA.out)); (case aG => exact (Us HB.out (Qe.ge aA.out))); rintro e dA ⟨bZ, rfl, ho0, hi, hb, hk⟩; refine ⟨_, rfl, ?_⟩; have bE := Qa.mk (Kd.R_lower (Kd.R_new' ho0 (Kd.R_lt (zR aC.out))) (Ql (zG (Qe.ge aA.out)))); replace aC := Qa.mk (Kd.R_mono (Kd.R_told (Kd.R_oldK (Qe.apart (show Qe w _ aI aH aW aX from (Y7 aA.out)) (zR aC.out) (by decide)) hk) (Kd.R_base ho0)) (fun _ h_ => h_.1)); replace aA := Qa.mk (hi); replace HB := Qa.mk (hb); (try clear hb); (try clear hk); (try clear hi); (try clear ho0)))
 go_ret2
 exact ⟨_, _, zE, zR (Kd.R_mono aC.out (fun _ hk => hk.2)), zR (Kd.R_mono bE.out (fun _ hk => hk.2)), zG (Qe.ge aA.out)⟩
def Zw.f (aA : Int) (aC : Int) (aD : Int) (aG : Int) (aH : Int) (aI : Int) : Option (Int) := (Jn.f aA aC 1000).bind fun aJ => (if aJ = true then ((Jn.f aD aG 1000).bind fun aK => (if aK = true then ((Jn.f aH aI 1000).bind fun aM => (if aM = true then ((Ze.f aA aC aD aG aH aI).bind fun aN => (some aN)) else (some 0))) else (some 0))) else (some 0))
set_option maxHeartbeats 8000000 in
set_option maxRecDepth 100000 in
theorem Zw.calls (aU : Int) (aV : Int) (aW : Int) (aX : Int) (aY : Int) (aZ : Int) (r : Int) (w : World) (h : Zw.f aU aV aW aX aY aZ = some r) :
  Calls Tryz.prog 41 #[.agg #[.int .i64 aU, .int .i64 aV], .agg #[.int .i64 aW, .int .i64 aX], .agg #[.int .i64 aY, .int .i64 aZ]] w fun e w' => e = .returned (.int .i64 r) ∧ Below w.heap.size w w' := by
 have fP := Tryz.underlying48
 have HB := Qa.mk (Below.refl w.heap.size w)
 have H := h
 unfold Zw.f at H
 clear h
 obtain ⟨dZ, A4, H⟩ := zO H
 by_cases c5 : dZ = true
 ·subst c5
  replace H := (if_pos rfl).symm.trans H
  obtain ⟨eB, A6, H⟩ := zO H
  by_cases c7 : eB = true
  ·subst c7
   replace H := (if_pos rfl).symm.trans H
   obtain ⟨eD, A8, H⟩ := zO H
   by_cases c9 : eD = true
   ·subst c9
    replace H := (if_pos rfl).symm.trans H
    obtain ⟨eF, fQ, H⟩ := zO H
    obtain rfl := Option.some.inj H
    go_enter Tryz.func41, Tryz.ntmps41
    go_wp2_with (first | ((with_reducible refine Qo (N := 3) rfl ?_); refine zBx (N := 3) #[.int .i64 aU, .int .i64 aV] 48 ?_; intro bA hg fT hbox hb; have aA := Qa.mk (hbox); have bB := zS hg; have aD := zS hg; replace HB := zX hb; clear hb hbox hg) | ((with_reducible refine Qo (N := 4) rfl ?_); refine zBx (N := 4) #[.int .i64 aW, .int .i64 aX] 48 ?_; intro bC hg fU hbox hb; have aC := Qa.mk (hbox); have bD := zSg hg (zG aD.out); have aG := zSg hg (zG aD.out); have aI := zL hg aA.out; have aJ := zLg hg aA.out; replace aA := zV aA.out hb; replace HB := zX1 aD.out hb; clear hb hbox hg) | ((with_reducible refine Qo (N := 5) rfl ?_); refine zBx (N := 5) #[.int .i64 aY, .int .i64 aZ] 48 ?_; intro bE hg fV hbox hb; have aH := Qa.mk (hbox); have bF := zSg hg (zG2 aD.out aG.out); have aN := zSg hg (zG2 aD.out aG.out); have aK := zL hg aA.out; have aM := zLg hg aA.out; replace aA := zV aA.out hb; have aQ := zL hg aC.out; have aT := zLg hg aC.out; replace aC := zV aC.out hb; replace HB := Qa.mk (Qk (zG2 aD.out aG.out) hb); clear hb hbox hg; have eG := aI.out; have eH := aJ.out; have eO := aK.out; have eP := aM.out; obtain ⟨bG, bH, bI, bJ⟩ := zq2 aA.out) | ((with_reducible refine Qd (f := 90) rfl ?_); refine zD (some 8) Tryz.func90 _ ((Jn.calls aU aV 1000 true _ A4.out).mono ?_); rintro e fZ ⟨rfl, hb⟩; refine ⟨_, rfl, ?_⟩; replace aA := zV aA.out hb; replace aC := zV aC.out hb; replace aH := zV aH.out hb; replace HB := Qa.mk (Qk (zG3 aD.out aG.out aN.out) hb); (try clear hb); have eQ := aQ.out; have eU := aT.out; obtain ⟨bK, bL, bM, bN⟩ := zq2 aC.out) | (go_at_call 90; (with_reducible refine (Jn.calls aW aX 1000 true _ A6.out).mono ?_); rintro e gB ⟨rfl, hb⟩; replace aA := zV aA.out hb; replace aC := zV aC.out hb; replace aH := zV aH.out hb; replace HB := Qa.mk (Qk (zG3 aD.out aG.out aN.out) hb); (try clear hb); (try clear hb2); (try clear hk); (try clear hi); obtain ⟨bO, bP, bQ, bR⟩ := zq2 aH.out) | (go_at_call 90; (with_reducible refine (Jn.calls aY aZ 1000 true _ A8.out).mono ?_); rintro e gD ⟨rfl, hb⟩; replace aA := zV aA.out hb; replace aC := zV aC.out hb; replace aH := zV aH.out hb; replace HB := Qa.mk (Qk (zG3 aD.out aG.out aN.out) hb); (try clear hb); (try clear hb2); (try clear hk); (try clear hi); obtain ⟨bS, bT, bU, bV⟩ := zq2 aA.out; obtain ⟨bW, bX, bY, bZ⟩ := zq2 aC.out; obtain ⟨cB, cK, cO, cZ⟩ := zq2 aH.out) | ((with_reducible refine Qd (f := 59) rfl ?_); refine zD (some 23) Tryz.func59 _ ((Ze.calls aU aV aW aX aY aZ eF _ fQ.out).mono ?_); rintro e gF ⟨rfl, hb⟩; refine ⟨_, rfl, ?_⟩; replace aA := zV aA.out hb; replace aC := zV aC.out hb; replace aH := zV aH.out hb; replace HB := Qa.mk (Qk (zG3 aD.out aG.out aN.out) hb); (try clear hb)))
    go_ret
    exact ⟨zE, zG3 aD.out aG.out aN.out⟩
   replace c9 := Bool.eq_false_iff.mpr c9
   subst c9
   replace H := (if_neg zFf).symm.trans H
   obtain rfl := Option.some.inj H
   go_enter Tryz.func41, Tryz.ntmps41
   go_wp2_with (first | ((with_reducible refine Qo (N := 3) rfl ?_); refine zBx (N := 3) #[.int .i64 aU, .int .i64 aV] 48 ?_; intro bA hg gG hbox hb; have aA := Qa.mk (hbox); have bB := zS hg; have aD := zS hg; replace HB := zX hb; clear hb hbox hg) | ((with_reducible refine Qo (N := 4) rfl ?_); refine zBx (N := 4) #[.int .i64 aW, .int .i64 aX] 48 ?_; intro bC hg gH hbox hb; have aC := Qa.mk (hbox); have bD := zSg hg (zG aD.out); have aG := zSg hg (zG aD.out); have aI := zL hg aA.out; have aJ := zLg hg aA.out; replace aA := zV aA.out hb; replace HB := zX1 aD.out hb; clear hb hbox hg) | ((with_reducible refine Qo (N := 5) rfl ?_); refine zBx (N := 5) #[.int .i64 aY, .int .i64 aZ] 48 ?_; intro bE hg gI hbox hb; have aH := Qa.mk (hbox); have bF := zSg hg (zG2 aD.out aG.out); have aN := zSg hg (zG2 aD.out aG.out); have aK := zL hg aA.out; have aM := zLg hg aA.out; replace aA := zV aA.out hb; have aQ := zL hg aC.out; have aT := zLg hg aC.out; replace aC := zV aC.out hb; replace HB := Qa.mk (Qk (zG2 aD.out aG.out) hb); clear hb hbox hg; have eX := aI.out; have eY := aJ.out; have eZ := aK.out; have fA := aM.out; obtain ⟨dA, dB, dC, dD⟩ := zq2 aA.out) | ((with_reducible refine Qd (f := 90) rfl ?_); refine zD (some 8) Tryz.func90 _ ((Jn.calls aU aV 1000 true _ A4.out).mono ?_); rintro e gJ ⟨rfl, hb⟩; refine ⟨_, rfl, ?_⟩; replace aA := zV aA.out hb; replace aC := zV aC.out hb; replace aH := zV aH.out hb; replace HB := Qa.mk (Qk (zG3 aD.out aG.out aN.out) hb); (try clear hb); have fB := aQ.out; have fC := aT.out; obtain ⟨dE, dF, dG, dH⟩ := zq2 aC.out) | (go_at_call 90; (with_reducible refine (Jn.calls aW aX 1000 true _ A6.out).mono ?_); rintro e gK ⟨rfl, hb⟩; replace aA := zV aA.out hb; replace aC := zV aC.out hb; replace aH := zV aH.out hb; replace HB := Qa.mk (Qk (zG3 aD.out aG.out aN.out) hb); (try clear hb); (try clear hb2); (try clear hk); (try clear hi); obtain ⟨dI, dJ, dK, dL⟩ := zq2 aH.out) | (go_at_call 90; (with_reducible refine (Jn.calls aY aZ 1000 false _ A8.out).mono ?_); rintro e gL ⟨rfl, hb⟩; replace aA := zV aA.out hb; replace aC := zV aC.out hb; replace aH := zV aH.out hb; replace HB := Qa.mk (Qk (zG3 aD.out aG.out aN.out) hb); (try clear hb); (try clear hb2); (try clear hk); (try clear hi)))
   go_ret
   exact ⟨zE, zG3 aD.out aG.out aN.out⟩
  replace c7 := Bool.eq_false_iff.mpr c7
  subst c7
  replace H := (if_neg zFf).symm.trans H
  obtain rfl := Option.some.inj H
  go_enter Tryz.func41, Tryz.ntmps41
  go_wp2_with (first | ((with_reducible refine Qo (N := 3) rfl ?_); refine zBx (N := 3) #[.int .i64 aU, .int .i64 aV] 48 ?_; intro bA hg gM hbox hb; have aA := Qa.mk (hbox); have bB := zS hg; have aD := zS hg; replace HB := zX hb; clear hb hbox hg) | ((with_reducible refine Qo (N := 4) rfl ?_); refine zBx (N := 4) #[.int .i64 aW, .int .i64 aX] 48 ?_; intro bC hg gN hbox hb; have aC := Qa.mk (hbox); have bD := zSg hg (zG aD.out); have aG := zSg hg (zG aD.out); have aI := zL hg aA.out; have aJ := zLg hg aA.out; replace aA := zV aA.out hb; replace HB := zX1 aD.out hb; clear hb hbox hg) | ((with_reducible refine Qo (N := 5) rfl ?_); refine zBx (N := 5) #[.int .i64 aY, .int .i64 aZ] 48 ?_; intro bE hg gP hbox hb; have aH := Qa.mk (hbox); have bF := zSg hg (zG2 aD.out aG.out); have aN := zSg hg (zG2 aD.out aG.out); have aK := zL hg aA.out; have aM := zLg hg aA.out; replace aA := zV aA.out hb; have aQ := zL hg aC.out; have aT := zLg hg aC.out; replace aC := zV aC.out hb; replace HB := Qa.mk (Qk (zG2 aD.out aG.out) hb); clear hb hbox hg; have fD := aI.out; have fE := aJ.out; have fF := aK.out; have fG := aM.out; obtain ⟨dM, dN, dO, dP⟩ := zq2 aA.out) | ((with_reducible refine Qd (f := 90) rfl ?_); refine zD (some 8) Tryz.func90 _ ((Jn.calls aU aV 1000 true _ A4.out).mono ?_); rintro e gQ ⟨rfl, hb⟩; refine ⟨_, rfl, ?_⟩; replace aA := zV aA.out hb; replace aC := zV aC.out hb; replace aH := zV aH.out hb; replace HB := Qa.mk (Qk (zG3 aD.out aG.out aN.out) hb); (try clear hb); have fH := aQ.out; have fI := aT.out; obtain ⟨dQ, dR, dS, dU⟩ := zq2 aC.out) | (go_at_call 90; (with_reducible refine (Jn.calls aW aX 1000 false _ A6.out).mono ?_); rintro e gT ⟨rfl, hb⟩; replace aA := zV aA.out hb; replace aC := zV aC.out hb; replace aH := zV aH.out hb; replace HB := Qa.mk (Qk (zG3 aD.out aG.out aN.out) hb); (try clear hb); (try clear hb2); (try clear hk); (try clear hi)))
  go_ret
  exact ⟨zE, zG3 aD.out aG.out aN.out⟩
 replace c5 := Bool.eq_false_iff.mpr c5
 subst c5
 replace H := (if_neg zFf).symm.trans H
 obtain rfl := Option.some.inj H
 go_enter Tryz.func41, Tryz.ntmps41
 go_wp2_with (first | ((with_reducible refine Qo (N := 3) rfl ?_); refine zBx (N := 3) #[.int .i64 aU, .int .i64 aV] 48 ?_; intro bA hg gU hbox hb; have aA := Qa.mk (hbox); have bB := zS hg; have aD := zS hg; replace HB := zX hb; clear hb hbox hg) | ((with_reducible refine Qo (N := 4) rfl ?_); refine zBx (N := 4) #[.int .i64 aW, .int .i64 aX] 48 ?_; intro bC hg gV hbox hb; have aC := Qa.mk (hbox); have bD := zSg hg (zG aD.out); have aG := zSg hg (zG aD.out); have aI := zL hg aA.out; have aJ := zLg hg aA.out; replace aA := zV aA.out hb; replace HB := zX1 aD.out hb; clear hb hbox hg) | ((with_reducible refine Qo (N := 5) rfl ?_); refine zBx (N := 5) #[.int .i64 aY, .int .i64 aZ] 48 ?_; intro bE hg gW hbox hb; have aH := Qa.mk (hbox); have bF := zSg hg (zG2 aD.out aG.out); have aN := zSg hg (zG2 aD.out aG.out); have aK := zL hg aA.out; have aM := zLg hg aA.out; replace aA := zV aA.out hb; have aQ := zL hg aC.out; have aT := zLg hg aC.out; replace aC := zV aC.out hb; replace HB := Qa.mk (Qk (zG2 aD.out aG.out) hb); clear hb hbox hg; have fJ := aI.out; have fK := aJ.out; have fM := aK.out; have fO := aM.out; obtain ⟨dV, dW, dX, dY⟩ := zq2 aA.out) | ((with_reducible refine Qd (f := 90) rfl ?_); refine zD (some 8) Tryz.func90 _ ((Jn.calls aU aV 1000 false _ A4.out).mono ?_); rintro e gX ⟨rfl, hb⟩; refine ⟨_, rfl, ?_⟩; replace aA := zV aA.out hb; replace aC := zV aC.out hb; replace aH := zV aH.out hb; replace HB := Qa.mk (Qk (zG3 aD.out aG.out aN.out) hb); (try clear hb)))
 go_ret
 exact ⟨zE, zG3 aD.out aG.out aN.out⟩
def X3.f (a0 : Bool) : Option (Int) := if a0 = true then (some 1) else (some 0)
set_option maxHeartbeats 8000000 in
set_option maxRecDepth 100000 in
theorem X3.calls (a0 : Bool) (r : Int) (w : World) (h : X3.f a0 = some r) :
  Calls Tryz.prog 52 #[.bool a0] w fun e w' => e = .returned (.int .i64 r) ∧ Jc w w' := by
 have H := h
 unfold X3.f at H
 clear h
 by_cases c2 : a0 = true
 ·subst c2
  replace H := (if_pos rfl).symm.trans H
  obtain rfl := Option.some.inj H
  go_enter Tryz.func52, Tryz.ntmps52
  go_wp2
  go_ret
  exact ⟨by first | rfl | (simp; done) | (simp [*]; done), by repeat (first | exact Jc.refl _ | apply Jc.step)⟩
 replace c2 := Bool.eq_false_iff.mpr c2
 subst c2
 replace H := (if_neg zFf).symm.trans H
 obtain rfl := Option.some.inj H
 go_enter Tryz.func52, Tryz.ntmps52
 go_wp2
 go_ret
 exact ⟨by first | rfl | (simp; done) | (simp [*]; done), by repeat (first | exact Jc.refl _ | apply Jc.step)⟩
def Xy.f (a0 : Int) : Option (Int) := (X3.f (decide (a0 > 0))).bind fun aA => ((X3.f (decide (a0 < 0))).bind fun aC => (some (wrap64 (aA - aC))))
set_option maxHeartbeats 8000000 in
set_option maxRecDepth 100000 in
theorem Xy.calls (a0 : Int) (r : Int) (w : World) (h : Xy.f a0 = some r) :
  Calls Tryz.prog 96 #[.int .i64 a0] w fun e w' => e = .returned (.int .i64 r) ∧ Jc w w' := by
 have H := h
 unfold Xy.f at H
 clear h
 obtain ⟨aA, A2, H⟩ := zO H
 obtain ⟨aC, A3, H⟩ := zO H
 obtain rfl := Option.some.inj H
 go_enter Tryz.func96, Tryz.ntmps96
 go_wp2_with (first | ((with_reducible refine Qd (f := 52) rfl ?_); refine zD (some 5) Tryz.func52 _ ((X3.calls (decide (a0 > 0)) aA _ A2.out).mono ?_); rintro e w' ⟨rfl, ⟨nd, rfl⟩⟩; refine ⟨_, rfl, ?_⟩) | ((with_reducible refine Qd (f := 52) rfl ?_); refine zD (some 8) Tryz.func52 _ ((X3.calls (decide (a0 < 0)) aC _ A3.out).mono ?_); rintro e w' ⟨rfl, ⟨nd, rfl⟩⟩; refine ⟨_, rfl, ?_⟩))
 go_ret
 exact ⟨by first | rfl | (simp; done) | (simp [*]; done), by repeat (first | exact Jc.refl _ | apply Jc.step)⟩
def Xi.f (aA : Int) (aC : Int) (aD : Int) (aG : Int) (aH : Int) (aI : Int) : Option (Int) := (Zw.f aA aC aD aG aH aI).bind fun aJ => ((Xy.f aJ).bind fun aK => (some aK))
set_option maxHeartbeats 8000000 in
set_option maxRecDepth 100000 in
theorem Xi.calls (aT : Int) (aU : Int) (aV : Int) (aW : Int) (aX : Int) (aY : Int) (r : Int) (w : World) (h : Xi.f aT aU aV aW aX aY = some r) :
  Calls Tryz.prog 39 #[.agg #[.int .i64 aT, .int .i64 aU], .agg #[.int .i64 aV, .int .i64 aW], .agg #[.int .i64 aX, .int .i64 aY]] w fun e w' => e = .returned (.int .i64 r) ∧ Below w.heap.size w w' := by
 have bY := Tryz.underlying48
 have HB := Qa.mk (Below.refl w.heap.size w)
 have H := h
 unfold Xi.f at H
 clear h
 obtain ⟨bA, A4, H⟩ := zO H
 obtain ⟨bN, A5, H⟩ := zO H
 obtain rfl := Option.some.inj H
 go_enter Tryz.func39, Tryz.ntmps39
 go_wp2_with (first | ((with_reducible refine Qo (N := 3) rfl ?_); refine zBx (N := 3) #[.int .i64 aT, .int .i64 aU] 48 ?_; intro bO hg w6 hbox hb; have aA := Qa.mk (hbox); have bP := zS hg; have aC := zS hg; replace HB := zX hb; clear hb hbox hg) | ((with_reducible refine Qo (N := 4) rfl ?_); refine zBx (N := 4) #[.int .i64 aV, .int .i64 aW] 48 ?_; intro bQ hg w7 hbox hb; have aD := Qa.mk (hbox); have bR := zSg hg (zG aC.out); have aG := zSg hg (zG aC.out); have aH := zL hg aA.out; have aI := zLg hg aA.out; replace aA := zV aA.out hb; replace HB := zX1 aC.out hb; clear hb hbox hg) | ((with_reducible refine Qo (N := 5) rfl ?_); refine zBx (N := 5) #[.int .i64 aX, .int .i64 aY] 48 ?_; intro bS hg w8 hbox hb; have aQ := Qa.mk (hbox); have bT := zSg hg (zG2 aC.out aG.out); have aZ := zSg hg (zG2 aC.out aG.out); have aJ := zL hg aA.out; have aK := zLg hg aA.out; replace aA := zV aA.out hb; have aM := zL hg aD.out; have aN := zLg hg aD.out; replace aD := zV aD.out hb; replace HB := Qa.mk (Qk (zG2 aC.out aG.out) hb); clear hb hbox hg; have bZ := aH.out; have cB := aI.out; have bU := aJ.out; have bV := aK.out; obtain ⟨bB, bC, bD, bE⟩ := zq2 aA.out; have bW := aM.out; have bX := aN.out; obtain ⟨bF, bG, bH, bI⟩ := zq2 aD.out; obtain ⟨bJ, bK, bL, bM⟩ := zq2 aQ.out) | ((with_reducible refine Qd (f := 41) rfl ?_); refine zD (some 10) Tryz.func41 _ ((Zw.calls aT aU aV aW aX aY bA _ A4.out).mono ?_); rintro e cK ⟨rfl, hb⟩; refine ⟨_, rfl, ?_⟩; replace aA := zV aA.out hb; replace aD := zV aD.out hb; replace aQ := zV aQ.out hb; replace HB := Qa.mk (Qk (zG3 aC.out aG.out aZ.out) hb); (try clear hb)) | ((with_reducible refine Qd (f := 96) rfl ?_); refine zD (some 11) Tryz.func96 _ ((Xy.calls bA bN _ A5.out).mono ?_); rintro e w' ⟨rfl, ⟨nd, rfl⟩⟩; refine ⟨_, rfl, ?_⟩))
 go_ret
 exact ⟨zE, zG3 aC.out aG.out aZ.out⟩
def Zm.f (aA : Int) (aC : Int) (aD : Int) (aG : Int) (aH : Int) (aI : Int) : Option (Int) := (Jo.f aA aC aD aG aH aI).bind fun aJ => (if aJ = 0 then (some 0) else ((Xb.f aA aC aD aG aH aI).bind fun aK => (some aK)))
set_option maxHeartbeats 8000000 in
set_option maxRecDepth 100000 in
theorem Zm.calls (aU : Int) (aV : Int) (aW : Int) (aX : Int) (aY : Int) (aZ : Int) (r : Int) (w : World) (h : Zm.f aU aV aW aX aY aZ = some r) :
  Calls Tryz.prog 40 #[.agg #[.int .i64 aU, .int .i64 aV], .agg #[.int .i64 aW, .int .i64 aX], .agg #[.int .i64 aY, .int .i64 aZ]] w fun e w' => e = .returned (.int .i64 r) ∧ Below w.heap.size w w' := by
 have eD := Tryz.underlying48
 have HB := Qa.mk (Below.refl w.heap.size w)
 have H := h
 unfold Zm.f at H
 clear h
 obtain ⟨bA, A4, H⟩ := zO H
 replace H := Zb H
 rcases H with ⟨dN, dO, H⟩ | ⟨c5, dN, dO, H⟩
 ·obtain rfl := Option.some.inj H
  go_enter Tryz.func40, Tryz.ntmps40
  go_wp2_with (first | ((with_reducible refine Qo (N := 3) rfl ?_); refine zBx (N := 3) #[.int .i64 aU, .int .i64 aV] 48 ?_; intro bB hg w6 hbox hb; have aA := Qa.mk (hbox); have bC := zS hg; have aC := zS hg; replace HB := zX hb; clear hb hbox hg) | ((with_reducible refine Qo (N := 4) rfl ?_); refine zBx (N := 4) #[.int .i64 aW, .int .i64 aX] 48 ?_; intro bD hg w7 hbox hb; have aD := Qa.mk (hbox); have bE := zSg hg (zG aC.out); have aG := zSg hg (zG aC.out); have aI := zL hg aA.out; have aJ := zLg hg aA.out; replace aA := zV aA.out hb; replace HB := zX1 aC.out hb; clear hb hbox hg) | ((with_reducible refine Qo (N := 5) rfl ?_); refine zBx (N := 5) #[.int .i64 aY, .int .i64 aZ] 48 ?_; intro bF hg w8 hbox hb; have aH := Qa.mk (hbox); have bG := zSg hg (zG2 aC.out aG.out); have aT := zSg hg (zG2 aC.out aG.out); have aK := zL hg aA.out; have aM := zLg hg aA.out; replace aA := zV aA.out hb; have aN := zL hg aD.out; have aQ := zLg hg aD.out; replace aD := zV aD.out hb; replace HB := Qa.mk (Qk (zG2 aC.out aG.out) hb); clear hb hbox hg; have eF := aI.out; have eG := aJ.out; have dQ := aK.out; have dR := aM.out; obtain ⟨bH, bI, bJ, bK⟩ := zq2 aA.out; have dS := aN.out; have dU := aQ.out; obtain ⟨bL, bM, bN, bO⟩ := zq2 aD.out; obtain ⟨bP, bQ, bR, bS⟩ := zq2 aH.out) | ((with_reducible refine Qd (f := 28) rfl ?_); refine zD (some 10) Tryz.func28 _ ((Jo.calls aU aV aW aX aY aZ bA _ A4.out).mono ?_); rintro e eO ⟨rfl, hb⟩; refine ⟨_, rfl, ?_⟩; replace aA := zV aA.out hb; replace aD := zV aD.out hb; replace aH := zV aH.out hb; replace HB := Qa.mk (Qk (zG3 aC.out aG.out aT.out) hb); (try clear hb)))
  go_ret
  exact ⟨zE, zG3 aC.out aG.out aT.out⟩
 obtain ⟨dP, eH, H⟩ := zO H
 obtain rfl := Option.some.inj H
 go_enter Tryz.func40, Tryz.ntmps40
 go_wp2_with (first | ((with_reducible refine Qo (N := 3) rfl ?_); refine zBx (N := 3) #[.int .i64 aU, .int .i64 aV] 48 ?_; intro bB hg eP hbox hb; have aA := Qa.mk (hbox); have bC := zS hg; have aC := zS hg; replace HB := zX hb; clear hb hbox hg) | ((with_reducible refine Qo (N := 4) rfl ?_); refine zBx (N := 4) #[.int .i64 aW, .int .i64 aX] 48 ?_; intro bD hg eQ hbox hb; have aD := Qa.mk (hbox); have bE := zSg hg (zG aC.out); have aG := zSg hg (zG aC.out); have aI := zL hg aA.out; have aJ := zLg hg aA.out; replace aA := zV aA.out hb; replace HB := zX1 aC.out hb; clear hb hbox hg) | ((with_reducible refine Qo (N := 5) rfl ?_); refine zBx (N := 5) #[.int .i64 aY, .int .i64 aZ] 48 ?_; intro bF hg eU hbox hb; have aH := Qa.mk (hbox); have bG := zSg hg (zG2 aC.out aG.out); have aT := zSg hg (zG2 aC.out aG.out); have aK := zL hg aA.out; have aM := zLg hg aA.out; replace aA := zV aA.out hb; have aN := zL hg aD.out; have aQ := zLg hg aD.out; replace aD := zV aD.out hb; replace HB := Qa.mk (Qk (zG2 aC.out aG.out) hb); clear hb hbox hg; have dV := aI.out; have dW := aJ.out; have dX := aK.out; have dY := aM.out; obtain ⟨bT, bU, bV, bW⟩ := zq2 aA.out; have dZ := aN.out; have eB := aQ.out; obtain ⟨bX, bY, bZ, cB⟩ := zq2 aD.out; obtain ⟨cK, cO, cZ, dA⟩ := zq2 aH.out) | ((with_reducible refine Qd (f := 28) rfl ?_); refine zD (some 10) Tryz.func28 _ ((Jo.calls aU aV aW aX aY aZ bA _ A4.out).mono ?_); rintro e eX ⟨rfl, hb⟩; refine ⟨_, rfl, ?_⟩; replace aA := zV aA.out hb; replace aD := zV aD.out hb; replace aH := zV aH.out hb; replace HB := Qa.mk (Qk (zG3 aC.out aG.out aT.out) hb); (try clear hb); obtain ⟨dB, dC, dD, dE⟩ := zq2 aA.out; obtain ⟨dF, dG, dH, dI⟩ := zq2 aD.out; obtain ⟨dJ, dK, dL, dM⟩ := zq2 aH.out) | ((with_reducible refine Qd (f := 83) rfl ?_); refine zD (some 15) Tryz.func83 _ ((Xb.calls aU aV aW aX aY aZ dP _ eH.out).mono ?_); rintro e eY ⟨rfl, hb⟩; refine ⟨_, rfl, ?_⟩; replace aA := zV aA.out hb; replace aD := zV aD.out hb; replace aH := zV aH.out hb; replace HB := Qa.mk (Qk (zG3 aC.out aG.out aT.out) hb); (try clear hb)))
 go_ret
 exact ⟨zE, zG3 aC.out aG.out aT.out⟩
end Go.Proofs.YtckkfjdkaimmhaaGreatDoor.PX
namespace Go.Proofs.YtckkfjdkaimmhaaGreatDoor.PX
open Go.RowKit Go.Proofs.YtckkfjdkaimmhaaGreatDoor.G Go.Proofs.YtckkfjdkaimmhaaGreatDoorW.PrintWords Go.Proofs.YtckkfjdkaimmhaaGreatDoorW.PrintLast Go.Proofs.YtckkfjdkaimmhaaGreatDoorW.PrintMore
attribute [local go_sem] max2_int min2_int Yi Yh Z4 Z7 Xk Xn   -- for this text's walks alone
set_option linter.unusedVariables false
set_option linter.unusedSimpArgs false
attribute [local go_sem high] jIe
def Qu.l0 : Nat → List (S48) → List (S48) → Int → Option (Bool)
 | 0, _, _, _ => none
 | k + 1, x0, x1, x5 => if x5 < (x0.length : Int) then (if 0 ≤ x5 then (if x5 < (x1.length : Int) then (if (!(((Qb x0 x5).f0) == ((Qb x1 x5).f0)) || (!(((Qb x0 x5).f1) == ((Qb x1 x5).f1)))) = true then (some false) else (Qu.l0 k x0 x1 (wrap64 (x5 + 1)))) else (none)) else (none)) else (some true)
def Qu.f (k : Nat) (l0 : List (S48)) (l1 : List (S48)) : Option (Bool) := if (l0.length : Int) = (l1.length : Int) then (Qu.l0 k l0 l1 0) else (some false)
set_option maxHeartbeats 8000000 in
set_option maxRecDepth 100000 in
theorem Qu.calls (k : Nat) (A0 : Option Addr) (c0 : Nat) (l0 : List (S48)) (A1 : Option Addr) (c1 : Nat) (l1 : List (S48)) (r : Bool) (w : World) (hr0 : Kd.C k48 w A0 l0.length l0) (hc0 : l0.length ≤ c0) (hr1 : Kd.C k48 w A1 l1.length l1) (hc1 : l1.length ≤ c1) (h : Qu.f k l0 l1 = some r) :
  Calls Tryz.prog 42 #[.slice A0 l0.length c0, .slice A1 l1.length c1] w fun e w' => e = .returned (.bool r) ∧ Jc w w' := by
 have bC := Tryz.underlying48
 have bA := Qa.mk hr0
 have bF := Qa.mk hc0
 clear hr0 hc0
 have HR1 := Qa.mk hr1
 have bG := Qa.mk hc1
 clear hr1 hc1
 have H := h
 unfold Qu.f at H
 clear h
 replace H := jBj H
 rcases H with ⟨c3, aT, aU, H⟩ | ⟨c3, aT, aU, H⟩
 ·have aV : (l0.length == l1.length) = true := by first | simpa using c3 | (simp at c3 ⊢; omega)
  clear c3
  have H' := Qa.mk H; clear H
  go_enter Tryz.func42, Tryz.ntmps42
  go_wp2
  repeat (go_quiet (fail); try go_wp2)
  go_loopg [5] k (fun kq v5 w' => ∃ (aA : Int), v5 = .int .i64 aA ∧ Qa (Qu.l0 kq l0 l1 aA = some r) ∧ Qa (kq ≤ k) ∧ Jc w w')
  case atStart => exact ⟨(0), zF, H', ⟨Nat.le_refl _⟩, by repeat (first | exact Jc.refl _ | apply Jc.step)⟩
  case round =>
  clear H'
  try clear c3
  try clear aT
  try clear aU
  try clear aV
  obtain ⟨aA, rfl, HA, bB, ⟨m1, rfl⟩⟩ := hrel
  cases gk with
  | zero => exact absurd HA.out (by simp [Qu.l0])
  | succ k1 =>
  have H := HA.out
  clear HA
  simp only [Qu.l0] at H
  replace H := Xg H
  rcases H with ⟨aY, H⟩ | ⟨aY, H⟩
  ·replace H := J9 H
   rcases H with ⟨bD, H⟩ | ⟨c5, H⟩
   ·replace H := J9 H
    rcases H with ⟨bE, H⟩ | ⟨c6, H⟩
    ·replace H := Z8 H
     rcases H with ⟨c7, H⟩ | ⟨c7, H⟩
     ·have aZ : (!(((Qb l0 aA).f0) == ((Qb l1 aA).f0)) || (!(((Qb l0 aA).f1) == ((Qb l1 aA).f1)))) = true := c7
      clear c7
      obtain rfl := Option.some.inj H
      have aC : 0 ≤ (aA : Int) := zA
      have aD : aA < (l0.length : Int) := zA
      obtain ⟨aW, aN, aI, aJ⟩ := Jj bA.out aA aC aD
      cases aN
      replace aC := eq_true aC
      replace aD := eq_true aD
      have aG : 0 ≤ (aA : Int) := zA
      have aH : aA < (l1.length : Int) := zA
      obtain ⟨aX, aQ, aK, aM⟩ := Jj HR1.out aA aG aH
      cases aQ
      replace aG := eq_true aG
      replace aH := eq_true aH
      go_wp2
      repeat (go_quiet (fail); try go_wp2)
      go_ret
      exact ⟨by first | rfl | (simp; done) | (simp [*]; done), by repeat (first | exact Jc.refl _ | apply Jc.step)⟩
     have aZ : (!(((Qb l0 aA).f0) == ((Qb l1 aA).f0)) || (!(((Qb l0 aA).f1) == ((Qb l1 aA).f1)))) = false := by simpa using c7
     clear c7
     have H' := Qa.mk H; clear H
     have aC : 0 ≤ (aA : Int) := zA
     have aD : aA < (l0.length : Int) := zA
     obtain ⟨aW, aN, aI, aJ⟩ := Jj bA.out aA aC aD
     cases aN
     replace aC := eq_true aC
     replace aD := eq_true aD
     have aG : 0 ≤ (aA : Int) := zA
     have aH : aA < (l1.length : Int) := zA
     obtain ⟨aX, aQ, aK, aM⟩ := Jj HR1.out aA aG aH
     cases aQ
     replace aG := eq_true aG
     replace aH := eq_true aH
     go_wp2
     repeat (go_quiet (fail); try go_wp2)
     go_roundg k1
     case measure => have := bB.out; omega
     case rel => exact ⟨(wrap64 (aA + 1)), zF, H', ⟨by have := bB.out; omega⟩, by repeat (first | exact Jc.refl _ | apply Jc.step)⟩
    exact absurd H (by simp)
   exact absurd H (by simp)
  obtain rfl := Option.some.inj H
  go_wp2
  repeat (go_quiet (fail); try go_wp2)
  go_ret
  exact ⟨by first | rfl | (simp; done) | (simp [*]; done), by repeat (first | exact Jc.refl _ | apply Jc.step)⟩
 have aV : (l0.length == l1.length) = false := by first | simpa using c3 | (simp at c3 ⊢; omega)
 obtain rfl := Option.some.inj H
 go_enter Tryz.func42, Tryz.ntmps42
 go_wp2
 repeat (go_quiet (fail); try go_wp2)
 go_ret
 exact ⟨by first | rfl | (simp; done) | (simp [*]; done), by repeat (first | exact Jc.refl _ | apply Jc.step)⟩
def Jp.l0 : Nat → List (S48) → List (S48) → Int → Int → Option (Bool)
 | 0, _, _, _, _ => none
 | k + 1, x0, x1, aC, aA => if aA < aC then (if 0 ≤ aA then (if aA < (x0.length : Int) then (if aA < (x1.length : Int) then (if (!(((Qb x0 aA).f0) == ((Qb x1 aA).f0)) || (!(((Qb x0 aA).f1) == ((Qb x1 aA).f1)))) = true then (some false) else (Jp.l0 k x0 x1 aC (wrap64 (aA + 1)))) else (none)) else (none)) else (none)) else (some true)
def Jp.f (k : Nat) (l0 : List (S48)) (l1 : List (S48)) : Option (Bool) := if (l0.length : Int) = (l1.length : Int) then (Jp.l0 k l0 l1 (l0.length : Int) 0) else (some false)
set_option maxHeartbeats 8000000 in
set_option maxRecDepth 100000 in
theorem Jp.calls (k : Nat) (A0 : Option Addr) (c0 : Nat) (l0 : List (S48)) (A1 : Option Addr) (c1 : Nat) (l1 : List (S48)) (r : Bool) (w : World) (hr0 : Kd.C k48 w A0 l0.length l0) (hc0 : l0.length ≤ c0) (hr1 : Kd.C k48 w A1 l1.length l1) (hc1 : l1.length ≤ c1) (h : Jp.f k l0 l1 = some r) :
  Calls Tryz.prog 97 #[.slice A0 l0.length c0, .slice A1 l1.length c1] w fun e w' => e = .returned (.bool r) ∧ Jc w w' := by
 have bC := Tryz.underlying48
 have bA := Qa.mk hr0
 have bG := Qa.mk hc0
 clear hr0 hc0
 have HR1 := Qa.mk hr1
 have bH := Qa.mk hc1
 clear hr1 hc1
 have H := h
 unfold Jp.f at H
 clear h
 replace H := jBj H
 rcases H with ⟨c3, aT, aU, H⟩ | ⟨c3, aT, aU, H⟩
 ·have aV : (l0.length == l1.length) = true := by first | simpa using c3 | (simp at c3 ⊢; omega)
  clear c3
  have H' := Qa.mk H; clear H
  go_enter Tryz.func97, Tryz.ntmps97
  go_wp2
  repeat (go_quiet (fail); try go_wp2)
  go_loopg [13] k (fun kq v13 w' => ∃ (aA : Int), v13 = .int .i64 aA ∧ Qa (Jp.l0 kq l0 l1 (l0.length : Int) aA = some r) ∧ Qa (kq ≤ k) ∧ Jc w w')
  case atStart => exact ⟨(0), zF, H', ⟨Nat.le_refl _⟩, by repeat (first | exact Jc.refl _ | apply Jc.step)⟩
  case round =>
  clear H'
  try clear c3
  try clear aT
  try clear aU
  try clear aV
  obtain ⟨aA, rfl, HA, bB, ⟨m1, rfl⟩⟩ := hrel
  cases gk with
  | zero => exact absurd HA.out (by simp [Jp.l0])
  | succ k1 =>
  have H := HA.out
  clear HA
  simp only [Jp.l0] at H
  replace H := Xg H
  rcases H with ⟨aY, H⟩ | ⟨aY, H⟩
  ·replace H := J9 H
   rcases H with ⟨bD, H⟩ | ⟨c5, H⟩
   ·replace H := J9 H
    rcases H with ⟨bE, H⟩ | ⟨c6, H⟩
    ·replace H := J9 H
     rcases H with ⟨bF, H⟩ | ⟨c7, H⟩
     ·replace H := Z8 H
      rcases H with ⟨c8, H⟩ | ⟨c8, H⟩
      ·have aZ : (!(((Qb l0 aA).f0) == ((Qb l1 aA).f0)) || (!(((Qb l0 aA).f1) == ((Qb l1 aA).f1)))) = true := c8
       clear c8
       obtain rfl := Option.some.inj H
       have aC : 0 ≤ (aA : Int) := zA
       have aD : aA < (l0.length : Int) := zA
       obtain ⟨aW, aN, aI, aJ⟩ := Jj bA.out aA aC aD
       cases aN
       replace aC := eq_true aC
       replace aD := eq_true aD
       have aG : 0 ≤ (aA : Int) := zA
       have aH : aA < (l1.length : Int) := zA
       obtain ⟨aX, aQ, aK, aM⟩ := Jj HR1.out aA aG aH
       cases aQ
       replace aG := eq_true aG
       replace aH := eq_true aH
       go_wp2
       repeat (go_quiet (fail); try go_wp2)
       go_ret
       exact ⟨by first | rfl | (simp; done) | (simp [*]; done), by repeat (first | exact Jc.refl _ | apply Jc.step)⟩
      have aZ : (!(((Qb l0 aA).f0) == ((Qb l1 aA).f0)) || (!(((Qb l0 aA).f1) == ((Qb l1 aA).f1)))) = false := by simpa using c8
      clear c8
      have H' := Qa.mk H; clear H
      have aC : 0 ≤ (aA : Int) := zA
      have aD : aA < (l0.length : Int) := zA
      obtain ⟨aW, aN, aI, aJ⟩ := Jj bA.out aA aC aD
      cases aN
      replace aC := eq_true aC
      replace aD := eq_true aD
      have aG : 0 ≤ (aA : Int) := zA
      have aH : aA < (l1.length : Int) := zA
      obtain ⟨aX, aQ, aK, aM⟩ := Jj HR1.out aA aG aH
      cases aQ
      replace aG := eq_true aG
      replace aH := eq_true aH
      go_wp2
      repeat (go_quiet (fail); try go_wp2)
      go_roundg k1
      case measure => have := bB.out; omega
      case rel => exact ⟨(wrap64 (aA + 1)), zF, H', ⟨by have := bB.out; omega⟩, by repeat (first | exact Jc.refl _ | apply Jc.step)⟩
     exact absurd H (by simp)
    exact absurd H (by simp)
   exact absurd H (by simp)
  obtain rfl := Option.some.inj H
  go_wp2
  repeat (go_quiet (fail); try go_wp2)
  go_ret
  exact ⟨by first | rfl | (simp; done) | (simp [*]; done), by repeat (first | exact Jc.refl _ | apply Jc.step)⟩
 have aV : (l0.length == l1.length) = false := by first | simpa using c3 | (simp at c3 ⊢; omega)
 obtain rfl := Option.some.inj H
 go_enter Tryz.func97, Tryz.ntmps97
 go_wp2
 repeat (go_quiet (fail); try go_wp2)
 go_ret
 exact ⟨by first | rfl | (simp; done) | (simp [*]; done), by repeat (first | exact Jc.refl _ | apply Jc.step)⟩
end Go.Proofs.YtckkfjdkaimmhaaGreatDoor.PX
namespace Go.Proofs.YtckkfjdkaimmhaaGreatDoor.PX
open Go.RowKit Go.Proofs.YtckkfjdkaimmhaaGreatDoor.G Go.Proofs.YtckkfjdkaimmhaaGreatDoorW.PrintWords Go.Proofs.YtckkfjdkaimmhaaGreatDoorW.PrintLast Go.Proofs.YtckkfjdkaimmhaaGreatDoorW.PrintMore
attribute [local go_sem] max2_int min2_int Yi Yh Z4 Z7 Xk Xn   -- for this text's walks alone
set_option linter.unusedVariables false
set_option linter.unusedSimpArgs false
def Zc.f (k : Nat) (l0 : List (S48)) (l1 : List (S48)) : Option (Bool) := (Jp.f k l0 l1).bind fun aA => (some aA)
set_option maxHeartbeats 8000000 in
set_option maxRecDepth 100000 in
theorem Zc.calls (k : Nat) (A0 : Option Addr) (c0 : Nat) (l0 : List (S48)) (A1 : Option Addr) (c1 : Nat) (l1 : List (S48)) (r : Bool) (w : World) (hr0 : Kd.C k48 w A0 l0.length l0) (hc0 : l0.length ≤ c0) (hr1 : Kd.C k48 w A1 l1.length l1) (hc1 : l1.length ≤ c1) (h : Zc.f k l0 l1 = some r) :
  Calls Tryz.prog 43 #[.slice A0 l0.length c0, .slice A1 l1.length c1] w fun e w' => e = .returned (.bool r) ∧ Jc w w' := by
 have aI := Qa.mk hr0
 have aJ := Qa.mk hc0
 clear hr0 hc0
 have HR1 := Qa.mk hr1
 have aK := Qa.mk hc1
 clear hr1 hc1
 have H := h
 unfold Zc.f at H
 clear h
 obtain ⟨aH, A3, H⟩ := zO H
 obtain rfl := Option.some.inj H
 go_enter Tryz.func43, Tryz.ntmps43
 go_wp2_with (first | ((with_reducible refine Qd (f := 97) rfl ?_); refine zD (some 7) Tryz.func97 #[.slice A0 l0.length c0, .slice A1 l1.length c1] ((Jp.calls k _ _ l0 _ _ l1 aH _ ?aA ?aC ?aD ?aG A3.out).mono ?_); (case aA => exact zc aI.out); (case aC => exact aJ.out); (case aD => exact zc HR1.out); (case aG => exact aK.out); rintro e w' ⟨rfl, ⟨nd, rfl⟩⟩; refine ⟨_, rfl, ?_⟩))
 go_ret
 exact ⟨by first | rfl | (simp; done) | (simp [*]; done), by repeat (first | exact Jc.refl _ | apply Jc.step)⟩
def Zu.f (aA : Int) (aD : Int) (aC : Int) (aG : Int) : Option (Bool) := if aA < aC then (some true) else (if aA = aC then (some (decide (aD < aG))) else (some false))
set_option maxHeartbeats 8000000 in
set_option maxRecDepth 100000 in
theorem Zu.calls (aJ : Int) (aK : Int) (aM : Int) (aN : Int) (r : Bool) (w : World) (h : Zu.f aJ aK aM aN = some r) :
  Calls Tryz.prog 98 #[.agg #[.int .i64 aJ, .int .i64 aK], .agg #[.int .i64 aM, .int .i64 aN]] w fun e w' => e = .returned (.bool r) ∧ Below w.heap.size w w' := by
 have cK := Tryz.underlying48
 have HB := Qa.mk (Below.refl w.heap.size w)
 have H := h
 unfold Zu.f at H
 clear h
 replace H := Xg H
 rcases H with ⟨bM, H⟩ | ⟨bM, H⟩
 ·obtain rfl := Option.some.inj H
  go_enter Tryz.func98, Tryz.ntmps98
  go_wp2_with (first | ((with_reducible refine Qo (N := 2) rfl ?_); refine zBx (N := 2) #[.int .i64 aJ, .int .i64 aK] 48 ?_; intro aQ hg w4 hbox hb; have aA := Qa.mk (hbox); have aT := zS hg; have aC := zS hg; replace HB := zX hb; clear hb hbox hg) | ((with_reducible refine Qo (N := 3) rfl ?_); refine zBx (N := 3) #[.int .i64 aM, .int .i64 aN] 48 ?_; intro aU hg w5 hbox hb; have aH := Qa.mk (hbox); have aV := zSg hg (zG aC.out); have aI := zSg hg (zG aC.out); have aD := zL hg aA.out; have aG := zLg hg aA.out; replace aA := zV aA.out hb; replace HB := zX1 aC.out hb; clear hb hbox hg; have cO := aD.out; have cZ := aG.out; obtain ⟨bN, bO, bP, bQ⟩ := zq2 aA.out; obtain ⟨bR, bS, bT, bU⟩ := zq2 aH.out))
  go_ret
  exact ⟨zE, zG2 aC.out aI.out⟩
 replace H := Zb H
 rcases H with ⟨bV, bW, H⟩ | ⟨c9, bV, bW, H⟩
 ·obtain rfl := Option.some.inj H
  go_enter Tryz.func98, Tryz.ntmps98
  go_wp2_with (first | ((with_reducible refine Qo (N := 2) rfl ?_); refine zBx (N := 2) #[.int .i64 aJ, .int .i64 aK] 48 ?_; intro aQ hg dA hbox hb; have aA := Qa.mk (hbox); have aT := zS hg; have aC := zS hg; replace HB := zX hb; clear hb hbox hg) | ((with_reducible refine Qo (N := 3) rfl ?_); refine zBx (N := 3) #[.int .i64 aM, .int .i64 aN] 48 ?_; intro aU hg dB hbox hb; have aH := Qa.mk (hbox); have aV := zSg hg (zG aC.out); have aI := zSg hg (zG aC.out); have aD := zL hg aA.out; have aG := zLg hg aA.out; replace aA := zV aA.out hb; replace HB := zX1 aC.out hb; clear hb hbox hg; have bX := aD.out; have bY := aG.out; obtain ⟨aW, aX, aY, aZ⟩ := zq2 aA.out; obtain ⟨bA, bB, bC, bD⟩ := zq2 aH.out))
  go_ret
  exact ⟨zE, zG2 aC.out aI.out⟩
 obtain rfl := Option.some.inj H
 go_enter Tryz.func98, Tryz.ntmps98
 go_wp2_with (first | ((with_reducible refine Qo (N := 2) rfl ?_); refine zBx (N := 2) #[.int .i64 aJ, .int .i64 aK] 48 ?_; intro aQ hg dC hbox hb; have aA := Qa.mk (hbox); have aT := zS hg; have aC := zS hg; replace HB := zX hb; clear hb hbox hg) | ((with_reducible refine Qo (N := 3) rfl ?_); refine zBx (N := 3) #[.int .i64 aM, .int .i64 aN] 48 ?_; intro aU hg w16 hbox hb; have aH := Qa.mk (hbox); have aV := zSg hg (zG aC.out); have aI := zSg hg (zG aC.out); have aD := zL hg aA.out; have aG := zLg hg aA.out; replace aA := zV aA.out hb; replace HB := zX1 aC.out hb; clear hb hbox hg; have bZ := aD.out; have cB := aG.out; obtain ⟨bE, bF, bG, bH⟩ := zq2 aA.out; obtain ⟨bI, bJ, bK, bL⟩ := zq2 aH.out))
 go_ret
 exact ⟨zE, zG2 aC.out aI.out⟩
mutual
def Qg.l0 : Nat → List (S48) → List (S48) → Int → Option ((List (S48)))
 | 0, _, _, _ => none
 | k + 1, x0, x3, x4 => if x4 < (x0.length : Int) then ((Qh.f k x0).bind fun aA => (Qg.j1 k x0 x3 x4 aA)) else (Qg.j1 k x0 x3 x4 false)
def Qg.j1 : Nat → List (S48) → List (S48) → Int → Bool → Option ((List (S48)))
 | 0, _, _, _, _ => none
 | k + 1, x0, x3, x4, aA => if aA = true then (Qg.l1 k x0 x3 x4 (x3.length : Int)) else (some x3)
def Qg.l1 : Nat → List (S48) → List (S48) → Int → Int → Option ((List (S48)))
 | 0, _, _, _, _ => none
 | k + 1, x0, x3, x4, x5 => if x5 > 0 then (if 0 ≤ x4 then (if x4 < (x0.length : Int) then (if 0 ≤ (wrap64 (x5 - 1)) then (if (wrap64 (x5 - 1)) < (x3.length : Int) then ((Zu.f ((Qb x0 x4).f0) ((Qb x0 x4).f1) ((Qb x3 (wrap64 (x5 - 1))).f0) ((Qb x3 (wrap64 (x5 - 1))).f1)).bind fun aQ => (if aQ = true then (Qg.l1 k x0 x3 x4 (wrap64 (x5 - 1))) else ((some (([] : List (S48)) : List (S48))).bind fun aN => (if 0 ≤ x5 then (if x5 ≤ (x3.length : Int) then ((some (x3.drop (x5 : Int).toNat : List (S48))).bind fun aA => (if aN.length + aA.length < 8796093022208 then ((some (aN ++ aA : List (S48))).bind fun aC => ((some (x3.take (x5 : Int).toNat : List (S48))).bind fun aD => (if aD.length < 8796093022208 then ((some (aD ++ [(⟨(Qb x0 x4).f0, (Qb x0 x4).f1⟩ : S48)] : List (S48))).bind fun aG => (if aG.length + aC.length < 8796093022208 then (Qg.l0 k x0 (aG ++ aC) (wrap64 (x4 + 1))) else (none))) else (none)))) else (none))) else (none)) else (none))))) else (none)) else (none)) else (none)) else (none)) else ((some (([] : List (S48)) : List (S48))).bind fun aH => (if 0 ≤ x5 then (if x5 ≤ (x3.length : Int) then ((some (x3.drop (x5 : Int).toNat : List (S48))).bind fun aI => (if aH.length + aI.length < 8796093022208 then ((some (aH ++ aI : List (S48))).bind fun aJ => ((some (x3.take (x5 : Int).toNat : List (S48))).bind fun aK => (if 0 ≤ x4 then (if x4 < (x0.length : Int) then (if aK.length < 8796093022208 then ((some (aK ++ [(⟨(Qb x0 x4).f0, (Qb x0 x4).f1⟩ : S48)] : List (S48))).bind fun aM => (if aM.length + aJ.length < 8796093022208 then (Qg.l0 k x0 (aM ++ aJ) (wrap64 (x4 + 1))) else (none))) else (none)) else (none)) else (none)))) else (none))) else (none)) else (none)))
end
def Qg.f (k : Nat) (l0 : List (S48)) : Option ((List (S48))) := Qg.l0 k l0 (([] : List (S48))) 0
def Qg.T6 : Bool × List (List Nat × List Nat) := (true, [([], []), ([0], [0]), ([1], [1]), ([2], [2]), ([2], [2]), ([3, 4, 2], [2, 3, 4]), ([5, 2], [2, 5]), ([2], [2]), ([2], [2]), ([8, 2], [2, 8]), ([7, 9, 2], [2, 7, 9]), ([10, 2], [2, 10]), ([6, 11, 2, 2], [2, 6, 11]), ([2, 12], [2, 12])])
def Qg.B6 : List Nat := [0, 1, 3, 7, 7, 31, 63, 7, 7, 263, 903, 1927, 4095, 8191]
theorem Qg.tab6 : Vj .any (opsOf Tryz.f44 6) = Qg.T6 := by kernel_rfl
theorem Qg.bits6 : Z5 Qg.T6.2 Qg.B6 = true := by kernel_rfl
def Qg.T9 : Bool × List (List Nat × List Nat) := (true, [([], []), ([], []), ([0, 1], [0, 1]), ([], []), ([], []), ([3, 4], [3, 4]), ([5], [5]), ([6], [6]), ([2, 7], [2, 7]), ([], []), ([8, 9, 8], [8, 9]), ([10, 10, 0, 1, 2, 3, 4, 5, 6, 7, 8, 9, 10], [0, 10])])
def Qg.B9 : List Nat := [0, 0, 3, 0, 0, 24, 56, 120, 255, 0, 1023, 2047]
theorem Qg.tab9 : Vj .any (opsOf Tryz.f44 9) = Qg.T9 := by kernel_rfl
theorem Qg.bits9 : Z5 Qg.T9.2 Qg.B9 = true := by kernel_rfl
set_option maxHeartbeats 8000000 in
set_option maxRecDepth 100000 in
theorem Qg.calls (k : Nat) (A0 : Option Addr) (c0 : Nat) (l0 : List (S48)) (r : List (S48)) (w : World) (hr0 : Kd.C k48 w A0 l0.length l0) (hc0 : l0.length ≤ c0) (h : Qg.f k l0 = some r) :
  Calls Tryz.prog 44 #[.slice A0 l0.length c0] w fun e w' => ∃ jT : Value, e = .returned (jT) ∧ Kd.R k48 48 w' w.heap.size (fun _ => True) jT r ∧ Below w.heap.size w w' := by
 have kV := Tryz.underlying48
 have gF := Qa.mk hr0
 have kW := Qa.mk hc0
 clear hr0 hc0
 have HB := Qa.mk (Below.refl w.heap.size w)
 have H := h
 unfold Qg.f at H
 clear h
 generalize dZ : (([] : List (S48)) : List (S48)) = iO at H
 have eB := Qa.mk dZ.symm
 clear dZ
 have H' := Qa.mk H; clear H
 go_enter Tryz.func44, Tryz.ntmps44
 go_wp2_with (first | ((with_reducible refine Qo (N := 7) rfl ?_); refine Kd.R_lit k48 _ 48 ?hg (N := 7) ?hd (xs := ([] : List (S48))) (inner := []) (ok := fun _ => True) (okp := fun _ => True) ?hr ?hp (fun _ hk => hk) trivial (Below.refl _ _) (Nat.le_refl _) (by simp) ?_; (case hd => rfl); (case hg => rfl); (case hr => first | (go_simp; done) | (go_simp; rfl)); (case hp => exact (J6.none _ _)); intro kX w2 ho3 hb hg_ hnew_; clear hg_ hnew_; (first | rw [← eB.out] at ho3 | (simp only [Int.reduceToNat] at ho3; rw [← eB.out] at ho3)); have gG := Qa.mk (Kd.R_lower ho3 (Ql zB)); replace HB := zX hb; clear hb ho3))
 go_loopg [3, 4] k (fun kq v3 v4 w' => ∃ (aD : List (S48)) (aA : Int), v4 = .int .i64 aA ∧ Qa (Qg.l0 kq l0 aD aA = some r) ∧ Qa (kq ≤ k) ∧ Qa (Kd.R k48 48 w' w.heap.size (fun _ => True) v3 aD) ∧ Qa (Below w.heap.size w w'))
 case atStart => exact ⟨(iO), (0), zF, H', ⟨Nat.le_refl _⟩, ⟨zR gG.out⟩, ⟨zB⟩⟩
 case round =>
 clear H'
 obtain ⟨aD, aA, rfl, HA, eD, aC, HB⟩ := hrel
 cases gk with
 | zero => exact absurd HA.out (by simp [Qg.l0])
 | succ k1 =>
 have H := HA.out
 clear HA
 simp only [Qg.l0] at H
 have iP := Qa.mk H
 clear H
 go_upto_region 3 with (fail)
 go_cut [15] (fun v15 wc => ∃ (kq : Nat) (bW : Bool), v15 = .bool bW ∧ Qa (Qg.j1 kq l0 aD aA bW = some r) ∧ Qa (kq ≤ k1) ∧ Qa (Kd.R k48 48 wc w.heap.size (fun _ => True) u3 aD) ∧ Qa (Below w.heap.size w wc))
 case first =>
  have H := iP.out
  clear iP
  replace H := Xg H
  rcases H with ⟨bZ, H⟩ | ⟨bZ, H⟩
  ·(first | rw [bZ] | (simp only [Zd, Zf]; rw [bZ]) | skip)
   obtain ⟨gH, A6, H⟩ := zO H
   have H' := Qa.mk H; clear H
   go_wp2_with (first | (go_at_call 46; (with_reducible refine (Qh.calls k1 _ _ l0 gH _ ?gI ?gJ A6.out).mono ?_); (case gI => exact zc (Kd.C_below gF.out HB.out)); (case gJ => exact kW.out); rintro e w7 ⟨rfl, hb⟩; replace aC := zW aC.out hb; replace HB := zX hb; (try clear hb); (try clear hb2); (try clear hk); (try clear hi)))
   go_meet
   case rel => exact ⟨_, (gH), zF, H', ⟨by have := eD.out; first | omega | exact Nat.le_refl _⟩, ⟨zR aC.out⟩, ⟨zB⟩⟩
  (first | rw [bZ] | (simp only [Zd, Zf]; rw [bZ]) | skip)
  have H' := Qa.mk H; clear H
  go_wp2
  go_meet
  case rel => exact ⟨_, (false), zF, H', ⟨by have := eD.out; first | omega | exact Nat.le_refl _⟩, ⟨zR aC.out⟩, ⟨zB⟩⟩
 case rest =>
 clear iP
 obtain ⟨kq, bW, rfl, HA, gB, aC, HB⟩ := hcut
 cases kq with
 | zero => exact absurd HA.out (by simp [Qg.j1])
 | succ jU =>
 have H := HA.out
 clear HA
 simp only [Qg.j1] at H
 by_cases c8 : bW = true
 ·subst c8
  replace H := (if_pos rfl).symm.trans H
  have H' := Qa.mk H; clear H
  obtain ⟨eF, bK, kY⟩ := Kd.R_slice aC.out
  subst kY
  go_wp2
  go_loopg [5] jU (fun kq v5 w' => ∃ (aG : Int), v5 = .int .i64 aG ∧ Qa (Qg.l1 kq l0 aD aA aG = some r) ∧ Qa (kq ≤ jU) ∧ Qa (Kd.R k48 48 w' w.heap.size (fun _ => True) (.slice eF aD.length bK) aD) ∧ Qa (Below w.heap.size w w'))
  case atStart => exact ⟨((aD.length : Int)), zF, H', ⟨Nat.le_refl _⟩, ⟨zR aC.out⟩, ⟨zB⟩⟩
  case round =>
  clear H'
  try clear c8
  obtain ⟨aG, rfl, HA, gD, aC, HB⟩ := hrel
  cases gk with
  | zero => exact absurd HA.out (by simp [Qg.l1])
  | succ k3 =>
  have H := HA.out
  clear HA
  simp only [Qg.l1] at H
  replace H := Z8 H
  rcases H with ⟨c10, H⟩ | ⟨c10, H⟩
  ·have gK : decide (0 < aG) = true := decide_eq_true c10
   clear c10
   replace H := J9 H
   rcases H with ⟨jV, H⟩ | ⟨c11, H⟩
   ·replace H := J9 H
    rcases H with ⟨jW, H⟩ | ⟨c12, H⟩
    ·obtain ⟨aU, bJ⟩ : ∃ j_ : Int, (wrap64 (aG - 1)) = j_ := ⟨_, rfl⟩
     first | rw [bJ] at H | simp only [bJ] at H
     have iQ : (IntKind.i64.wrap (aG - 1)) = aU := (Zd _).trans bJ
     replace H := J9 H
     rcases H with ⟨jX, H⟩ | ⟨c14, H⟩
     ·replace H := J9 H
      rcases H with ⟨jY, H⟩ | ⟨c15, H⟩
      ·obtain ⟨iR, jZ, H⟩ := zO H
       by_cases c17 : iR = true
       ·subst c17
        replace H := (if_pos rfl).symm.trans H
        have H' := Qa.mk H; clear H
        try go_wp2
        replace aC := Qa.mk (Kd.R_drew aC.out)
        replace HB := Qa.mk (Qp HB.out)
        have bN : 0 ≤ (aA : Int) := zA
        have bO : aA < (l0.length : Int) := zA
        obtain ⟨aY, fA, aM, aN⟩ := Jj gF.out aA bN bO
        have aV := aN
        have aW := aM
        cases fA
        replace aM := (HB.out.cell (World.block_lt_of_cell? w _ aM)).trans aM
        replace aN := (HB.out.cell (World.block_lt_of_cell? w _ aN)).trans aN
        replace bN := eq_true bN
        replace bO := eq_true bO
        have bP : 0 ≤ ((aU) : Int) := zA
        have bQ : (aU) < (aD.length : Int) := zA
        obtain ⟨aX, fB, bD, bE⟩ := Jj (Kd.R_reads' aC.out).2.2 (aU) bP bQ
        cases fB
        replace bP := eq_true bP
        replace bQ := eq_true bQ
        refine Zy (n := 14) (S := fun w' => w'.cell? (aY.add ((aA).toNat * 2)) = some (.int .i64 ((Qb l0 aA).f0)) ∧ w'.cell? ⟨(aY.add ((aA).toNat * 2)).block, (aY.add ((aA).toNat * 2)).off + 1, none⟩ = some (.int .i64 ((Qb l0 aA).f1)) ∧ w'.cell? (aX.add (((aU)).toNat * 2)) = some (.int .i64 ((Qb aD (aU)).f0)) ∧ w'.cell? ⟨(aX.add (((aU)).toNat * 2)).block, (aX.add (((aU)).toNat * 2)).off + 1, none⟩ = some (.int .i64 ((Qb aD (aU)).f1))) (ds := []) #[false, false, false, false, false, false, false, false, false, false, false, false, false, false] (by kernel_rfl) rfl rfl ⟨((HB.out.cell (World.block_lt_of_cell? w _ aW)).trans aW), ((HB.out.cell (World.block_lt_of_cell? w _ aV)).trans aV), bD, bE⟩ (fun hHeld => ?_); refine Jr Qg.tab6 Qg.bits6 (fun HT_ HW_ => ?_)
        generalize wr.drew = lK at aC HB aM aN bD bE hHeld ⊢
        refine zP 0 (some 20) rfl rfl ?_
        refine zP 1 (some 21) rfl rfl ?_
        refine zP 2 (some 22) rfl rfl ?_
        refine zP 3 (some 23) rfl rfl ?_
        refine zP 4 (some 24) rfl rfl ?_
        refine zP 5 (some 25) rfl rfl ?_
        refine zP 7 (some 27) rfl rfl ?_
        refine zP 8 (some 28) rfl rfl ?_
        refine zP 9 (some 29) rfl rfl ?_
        refine zP 10 (some 30) rfl rfl ?_
        refine zY4 6 (some 26) rfl rfl hHeld ?_
        refine zY4 11 (some 31) rfl rfl hHeld ?_
        refine zU 12 (some 32) rfl rfl (fun K hK => ?_)
        refine Xq Tryz.func98 (by kernel_rfl) rfl #[.agg #[.int .i64 ((Qb l0 aA).f0), .int .i64 ((Qb l0 aA).f1)], .agg #[.int .i64 ((Qb aD (aU)).f0), .int .i64 ((Qb aD (aU)).f1)]] (by rfl) rfl rfl (by (try simp only [List.map_toArray, List.map_cons, List.map_nil]); first | done | (simp only [bJ]; rfl) | rfl | (simp only [List.length_drop, List.length_take]; rfl)) ?_
        with_reducible refine (Zu.calls ((Qb l0 aA).f0) ((Qb l0 aA).f1) ((Qb aD (aU)).f0) ((Qb aD (aU)).f1) true _ jZ.out).mono ?_
        rintro e lL ⟨rfl, hb⟩
        have fC := (hb.cell (World.block_lt_of_cell? _ _ (hHeld.2.2.1))).trans (hHeld.2.2.1)
        have fD := (hb.cell (World.block_lt_of_cell? _ _ (hHeld.2.2.2))).trans (hHeld.2.2.2)
        refine ⟨_, rfl, ?_⟩
        replace aC := zW aC.out hb
        replace HB := zX hb
        (try clear hb)
        refine hK.out _ _ ⟨((HB.out.cell (World.block_lt_of_cell? w _ aW)).trans aW), ((HB.out.cell (World.block_lt_of_cell? w _ aV)).trans aV), fC, fD⟩ (fun hHeld => ?_)
        clear hK K
        refine zN ?_
        refine zP 13 (some 33) rfl rfl ?_
        refine Ya (Zj HT_.out (by kernel_rfl)) ?_
        try go_wp2
        go_roundg k3
        case measure => have := eD.out; have := gB.out; have := gD.out; omega
        case rel => exact ⟨(aU), (by first | rfl | (simp; done) | (simp only [← bJ] <;> (first | rfl | simp)) | (simp [*]; done)), H', ⟨by have := eD.out; have := gB.out; have := gD.out; omega⟩, ⟨zR aC.out⟩, ⟨zB⟩⟩
       replace c17 := Bool.eq_false_iff.mpr c17
       subst c17
       replace H := (if_neg zFf).symm.trans H
       obtain ⟨iT, eG, H⟩ := zs H
       replace H := Yk H
       rcases H with ⟨kC, kD, H⟩ | ⟨c20, H⟩
       ·replace H := Yk H
        rcases H with ⟨kE, kF, H⟩ | ⟨c21, H⟩
        ·obtain ⟨bH, bR, H⟩ := zs H
         replace H := Z8 H
         rcases H with ⟨iU, H⟩ | ⟨iU, H⟩
         ·have gL := Qa.mk iU
          clear iU
          obtain ⟨cB, fE, H⟩ := zs H
          have kG := eq_true (zA : aG ≤ (aD.length : Int))
          obtain ⟨cK, cO, H⟩ := zs H
          replace H := Z8 H
          rcases H with ⟨c24, H⟩ | ⟨c24, H⟩
          ·have gM := Qa.mk c24
           clear c24
           obtain ⟨eH, fF, H⟩ := zs H
           replace H := Z8 H
           rcases H with ⟨iV, H⟩ | ⟨iV, H⟩
           ·have gN := Qa.mk iV
            clear iV
            generalize cZ : (eH ++ cB : List (S48)) = gP at H
            have fG := Qa.mk cZ.symm
            clear cZ
            have H' := Qa.mk H; clear H
            try go_wp2
            replace aC := Qa.mk (Kd.R_drew aC.out)
            replace HB := Qa.mk (Qp HB.out)
            have bN : 0 ≤ (aA : Int) := zA
            have bO : aA < (l0.length : Int) := zA
            obtain ⟨aY, fA, aM, aN⟩ := Jj gF.out aA bN bO
            have aV := aN
            have aW := aM
            cases fA
            replace aM := (HB.out.cell (World.block_lt_of_cell? w _ aM)).trans aM
            replace aN := (HB.out.cell (World.block_lt_of_cell? w _ aN)).trans aN
            replace bN := eq_true bN
            replace bO := eq_true bO
            have bP : 0 ≤ ((aU) : Int) := zA
            have bQ : (aU) < (aD.length : Int) := zA
            obtain ⟨aX, fB, bD, bE⟩ := Jj (Kd.R_reads' aC.out).2.2 (aU) bP bQ
            cases fB
            replace bP := eq_true bP
            replace bQ := eq_true bQ
            refine Zy (n := 14) (S := fun w' => w'.cell? (aY.add ((aA).toNat * 2)) = some (.int .i64 ((Qb l0 aA).f0)) ∧ w'.cell? ⟨(aY.add ((aA).toNat * 2)).block, (aY.add ((aA).toNat * 2)).off + 1, none⟩ = some (.int .i64 ((Qb l0 aA).f1)) ∧ w'.cell? (aX.add (((aU)).toNat * 2)) = some (.int .i64 ((Qb aD (aU)).f0)) ∧ w'.cell? ⟨(aX.add (((aU)).toNat * 2)).block, (aX.add (((aU)).toNat * 2)).off + 1, none⟩ = some (.int .i64 ((Qb aD (aU)).f1))) (ds := []) #[false, false, false, false, false, false, false, false, false, false, false, false, false, false] (by kernel_rfl) rfl rfl ⟨((HB.out.cell (World.block_lt_of_cell? w _ aW)).trans aW), ((HB.out.cell (World.block_lt_of_cell? w _ aV)).trans aV), bD, bE⟩ (fun hHeld => ?_); refine Jr Qg.tab6 Qg.bits6 (fun HT_ HW_ => ?_)
            generalize wr.drew = lM at aC HB aM aN bD bE hHeld ⊢
            refine zP 0 (some 20) rfl rfl ?_
            refine zP 1 (some 21) rfl rfl ?_
            refine zP 2 (some 22) rfl rfl ?_
            refine zP 3 (some 23) rfl rfl ?_
            refine zP 4 (some 24) rfl rfl ?_
            refine zP 5 (some 25) rfl rfl ?_
            refine zP 7 (some 27) rfl rfl ?_
            refine zP 8 (some 28) rfl rfl ?_
            refine zP 9 (some 29) rfl rfl ?_
            refine zP 10 (some 30) rfl rfl ?_
            refine zY4 6 (some 26) rfl rfl hHeld ?_
            refine zY4 11 (some 31) rfl rfl hHeld ?_
            refine zU 12 (some 32) rfl rfl (fun K hK => ?_)
            refine Xq Tryz.func98 (by kernel_rfl) rfl #[.agg #[.int .i64 ((Qb l0 aA).f0), .int .i64 ((Qb l0 aA).f1)], .agg #[.int .i64 ((Qb aD (aU)).f0), .int .i64 ((Qb aD (aU)).f1)]] (by rfl) rfl rfl (by (try simp only [List.map_toArray, List.map_cons, List.map_nil]); first | done | (simp only [bJ]; rfl) | rfl | (simp only [List.length_drop, List.length_take]; rfl)) ?_
            with_reducible refine (Zu.calls ((Qb l0 aA).f0) ((Qb l0 aA).f1) ((Qb aD (aU)).f0) ((Qb aD (aU)).f1) false _ jZ.out).mono ?_
            rintro e lN ⟨rfl, hb⟩
            have fC := (hb.cell (World.block_lt_of_cell? _ _ (hHeld.2.2.1))).trans (hHeld.2.2.1)
            have fD := (hb.cell (World.block_lt_of_cell? _ _ (hHeld.2.2.2))).trans (hHeld.2.2.2)
            refine ⟨_, rfl, ?_⟩
            replace aC := zW aC.out hb
            replace HB := zX hb
            (try clear hb)
            refine hK.out _ _ ⟨((HB.out.cell (World.block_lt_of_cell? w _ aW)).trans aW), ((HB.out.cell (World.block_lt_of_cell? w _ aV)).trans aV), fC, fD⟩ (fun hHeld => ?_)
            clear hK K
            refine zN ?_
            refine zP 13 (some 33) rfl rfl ?_
            refine Ya (Zj HT_.out (by kernel_rfl)) ?_
            try go_wp2_with (first | ((with_reducible refine Qo (N := 36) rfl ?_); refine Kd.R_lit k48 _ 48 ?hg (N := 36) ?hd (xs := ([] : List (S48))) (inner := []) (ok := fun _ => True) (okp := fun _ => True) ?hr ?hp (fun _ hk => hk) trivial (Below.refl _ _) (Nat.le_refl _) (by simp) ?_; (case hd => rfl); (case hg => rfl); (case hr => first | (go_simp; done) | (go_simp; rfl)); (case hp => exact (J6.none _ _)); intro iW lQ bX hb hg_ hnew_; clear hg_ hnew_; (first | rw [← eG.out] at bX | (simp only [Int.reduceToNat] at bX; rw [← eG.out] at bX)); have dA := Qa.mk (Kd.R_lower (Kd.R_new' bX (Kd.R_lt (zR aC.out))) (Ql zB)); replace aC := Qa.mk (Kd.R_elder' (zR aC.out) (Kd.R_base bX) hb); replace HB := zX hb; clear hb bX; have iX : (aG : Int) ≤ ((aD.length : Int) : Int) := zA; obtain ⟨kZ, eO, _, eP, _⟩ := info_parts Yf; have bL : aD.length ≤ bK := (Kd.R_reads' aC.out).2.1; have gQ : Kd.C k48 _ (some aX) aD.length aD := (Kd.R_reads' aC.out).2.2; have iY : (0 : Int) ≤ (aG : Int) := zA; have fH := jC4 (P := Tryz.prog) 28 48 .i64 Tryz.underlying28 eO 2 eP (some aX) aD.length bK aG iY iX; have dB := Kd.C_drop (m := (aG : Int).toNat) (c := bK) gQ (by omega) bL; obtain ⟨kH, dS⟩ : ∃ A1, A1 = (if bK = (aG : Int).toNat then (some aX) else ((some aX) : Option Addr).map (·.add ((aG : Int).toNat * 2))) := ⟨_, rfl⟩; obtain ⟨lC, fI⟩ : ∃ c1, c1 = bK - (aG : Int).toNat := ⟨_, rfl⟩; have dU : bH.length = aD.length - (aG : Int).toNat := (by rw [bR.out, List.length_drop] <;> omega); rw [show (aD).drop (aG : Int).toNat = bH from bR.out.symm] at dB; replace dB : Kd.C k48 _ kH bH.length bH := (by rw [dS]; exact dB); rw [← dU, ← dS, ← fI] at fH; have bF := Qa.mk dB; have iZ := Qa.mk (show bH.length ≤ lC from by rw [dU, fI]; exact Nat.sub_le_sub_right bL _); clear dB gQ bL eO eP fI; have lD := Qa.mk dU; have jA := Qa.mk dS; clear dU dS; have jB := Qa.mk (show (aG : Int).toNat ≤ aD.length from by omega); replace iX := eq_true iX) | ((with_reducible refine J5 (b := .append) (xs := #[.tmp 36, .tmp 39]) rfl ?_); at_builtin; refine Kd.R_append_rows k48 (w0 := w) w.heap.size rfl (.tmp 36) (.tmp 39) 28 48 (.agg #[(.int .i64 0), (.int .i64 0)]) 16 rfl Tryz.underlying28 Yf rfl (by decide) (by omega) iW iT bH _ _ _ (fun k_ => some k_ ≠ (.slice (some aX) aD.length bK : Value).ownBlock) (fun _ => False) rfl rfl ?aO ?aR (fun _ _ h => h) (fun _ h => h.elim) ?aF ?aB ?aS ?aL ?_; (case aR => repeat (first | exact (by repeat (first | (with_reducible exact bF.out) | (with_reducible refine Kd.C_alloc ?_ _) | (with_reducible refine Kd.C_drewN ?_ _) | (with_reducible refine Kd.C_drew ?_) | exact bF.out)) | (with_reducible refine Kd.C_alloc ?_ _) | (with_reducible refine Kd.C_drewN ?_ _) | (with_reducible refine Kd.C_drew ?_))); (case aB => exact zB); (case aF => exact (fun k_ hk => Kd.fresh' (Kd.R_lt (zR aC.out)) k_ hk)); (case aO => exact (zR (Kd.R_mono dA.out (fun _ hk => hk.2)))); (case aS => exact (Ql zB)); (case aL => have := gL.out; omega); intro gT kI ho hb hg hat; rw [← fE.out] at ho; replace bF := Qa.mk ((show Kd.C k48 kI kH bH.length bH from by rw [bR.out, jA.out]; exact Kd.C_drop (m := (aG : Int).toNat) (c := bK) ((Kd.R_reads' (Kd.R_after (ok := (fun _ => True)) (zR aC.out) hg hat)).2.2) jB.out ((Kd.R_reads' (Kd.R_after (ok := (fun _ => True)) (zR aC.out) hg hat)).2.1))); replace aC := Qa.mk (Kd.R_after (ok := (fun _ => True)) (zR aC.out) hg hat); have aQ := Qa.mk (ho); replace HB := Qa.mk (hb); clear dA; clear ho hb hg hat))
            replace aC := Qa.mk (Kd.R_drew aC.out)
            replace aQ := Qa.mk (Kd.R_drew aQ.out)
            replace bF := Qa.mk (Kd.C_drew bF.out)
            replace HB := Qa.mk (Qp HB.out)
            have jC : (aG : Int) ≤ ((aD.length : Int) : Int) := zA
            obtain ⟨lF, eQ, _, gU, _⟩ := info_parts Yf
            have fJ := jGi (P := Tryz.prog) 28 48 .i64 Tryz.underlying28 eQ (some aX) aD.length bK aG (zA) jC (Kd.R_reads' aC.out).2.1
            have dV := Kd.R_take (m := (aG : Int).toNat) aC.out (by omega)
            have gV : cK.length = (aG : Int).toNat := (by rw [cO.out, List.length_take]; omega)
            rw [← cO.out] at dV
            rw [← gV] at dV fJ
            clear gV eQ gU aC
            have bS := Qa.mk dV
            clear dV
            replace jC := eq_true jC
            have dC : 0 ≤ (aA : Int) := zA
            have dD : aA < (l0.length : Int) := zA
            obtain ⟨fK, gW, aZ, bA⟩ := Jj gF.out aA dC dD
            have aH := bA
            have aI := aZ
            obtain rfl : aY = fK := (by injection gW)
            replace aZ := (HB.out.cell (World.block_lt_of_cell? w _ aZ)).trans aZ
            replace bA := (HB.out.cell (World.block_lt_of_cell? w _ bA)).trans bA
            replace dC := eq_true dC
            replace dD := eq_true dD
            refine Zy (n := 12) (S := fun w' => w'.cell? (aY.add ((aA).toNat * 2)) = some (.int .i64 ((Qb l0 aA).f0)) ∧ w'.cell? ⟨(aY.add ((aA).toNat * 2)).block, (aY.add ((aA).toNat * 2)).off + 1, none⟩ = some (.int .i64 ((Qb l0 aA).f1))) (ds := []) #[false, false, false, false, false, false, false, false, false, false, false, false] (by kernel_rfl) rfl rfl ⟨((HB.out.cell (World.block_lt_of_cell? w _ aI)).trans aI), ((HB.out.cell (World.block_lt_of_cell? w _ aH)).trans aH)⟩ (fun hHeld => ?_); refine Jr Qg.tab9 Qg.bits9 (fun HT_ HW_ => ?_)
            generalize kI.drew = w32 at aC aQ bF HB bS aZ bA hHeld ⊢
            refine zP 0 (some 41) rfl rfl ?_
            refine zP 1 (some 42) rfl rfl ?_
            refine zP 2 (some 43) rfl rfl ?_
            refine zP 3 (some 44) rfl rfl ?_
            refine zP 4 (some 45) rfl rfl ?_
            refine zP 5 (some 46) rfl rfl ?_
            refine zP 9 (some 50) rfl rfl ?_
            refine zY2 6 (some 47) rfl rfl hHeld ?_
            refine zU 7 (some 48) rfl rfl (fun K hK => ?_)
            refine jCr (w1 := ?_) (v := ?_) (by rfl) rfl ?_ ?_
            rotate_left 2
            ·go_simp
             constructor
             ·rfl
             rfl
            refine hK.out _ _ ⟨(World.cell?_alloc_lt _ _ _ (World.block_lt_of_cell? _ _ (((HB.out.cell (World.block_lt_of_cell? w _ aI)).trans aI)))).trans (((HB.out.cell (World.block_lt_of_cell? w _ aI)).trans aI)), (World.cell?_alloc_lt _ _ _ (World.block_lt_of_cell? _ _ (((HB.out.cell (World.block_lt_of_cell? w _ aH)).trans aH)))).trans (((HB.out.cell (World.block_lt_of_cell? w _ aH)).trans aH))⟩ (fun hHeld => ?_)
            clear hK K
            refine zN ?_
            refine zU 8 (some 49) rfl rfl (fun K hK => ?_)
            refine Kd.R_append_step k48 (w0 := w) w.heap.size (by rfl) (.tmp 43) (.tmp 48) 28 48 (.agg #[(.int .i64 0), (.int .i64 0)]) 16 rfl Tryz.underlying28 Yf rfl (by decide) (by omega) (.slice (some aX) cK.length bK) cK (⟨(Qb l0 aA).f0, (Qb l0 aA).f1⟩ : S48) [.int .i64 ((Qb l0 aA).f0), .int .i64 ((Qb l0 aA).f1)] (fun k_ => some k_ ≠ (gT : Value).ownBlock) (fun _ => False) rfl rfl ?aP (fun _ hk => hk.elim) ?aF ?aO ?aB ?aS ?aL ?_
            (case aP => exact Z0 _ _ _ (⟨(Qb l0 aA).f0, (Qb l0 aA).f1⟩ : S48))
            (case aB => exact zB)
            (case aF => exact (fun k_ hk => Kd.fresh' (Kd.R_lt (zR aQ.out)) k_ hk))
            (case aO => exact (zR (Kd.R_mono bS.out (fun _ hk => hk.2))))
            (case aS => exact (Ql zB))
            (case aL => have := gM.out; omega)
            intro gX lU ho hb hg hat
            rw [← fF.out] at ho
            have dE := Qa.mk (Kd.R_after (ok := (fun _ => True)) (by (with_reducible repeat (first | apply Kd.R_alloc | apply Kd.R_drewN | apply Kd.R_drew)); exact Kd.R_mono aQ.out (fun _ hk => ⟨trivial, by first | exact hk | exact fun e_ => hk (e_.trans (jCp _ _ _ _ _))⟩)) hg hat)
            have dF := Qa.mk (hb)
            have dG := Qa.mk (ho)
            clear aQ
            clear HB
            clear bS
            have aQ := dE
            have HB := dF
            have dH := dG
            clear dE dF dG
            clear ho hb hg hat
            obtain ⟨jD, jE, gY⟩ := Kd.R_slice aQ.out
            (first | subst gY | (injection gY with gZ jF iA; have jG := gZ.symm; have jH := iA.symm; clear gZ jF iA; subst jG; subst jH))
            refine hK.out _ _ ⟨((HB.out.cell (World.block_lt_of_cell? w _ aI)).trans aI), ((HB.out.cell (World.block_lt_of_cell? w _ aH)).trans aH)⟩ (fun hHeld => ?_)
            clear hK K
            refine zN ?_
            refine zU 10 (some 51) rfl rfl (fun K hK => ?_)
            refine Kd.R_append_rows_step k48 (w0 := w) w.heap.size (by rfl) (.tmp 49) (.tmp 50) 28 48 (.agg #[(.int .i64 0), (.int .i64 0)]) 16 rfl Tryz.underlying28 Yf rfl (by decide) (by omega) gX eH cB _ _ _ (fun k_ => some k_ ≠ (.slice jD cB.length jE : Value).ownBlock) (fun _ => False) rfl rfl ?aO ?aR (fun _ _ h => h) (fun _ h => h.elim) ?aF ?aB ?aS ?aL ?_
            (case aR => repeat (first | exact (Kd.R_reads' aQ.out).2.2 | (with_reducible refine Kd.C_alloc ?_ _) | (with_reducible refine Kd.C_drewN ?_ _) | (with_reducible refine Kd.C_drew ?_)))
            (case aB => exact zB)
            (case aF => exact (fun k_ hk => Kd.fresh' (Kd.R_lt (zR aQ.out)) k_ hk))
            (case aO => exact (zR dH.out))
            (case aS => exact (Ql zB))
            (case aL => have := gN.out; omega)
            intro kJ lV ho hb hg hat
            rw [← fG.out] at ho
            have dE := Qa.mk (Kd.R_after (ok := (fun _ => True)) (zR aQ.out) hg hat)
            have dF := Qa.mk (hb)
            have dG := Qa.mk (ho)
            clear aQ
            clear HB
            clear dH
            have aQ := dE
            have HB := dF
            have fM := dG
            clear dE dF dG
            clear ho hb hg hat
            refine hK.out _ _ ⟨((HB.out.cell (World.block_lt_of_cell? w _ aI)).trans aI), ((HB.out.cell (World.block_lt_of_cell? w _ aH)).trans aH)⟩ (fun hHeld => ?_)
            clear hK K
            refine zN ?_
            refine zP 11 (some 3) rfl rfl ?_
            refine Ya (Zj HT_.out (by kernel_rfl)) ?_
            try go_wp2
            go_roundg k3
            case measure => have := eD.out; have := gB.out; have := gD.out; omega
            case rel => exact ⟨(gP), (wrap64 (aA + 1)), zF, H', ⟨by have := eD.out; have := gB.out; have := gD.out; omega⟩, ⟨zR (Kd.R_mono fM.out (fun _ hk => trivial))⟩, ⟨zB⟩⟩
           exact absurd H (by simp)
          exact absurd H (by simp)
         exact absurd H (by simp)
        exact absurd H (by simp)
       exact absurd H (by simp)
      exact absurd H (by simp)
     exact absurd H (by simp)
    exact absurd H (by simp)
   exact absurd H (by simp)
  have gK : decide (0 < aG) = false := decide_eq_false c10
  clear c10
  obtain ⟨iB, dI, H⟩ := zs H
  replace H := Yk H
  rcases H with ⟨kK, kL, H⟩ | ⟨c37, H⟩
  ·replace H := Yk H
   rcases H with ⟨kM, kN, H⟩ | ⟨lW, H⟩
   ·obtain ⟨bI, bT, H⟩ := zs H
    replace H := Z8 H
    rcases H with ⟨jI, H⟩ | ⟨jI, H⟩
    ·have iC := Qa.mk jI
     clear jI
     obtain ⟨dJ, fO, H⟩ := zs H
     have kP := eq_true (zA : aG ≤ (aD.length : Int))
     obtain ⟨dK, dL, H⟩ := zs H
     replace H := J9 H
     rcases H with ⟨kQ, H⟩ | ⟨lX, H⟩
     ·replace H := J9 H
      rcases H with ⟨kR, H⟩ | ⟨lY, H⟩
      ·replace H := Z8 H
       rcases H with ⟨jJ, H⟩ | ⟨jJ, H⟩
       ·have iD := Qa.mk jJ
        clear jJ
        obtain ⟨eU, fP, H⟩ := zs H
        replace H := Z8 H
        rcases H with ⟨jK, H⟩ | ⟨jK, H⟩
        ·have iE := Qa.mk jK
         clear jK
         generalize dM : (eU ++ dJ : List (S48)) = iF at H
         have fQ := Qa.mk dM.symm
         clear dM
         have H' := Qa.mk H; clear H
         try go_wp2
         replace aC := Qa.mk (Kd.R_drew aC.out)
         replace HB := Qa.mk (Qp HB.out)
         refine Zy (n := 14) (S := fun w' => True) (ds := []) #[false, false, false, false, false, false, false, false, false, false, false, false, false, false] (by kernel_rfl) rfl rfl trivial (fun hHeld => ?_); refine Jr Qg.tab6 Qg.bits6 (fun HT_ HW_ => ?_)
         generalize wr.drew = lZ at aC HB hHeld ⊢
         refine zP 0 (some 20) rfl rfl ?_
         refine zP 1 (some 21) rfl rfl ?_
         refine zP 2 (some 22) rfl rfl ?_
         refine Yb (i := 3) (N := some 23) (v := undef) (a' := ?_) #[true, true, true, true, false, false, false, false, false, false, false, false, false, false] rfl rfl (Xf HT_.out (by kernel_rfl)) (fun _ _ _ h => h) (Or.inr ⟨by rfl, rfl⟩) ?_ ?_
         rotate_left
         ·simp only [Act.put, List.setIfInBounds_toArray, List.set_cons_zero, List.set_cons_succ, Zd, Zf]
          rfl
         refine Yb (i := 4) (N := some 24) (v := undef) (a' := ?_) #[true, true, true, true, true, false, false, false, false, false, false, false, false, false] rfl rfl (Xf HT_.out (by kernel_rfl)) (fun _ _ _ h => h) (Or.inr ⟨by rfl, rfl⟩) ?_ ?_
         rotate_left
         ·simp only [Act.put, List.setIfInBounds_toArray, List.set_cons_zero, List.set_cons_succ, Zd, Zf]
          rfl
         refine Yb (i := 5) (N := some 25) (v := undef) (a' := ?_) #[true, true, true, true, true, true, false, false, false, false, false, false, false, false] rfl rfl (Xf HT_.out (by kernel_rfl)) (fun _ _ _ h => h) (Or.inr ⟨by rfl, rfl⟩) ?_ ?_
         rotate_left
         ·simp only [Act.put, List.setIfInBounds_toArray, List.set_cons_zero, List.set_cons_succ, Zd, Zf]
          rfl
         refine Yb (i := 6) (N := some 26) (v := undef) (a' := ?_) #[true, true, true, true, true, true, true, false, false, false, false, false, false, false] rfl rfl (Xf HT_.out (by kernel_rfl)) (fun _ _ _ h => h) (Or.inr ⟨by rfl, rfl⟩) ?_ ?_
         rotate_left
         ·simp only [Act.put, List.setIfInBounds_toArray, List.set_cons_zero, List.set_cons_succ, Zd, Zf]
          rfl
         refine Yb (i := 7) (N := some 27) (v := undef) (a' := ?_) #[true, true, true, true, true, true, true, true, false, false, false, false, false, false] rfl rfl (Xf HT_.out (by kernel_rfl)) (fun _ _ _ h => h) (Or.inr ⟨by rfl, rfl⟩) ?_ ?_
         rotate_left
         ·simp only [Act.put, List.setIfInBounds_toArray, List.set_cons_zero, List.set_cons_succ, Zd, Zf]
          rfl
         refine Yb (i := 8) (N := some 28) (v := undef) (a' := ?_) #[true, true, true, true, true, true, true, true, true, false, false, false, false, false] rfl rfl (Xf HT_.out (by kernel_rfl)) (fun _ _ _ h => h) (Or.inr ⟨by rfl, rfl⟩) ?_ ?_
         rotate_left
         ·simp only [Act.put, List.setIfInBounds_toArray, List.set_cons_zero, List.set_cons_succ, Zd, Zf]
          rfl
         refine Yb (i := 9) (N := some 29) (v := undef) (a' := ?_) #[true, true, true, true, true, true, true, true, true, true, false, false, false, false] rfl rfl (Xf HT_.out (by kernel_rfl)) (fun _ _ _ h => h) (Or.inr ⟨by rfl, rfl⟩) ?_ ?_
         rotate_left
         ·simp only [Act.put, List.setIfInBounds_toArray, List.set_cons_zero, List.set_cons_succ, Zd, Zf]
          rfl
         refine Yb (i := 10) (N := some 30) (v := undef) (a' := ?_) #[true, true, true, true, true, true, true, true, true, true, true, false, false, false] rfl rfl (Xf HT_.out (by kernel_rfl)) (fun _ _ _ h => h) (Or.inr ⟨by rfl, rfl⟩) ?_ ?_
         rotate_left
         ·simp only [Act.put, List.setIfInBounds_toArray, List.set_cons_zero, List.set_cons_succ, Zd, Zf]
          rfl
         refine Yb (i := 11) (N := some 31) (v := undef) (a' := ?_) #[true, true, true, true, true, true, true, true, true, true, true, true, false, false] rfl rfl (Xf HT_.out (by kernel_rfl)) (fun _ _ _ h => h) (Or.inr ⟨by rfl, rfl⟩) ?_ ?_
         rotate_left
         ·simp only [Act.put, List.setIfInBounds_toArray, List.set_cons_zero, List.set_cons_succ, Zd, Zf]
          rfl
         refine Yb (i := 12) (N := some 32) (v := undef) (a' := ?_) #[true, true, true, true, true, true, true, true, true, true, true, true, true, false] rfl rfl (Xf HT_.out (by kernel_rfl)) (fun _ _ _ h => h) (Or.inr ⟨by rfl, rfl⟩) ?_ ?_
         rotate_left
         ·simp only [Act.put, List.setIfInBounds_toArray, List.set_cons_zero, List.set_cons_succ, Zd, Zf]
          rfl
         refine zP 13 (some 33) rfl rfl ?_
         refine Ya (Zj HT_.out (by kernel_rfl)) ?_
         try go_wp2_with (first | ((with_reducible refine Qo (N := 36) rfl ?_); refine Kd.R_lit k48 _ 48 ?hg (N := 36) ?hd (xs := ([] : List (S48))) (inner := []) (ok := fun _ => True) (okp := fun _ => True) ?hr ?hp (fun _ hk => hk) trivial (Below.refl _ _) (Nat.le_refl _) (by simp) ?_; (case hd => rfl); (case hg => rfl); (case hr => first | (go_simp; done) | (go_simp; rfl)); (case hp => exact (J6.none _ _)); intro iG mD bY hb hg_ hnew_; clear hg_ hnew_; (first | rw [← dI.out] at bY | (simp only [Int.reduceToNat] at bY; rw [← dI.out] at bY)); have dN := Qa.mk (Kd.R_lower (Kd.R_new' bY (Kd.R_lt (zR aC.out))) (Ql zB)); replace aC := Qa.mk (Kd.R_elder' (zR aC.out) (Kd.R_base bY) hb); replace HB := zX hb; clear hb bY; have jL : (aG : Int) ≤ ((aD.length : Int) : Int) := zA; obtain ⟨lG, eX, _, eY, _⟩ := info_parts Yf; have bM : aD.length ≤ bK := (Kd.R_reads' aC.out).2.1; have iH : Kd.C k48 _ eF aD.length aD := (Kd.R_reads' aC.out).2.2; have jM : (0 : Int) ≤ (aG : Int) := zA; have fT := jC4 (P := Tryz.prog) 28 48 .i64 Tryz.underlying28 eX 2 eY eF aD.length bK aG jM jL; have dO := Kd.C_drop (m := (aG : Int).toNat) (c := bK) iH (by omega) bM; obtain ⟨kS, dW⟩ : ∃ A1, A1 = (if bK = (aG : Int).toNat then eF else (eF : Option Addr).map (·.add ((aG : Int).toNat * 2))) := ⟨_, rfl⟩; obtain ⟨lH, fU⟩ : ∃ c1, c1 = bK - (aG : Int).toNat := ⟨_, rfl⟩; have dX : bI.length = aD.length - (aG : Int).toNat := (by rw [bT.out, List.length_drop] <;> omega); rw [show (aD).drop (aG : Int).toNat = bI from bT.out.symm] at dO; replace dO : Kd.C k48 _ kS bI.length bI := (by rw [dW]; exact dO); rw [← dX, ← dW, ← fU] at fT; have bG := Qa.mk dO; have jN := Qa.mk (show bI.length ≤ lH from by rw [dX, fU]; exact Nat.sub_le_sub_right bM _); clear dO iH bM eX eY fU; have lI := Qa.mk dX; have jO := Qa.mk dW; clear dX dW; have jP := Qa.mk (show (aG : Int).toNat ≤ aD.length from by omega); replace jL := eq_true jL) | ((with_reducible refine J5 (b := .append) (xs := #[.tmp 36, .tmp 39]) rfl ?_); at_builtin; refine Kd.R_append_rows k48 (w0 := w) w.heap.size rfl (.tmp 36) (.tmp 39) 28 48 (.agg #[(.int .i64 0), (.int .i64 0)]) 16 rfl Tryz.underlying28 Yf rfl (by decide) (by omega) iG iB bI _ _ _ (fun k_ => some k_ ≠ (.slice eF aD.length bK : Value).ownBlock) (fun _ => False) rfl rfl ?aO ?aR (fun _ _ h => h) (fun _ h => h.elim) ?aF ?aB ?aS ?aL ?_; (case aR => repeat (first | exact (by repeat (first | (with_reducible exact bG.out) | (with_reducible refine Kd.C_alloc ?_ _) | (with_reducible refine Kd.C_drewN ?_ _) | (with_reducible refine Kd.C_drew ?_) | exact bG.out)) | (with_reducible refine Kd.C_alloc ?_ _) | (with_reducible refine Kd.C_drewN ?_ _) | (with_reducible refine Kd.C_drew ?_))); (case aB => exact zB); (case aF => exact (fun k_ hk => Kd.fresh' (Kd.R_lt (zR aC.out)) k_ hk)); (case aO => exact (zR (Kd.R_mono dN.out (fun _ hk => hk.2)))); (case aS => exact (Ql zB)); (case aL => have := iC.out; omega); intro iI kT ho hb hg hat; rw [← fO.out] at ho; replace bG := Qa.mk ((show Kd.C k48 kT kS bI.length bI from by rw [bT.out, jO.out]; exact Kd.C_drop (m := (aG : Int).toNat) (c := bK) ((Kd.R_reads' (Kd.R_after (ok := (fun _ => True)) (zR aC.out) hg hat)).2.2) jP.out ((Kd.R_reads' (Kd.R_after (ok := (fun _ => True)) (zR aC.out) hg hat)).2.1))); replace aC := Qa.mk (Kd.R_after (ok := (fun _ => True)) (zR aC.out) hg hat); have aT := Qa.mk (ho); replace HB := Qa.mk (hb); clear dN; clear ho hb hg hat))
         replace aC := Qa.mk (Kd.R_drew aC.out)
         replace aT := Qa.mk (Kd.R_drew aT.out)
         replace bG := Qa.mk (Kd.C_drew bG.out)
         replace HB := Qa.mk (Qp HB.out)
         have jQ : (aG : Int) ≤ ((aD.length : Int) : Int) := zA
         obtain ⟨lJ, eZ, _, iJ, _⟩ := info_parts Yf
         have fV := jGi (P := Tryz.prog) 28 48 .i64 Tryz.underlying28 eZ eF aD.length bK aG (zA) jQ (Kd.R_reads' aC.out).2.1
         have dY := Kd.R_take (m := (aG : Int).toNat) aC.out (by omega)
         have iK : dK.length = (aG : Int).toNat := (by rw [dL.out, List.length_take]; omega)
         rw [← dL.out] at dY
         rw [← iK] at dY fV
         clear iK eZ iJ aC
         have bU := Qa.mk dY
         clear dY
         replace jQ := eq_true jQ
         have dP : 0 ≤ (aA : Int) := zA
         have dQ : aA < (l0.length : Int) := zA
         obtain ⟨bV, iL, bB, bC⟩ := Jj gF.out aA dP dQ
         have aJ := bC
         have aK := bB
         cases iL
         replace bB := (HB.out.cell (World.block_lt_of_cell? w _ bB)).trans bB
         replace bC := (HB.out.cell (World.block_lt_of_cell? w _ bC)).trans bC
         replace dP := eq_true dP
         replace dQ := eq_true dQ
         refine Zy (n := 12) (S := fun w' => w'.cell? (bV.add ((aA).toNat * 2)) = some (.int .i64 ((Qb l0 aA).f0)) ∧ w'.cell? ⟨(bV.add ((aA).toNat * 2)).block, (bV.add ((aA).toNat * 2)).off + 1, none⟩ = some (.int .i64 ((Qb l0 aA).f1))) (ds := []) #[false, false, false, false, false, false, false, false, false, false, false, false] (by kernel_rfl) rfl rfl ⟨((HB.out.cell (World.block_lt_of_cell? w _ aK)).trans aK), ((HB.out.cell (World.block_lt_of_cell? w _ aJ)).trans aJ)⟩ (fun hHeld => ?_); refine Jr Qg.tab9 Qg.bits9 (fun HT_ HW_ => ?_)
         generalize kT.drew = mE at aC aT bG HB bU bB bC hHeld ⊢
         refine zP 0 (some 41) rfl rfl ?_
         refine zP 1 (some 42) rfl rfl ?_
         refine zP 2 (some 43) rfl rfl ?_
         refine zP 3 (some 44) rfl rfl ?_
         refine zP 4 (some 45) rfl rfl ?_
         refine zP 5 (some 46) rfl rfl ?_
         refine zP 9 (some 50) rfl rfl ?_
         refine zY2 6 (some 47) rfl rfl hHeld ?_
         refine zU 7 (some 48) rfl rfl (fun K hK => ?_)
         refine jCr (w1 := ?_) (v := ?_) (by rfl) rfl ?_ ?_
         rotate_left 2
         ·go_simp
          constructor
          ·rfl
          rfl
         refine hK.out _ _ ⟨(World.cell?_alloc_lt _ _ _ (World.block_lt_of_cell? _ _ (((HB.out.cell (World.block_lt_of_cell? w _ aK)).trans aK)))).trans (((HB.out.cell (World.block_lt_of_cell? w _ aK)).trans aK)), (World.cell?_alloc_lt _ _ _ (World.block_lt_of_cell? _ _ (((HB.out.cell (World.block_lt_of_cell? w _ aJ)).trans aJ)))).trans (((HB.out.cell (World.block_lt_of_cell? w _ aJ)).trans aJ))⟩ (fun hHeld => ?_)
         clear hK K
         refine zN ?_
         refine zU 8 (some 49) rfl rfl (fun K hK => ?_)
         refine Kd.R_append_step k48 (w0 := w) w.heap.size (by rfl) (.tmp 43) (.tmp 48) 28 48 (.agg #[(.int .i64 0), (.int .i64 0)]) 16 rfl Tryz.underlying28 Yf rfl (by decide) (by omega) (.slice eF dK.length bK) dK (⟨(Qb l0 aA).f0, (Qb l0 aA).f1⟩ : S48) [.int .i64 ((Qb l0 aA).f0), .int .i64 ((Qb l0 aA).f1)] (fun k_ => some k_ ≠ (iI : Value).ownBlock) (fun _ => False) rfl rfl ?aP (fun _ hk => hk.elim) ?aF ?aO ?aB ?aS ?aL ?_
         (case aP => exact Z0 _ _ _ (⟨(Qb l0 aA).f0, (Qb l0 aA).f1⟩ : S48))
         (case aB => exact zB)
         (case aF => exact (fun k_ hk => Kd.fresh' (Kd.R_lt (zR aT.out)) k_ hk))
         (case aO => exact (zR (Kd.R_mono bU.out (fun _ hk => hk.2))))
         (case aS => exact (Ql zB))
         (case aL => have := iD.out; omega)
         intro iM mF ho hb hg hat
         rw [← fP.out] at ho
         have dE := Qa.mk (Kd.R_after (ok := (fun _ => True)) (by (with_reducible repeat (first | apply Kd.R_alloc | apply Kd.R_drewN | apply Kd.R_drew)); exact Kd.R_mono aT.out (fun _ hk => ⟨trivial, by first | exact hk | exact fun e_ => hk (e_.trans (jCp _ _ _ _ _))⟩)) hg hat)
         have dF := Qa.mk (hb)
         have dG := Qa.mk (ho)
         clear aT
         clear HB
         clear bU
         have aT := dE
         have HB := dF
         have dR := dG
         clear dE dF dG
         clear ho hb hg hat
         obtain ⟨jR, jS, iN⟩ := Kd.R_slice aT.out
         (first | subst iN | (injection iN with gZ jF iA; have jG := gZ.symm; have jH := iA.symm; clear gZ jF iA; subst jG; subst jH))
         refine hK.out _ _ ⟨((HB.out.cell (World.block_lt_of_cell? w _ aK)).trans aK), ((HB.out.cell (World.block_lt_of_cell? w _ aJ)).trans aJ)⟩ (fun hHeld => ?_)
         clear hK K
         refine zN ?_
         refine zU 10 (some 51) rfl rfl (fun K hK => ?_)
         refine Kd.R_append_rows_step k48 (w0 := w) w.heap.size (by rfl) (.tmp 49) (.tmp 50) 28 48 (.agg #[(.int .i64 0), (.int .i64 0)]) 16 rfl Tryz.underlying28 Yf rfl (by decide) (by omega) iM eU dJ _ _ _ (fun k_ => some k_ ≠ (.slice jR dJ.length jS : Value).ownBlock) (fun _ => False) rfl rfl ?aO ?aR (fun _ _ h => h) (fun _ h => h.elim) ?aF ?aB ?aS ?aL ?_
         (case aR => repeat (first | exact (Kd.R_reads' aT.out).2.2 | (with_reducible refine Kd.C_alloc ?_ _) | (with_reducible refine Kd.C_drewN ?_ _) | (with_reducible refine Kd.C_drew ?_)))
         (case aB => exact zB)
         (case aF => exact (fun k_ hk => Kd.fresh' (Kd.R_lt (zR aT.out)) k_ hk))
         (case aO => exact (zR dR.out))
         (case aS => exact (Ql zB))
         (case aL => have := iE.out; omega)
         intro kU mG ho hb hg hat
         rw [← fQ.out] at ho
         have dE := Qa.mk (Kd.R_after (ok := (fun _ => True)) (zR aT.out) hg hat)
         have dF := Qa.mk (hb)
         have dG := Qa.mk (ho)
         clear aT
         clear HB
         clear dR
         have aT := dE
         have HB := dF
         have fZ := dG
         clear dE dF dG
         clear ho hb hg hat
         refine hK.out _ _ ⟨((HB.out.cell (World.block_lt_of_cell? w _ aK)).trans aK), ((HB.out.cell (World.block_lt_of_cell? w _ aJ)).trans aJ)⟩ (fun hHeld => ?_)
         clear hK K
         refine zN ?_
         refine zP 11 (some 3) rfl rfl ?_
         refine Ya (Zj HT_.out (by kernel_rfl)) ?_
         try go_wp2
         go_roundg k3
         case measure => have := eD.out; have := gB.out; have := gD.out; omega
         case rel => exact ⟨(iF), (wrap64 (aA + 1)), zF, H', ⟨by have := eD.out; have := gB.out; have := gD.out; omega⟩, ⟨zR (Kd.R_mono fZ.out (fun _ hk => trivial))⟩, ⟨zB⟩⟩
        exact absurd H (by simp)
       exact absurd H (by simp)
      exact absurd H (by simp)
     exact absurd H (by simp)
    exact absurd H (by simp)
   exact absurd H (by simp)
  exact absurd H (by simp)
 replace c8 := Bool.eq_false_iff.mpr c8
 subst c8
 replace H := (if_neg zFf).symm.trans H
 obtain rfl := Option.some.inj H
 go_wp2
 go_ret
 exact ⟨_, zE, zR aC.out, zB⟩
def Q4.l0 : Nat → List ByteArray → List (S48) → Int → Int → Option (ByteArray)
 | 0, _, _, _, _ => none
 | k + 1, x3, x9, aH, aD => if aD < aH then (if 0 ≤ aD then (if aD < (x9.length : Int) then ((Zp.f ((Qb x9 aD).f0)).bind fun aA => (if aA.size + 1 ≤ 9223372036854775807 then ((Zp.f ((Qb x9 aD).f1)).bind fun aC => (if aA.size + 1 + aC.size ≤ 9223372036854775807 then (if x3.length < 8796093022208 then (Q4.l0 k (x3 ++ [(aA ++ (⟨#[44]⟩ : ByteArray)) ++ aC]) x9 aH (wrap64 (aD + 1))) else (none)) else (none))) else (none))) else (none)) else (none)) else ((Y0.f x3 (⟨#[32]⟩ : ByteArray)).bind fun aG => (some aG))
def Q4.f (k : Nat) (l0 : List (S48)) : Option (ByteArray) := (Qf.f k l0).bind fun aA => (if aA = true then (Q4.l0 k ([] : List ByteArray) l0 (l0.length : Int) 0) else (some (⟨#[]⟩ : ByteArray)))
def Q4.T7 : Bool × List (List Nat × List Nat) := (true, [([], []), ([], []), ([1], [1]), ([2], [2]), ([3], [3]), ([], []), ([5], [5]), ([6, 3], [6]), ([4, 7], [4, 7]), ([8], [8]), ([0, 9, 7], [0, 9]), ([10, 10, 0, 1, 2, 3, 4, 5, 6, 7, 8, 9, 10], [0, 10])])
def Q4.B7 : List Nat := [0, 0, 2, 6, 14, 0, 32, 110, 254, 510, 1023, 2047]
theorem Q4.tab7 : Vj .any (opsOf Tryz.f47 7) = Q4.T7 := by kernel_rfl
theorem Q4.bits7 : Z5 Q4.T7.2 Q4.B7 = true := by kernel_rfl
theorem jEq {p q p0 : Prop} (g : p) (g0 : p0) (h : p → p0 → q := by intro zg_ aA; repeat (first | (with_reducible first | exact zg_ | apply Qw | apply Qs | apply Qp | refine Q5 ?_ aA) | exact zg_)) : q := h g g0
set_option maxHeartbeats 8000000 in
set_option maxRecDepth 100000 in
theorem Q4.calls (k : Nat) (A0 : Option Addr) (c0 : Nat) (l0 : List (S48)) (r : ByteArray) (w : World) (hr0 : Kd.C k48 w A0 l0.length l0) (hc0 : l0.length ≤ c0) (h : Q4.f k l0 = some r) (hT : T1 w) :
  Calls Tryz.prog 47 #[.slice A0 l0.length c0] w fun e w' => e = .returned (.string r) ∧ Below w.heap.size w w' := by
 have HT := Qa.mk hT
 clear hT
 have bZ := Tryz.underlying48
 have bM := Qa.mk hr0
 have bT := Qa.mk hc0
 clear hr0 hc0
 have HB := Qa.mk (Below.refl w.heap.size w)
 have H := h
 unfold Q4.f at H
 clear h
 obtain ⟨bC, A2, H⟩ := zO H
 by_cases c3 : bC = true
 ·subst c3
  replace H := (if_pos rfl).symm.trans H
  have H' := Qa.mk H; clear H
  go_enter Tryz.func47, Tryz.ntmps47
  go_wp2_with (first | ((with_reducible refine Qd (f := 45) rfl ?_); refine zD (some 7) Tryz.func45 #[.slice A0 l0.length c0] ((Qf.calls k _ _ l0 true _ ?aM ?aN A2.out).mono ?_); (case aM => exact zc bM.out); (case aN => exact bT.out); rintro e w4 ⟨rfl, hb⟩; refine ⟨_, rfl, ?_⟩; replace HB := zX hb; (try clear hb)))
  go_loopg [3, 11] k (fun kq v3 v11 w' => ∃ (aQ : List ByteArray) (aC : Int), v11 = .int .i64 aC ∧ Qa (Q4.l0 kq aQ l0 (l0.length : Int) aC = some r) ∧ Qa (kq ≤ k) ∧ Qa (Kd.R Kd.string 9 w' w.heap.size (fun _ => True) v3 aQ) ∧ Qa (Below w.heap.size w w'))
  case atStart => exact ⟨(([] : List ByteArray)), (0), zF, H', ⟨Nat.le_refl _⟩, ⟨by first | exact Kd.R_nil _ _ _ _ _ | exact Kd.N_nil _ _ _ _ _ | exact Kd.V_nil _ _ _ _ _ | exact Kd.Q_nil _ _ _ _ _ | exact Kd.S_nil _ _ _ _ _⟩, ⟨zB⟩⟩
  case round =>
  clear H'
  try clear c3
  obtain ⟨aQ, aC, rfl, HA, bU, aG, HB⟩ := hrel
  cases gk with
  | zero => exact absurd HA.out (by simp [Q4.l0])
  | succ k1 =>
  have H := HA.out
  clear HA
  simp only [Q4.l0] at H
  replace H := Xg H
  rcases H with ⟨bN, H⟩ | ⟨bN, H⟩
  ·replace H := J9 H
   rcases H with ⟨cB, H⟩ | ⟨c6, H⟩
   ·replace H := J9 H
    rcases H with ⟨cK, H⟩ | ⟨c7, H⟩
    ·obtain ⟨aK, A8, H⟩ := zO H
     replace H := Vd H
     rcases H with ⟨c9, cO, cZ, H⟩ | ⟨c9, H⟩
     ·try have dA : (9223372036854775807 < aK.size + 1) = False := eq_false (Nat.not_lt.2 c9)
      obtain ⟨aT, dB, H⟩ := zO H
      replace H := Vd H
      rcases H with ⟨c11, bV, bW, H⟩ | ⟨c11, H⟩
      ·try have bX : (9223372036854775807 < aK.size + 1 + aT.size) = False := eq_false (Nat.not_lt.2 c11)
       replace H := Z8 H
       rcases H with ⟨c12, H⟩ | ⟨c12, H⟩
       ·have bD := Qa.mk c12
        clear c12
        generalize aU : (aQ ++ [(aK ++ (⟨#[44]⟩ : ByteArray)) ++ aT] : List ByteArray) = bE at H
        have aX := Qa.mk aU.symm
        clear aU
        have H' := Qa.mk H; clear H
        have aV : 0 ≤ (aC : Int) := zA
        have aW : aC < (l0.length : Int) := zA
        obtain ⟨bO, bF, aI, aJ⟩ := Jj bM.out aC aV aW
        cases bF
        replace aI := (HB.out.cell (World.block_lt_of_cell? w _ aI)).trans aI
        replace aJ := (HB.out.cell (World.block_lt_of_cell? w _ aJ)).trans aJ
        replace aV := eq_true aV
        replace aW := eq_true aW
        try go_wp2_with (first | ((with_reducible refine Qo (N := 5) rfl ?_); refine zBx (N := 5) #[.int .i64 0, .int .i64 0] 48 ?_; intro aD hg bH hbox hb; replace aG := zW aG.out hb; have aA := Qa.mk (hbox); have bP := zS hg; have aH := zS hg; replace HB := zX hb; clear hb hbox hg; obtain ⟨bI, bJ, bK, bL⟩ := zq2 aA.out))
        have aZ : Qa (Kd.R Kd.string 9 ((bH.setCell ⟨aD, 0, none⟩ (.int .i64 ((Qb l0 aC).f0))).setCell ⟨aD, 1, none⟩ (.int .i64 ((Qb l0 aC).f1))) w.heap.size (fun _ => True) u3 aQ) := ⟨by (with_reducible repeat (first | apply Kd.R_alloc | apply Kd.R_drewN | apply Kd.R_drew)); exact Kd.R_mono (Kd.R_far (p := ⟨aD, 1, none⟩) (Kd.R_far (p := ⟨aD, 0, none⟩) (Kd.R_types aG.out aA.out (by decide)) (fun _ hk => hk.2) (.int .i64 ((Qb l0 aC).f0))) (fun _ hk => hk.2) (.int .i64 ((Qb l0 aC).f1))) (fun _ hk => trivial)⟩
        have bA : Qa (((bH.setCell ⟨aD, 0, none⟩ (.int .i64 ((Qb l0 aC).f0))).setCell ⟨aD, 1, none⟩ (.int .i64 ((Qb l0 aC).f1))).heap[aD]? = some (.cells #[.int .i64 ((Qb l0 aC).f0), .int .i64 ((Qb l0 aC).f1)] 48 (0, 0))) := ⟨zk0 aA.out⟩
        have bB : Qa (Below w.heap.size w ((bH.setCell ⟨aD, 0, none⟩ (.int .i64 ((Qb l0 aC).f0))).setCell ⟨aD, 1, none⟩ (.int .i64 ((Qb l0 aC).f1)))) := ⟨zG aH.out⟩
        (try clear aG)
        (try clear aA)
        (try clear HB)
        generalize ((bH.setCell ⟨aD, 0, none⟩ (.int .i64 ((Qb l0 aC).f0))).setCell ⟨aD, 1, none⟩ (.int .i64 ((Qb l0 aC).f1))) = dC at aZ bA bB ⊢
        have aG := aZ
        have aA := bA
        have HB := bB
        clear aZ bA bB
        replace aG := Qa.mk (Kd.R_drew aG.out)
        replace aA := Qa.mk (Q8 aA.out)
        replace HB := Qa.mk (Qp HB.out)
        refine Zy (n := 12) (S := fun w' => w'.cell? ⟨aD, 0, none⟩ = some (.int .i64 ((Qb l0 aC).f0)) ∧ w'.cell? ⟨aD, 1, none⟩ = some (.int .i64 ((Qb l0 aC).f1))) (ds := []) #[false, false, false, false, false, false, false, false, false, false, false, false] (by kernel_rfl) rfl rfl ⟨(Qn aA.out 0).trans rfl, (Qn aA.out 1).trans rfl⟩ (fun hHeld => ?_); refine Jr Q4.tab7 Q4.bits7 (fun HT_ HW_ => ?_)
        generalize dC.drew = w16 at aG aA HB hHeld ⊢
        refine zP 0 (some 15) rfl rfl ?_
        refine zP 1 (some 16) rfl rfl ?_
        refine zP 5 (some 20) rfl rfl ?_
        refine zY2 2 (some 17) rfl rfl hHeld ?_
        refine zY2 6 (some 21) rfl rfl hHeld ?_
        refine zU 3 (some 18) rfl rfl (fun K hK => ?_)
        refine Xq Tryz.func79 (by kernel_rfl) rfl #[.int .i64 ((Qb l0 aC).f0)] (by rfl) rfl rfl zM ?_
        with_reducible refine (Zp.calls ((Qb l0 aC).f0) aK _ A8.out (HT.out.below ?sideT)).mono ?_
        case sideT => exact (jEq HB.out aH.out)
        rintro e dE ⟨rfl, hb⟩
        refine ⟨_, rfl, ?_⟩
        replace aG := zW aG.out hb
        replace aA := zV aA.out hb
        replace HB := zX1 aH.out hb
        (try clear hb)
        refine hK.out _ _ (zh2 aA.out) (fun hHeld => ?_)
        clear hK K
        refine zN ?_
        refine zP 4 (some 19) rfl rfl ?_
        refine zU 7 (some 22) rfl rfl (fun K hK => ?_)
        refine Xq Tryz.func79 (by kernel_rfl) rfl #[.int .i64 ((Qb l0 aC).f1)] (by rfl) rfl rfl zM ?_
        with_reducible refine (Zp.calls ((Qb l0 aC).f1) aT _ dB.out (HT.out.below ?sideT)).mono ?_
        case sideT => exact (jEq HB.out aH.out)
        rintro e dF ⟨rfl, hb⟩
        refine ⟨_, rfl, ?_⟩
        replace aG := zW aG.out hb
        replace aA := zV aA.out hb
        replace HB := zX1 aH.out hb
        (try clear hb)
        refine hK.out _ _ (zh2 aA.out) (fun hHeld => ?_)
        clear hK K
        refine zN ?_
        refine zP 8 (some 23) rfl rfl ?_
        refine zU 9 (some 24) rfl rfl (fun K hK => ?_)
        refine jCr (w1 := ?_) (v := ?_) (by rfl) rfl ?_ ?_
        rotate_left 2
        ·go_simp
         constructor
         ·rfl
         rfl
        refine hK.out _ _ ⟨(Qn (Z9 aA.out _) 0).trans rfl, (Qn (Z9 aA.out _) 1).trans rfl⟩ (fun hHeld => ?_)
        clear hK K
        refine zN ?_
        refine zU 10 (some 25) rfl rfl (fun K hK => ?_)
        refine Kd.R_append_step Kd.string (w0 := w) w.heap.size (by rfl) (.tmp 15) (.tmp 24) 93 9 (.string ⟨#[]⟩) 16 rfl Tryz.underlying93 jDi rfl (by decide) (by omega) u3 aQ ((aK ++ (⟨#[44]⟩ : ByteArray)) ++ aT) [.string ((aK ++ (⟨#[44]⟩ : ByteArray)) ++ aT)] (fun _ => True) (fun _ => False) rfl rfl ?aP (fun _ hk => hk.elim) ?aF ?aO ?aB ?aS ?aL ?_
        (case aP => exact rfl)
        (case aB => exact (zG aH.out))
        (case aF => exact (fun _ _ => trivial))
        (case aO => exact (zR aG.out))
        (case aS => exact (Ql (zG aH.out)))
        (case aL => have := bD.out; omega)
        intro bY dG ho hb hg hat
        rw [← aX.out] at ho
        have aZ := Qa.mk (Vs (g := aD) (o := .cells #[.int .i64 ((Qb l0 aC).f0), .int .i64 ((Qb l0 aC).f1)] 48 (0, 0)) (zK aA.out) hg (Kd.R_ne aG.out aA.out (by decide)))
        have bA := Qa.mk (hb)
        have bB := Qa.mk (ho)
        clear aA
        clear HB
        clear aG
        have aA := aZ
        have HB := bA
        have aY := bB
        clear aZ bA bB
        clear ho hb hg hat
        refine hK.out _ _ (zh2 aA.out) (fun hHeld => ?_)
        clear hK K
        refine zN ?_
        refine zP 11 (some 3) rfl rfl ?_
        refine Ya (Zj HT_.out (by kernel_rfl)) ?_
        try go_wp2
        go_roundg k1
        case measure => have := bU.out; omega
        case rel => exact ⟨(bE), (wrap64 (aC + 1)), zF, H', ⟨by have := bU.out; omega⟩, ⟨zR aY.out⟩, ⟨zG aH.out⟩⟩
       exact absurd H (by simp)
      exact absurd H (by simp)
     exact absurd H (by simp)
    exact absurd H (by simp)
   exact absurd H (by simp)
  obtain ⟨bG, dD, H⟩ := zO H
  obtain rfl := Option.some.inj H
  obtain ⟨bQ, bR, bS⟩ := Kd.R_slice aG.out
  subst bS
  go_wp2_with (first | ((with_reducible refine Qd (f := 99) rfl ?_); refine zD (some 28) Tryz.func99 #[.slice bQ aQ.length bR, .string (⟨#[32]⟩ : ByteArray)] ((Y0.calls _ _ aQ (⟨#[32]⟩ : ByteArray) bG _ ?aM ?aN dD.out).mono ?_); (case aM => exact zc ((Kd.R_reads' aG.out).2.2)); (case aN => exact (Kd.R_reads' aG.out).2.1); rintro e dH ⟨rfl, hb⟩; refine ⟨_, rfl, ?_⟩; replace aG := zW aG.out hb; replace HB := zX hb; (try clear hb)))
  go_ret
  exact ⟨zE, zB⟩
 replace c3 := Bool.eq_false_iff.mpr c3
 subst c3
 replace H := (if_neg zFf).symm.trans H
 obtain rfl := Option.some.inj H
 go_enter Tryz.func47, Tryz.ntmps47
 go_wp2_with (first | ((with_reducible refine Qd (f := 45) rfl ?_); refine zD (some 7) Tryz.func45 #[.slice A0 l0.length c0] ((Qf.calls k _ _ l0 false _ ?aM ?aN A2.out).mono ?_); (case aM => exact zc bM.out); (case aN => exact bT.out); rintro e dI ⟨rfl, hb⟩; refine ⟨_, rfl, ?_⟩; replace HB := zX hb; (try clear hb)))
 go_ret
 exact ⟨zE, zB⟩
def Y3.f (l0 : List Int) : Option (Bool) := some (decide ((l0.length : Int) > 1048576))
set_option maxHeartbeats 8000000 in
set_option maxRecDepth 100000 in
theorem Y3.calls (A0 : Option Addr) (c0 : Nat) (l0 : List Int) (r : Bool) (w : World) (hr0 : Kd.C (Kd.int .u8) w A0 l0.length l0) (hc0 : l0.length ≤ c0) (h : Y3.f l0 = some r) :
  Calls Tryz.prog 5 #[.slice A0 l0.length c0] w fun e w' => e = .returned (.bool r) ∧ Jc w w' := by
 have aA := Qa.mk hr0
 have aC := Qa.mk hc0
 clear hr0 hc0
 have H := h
 unfold Y3.f at H
 clear h
 obtain rfl := Option.some.inj H
 go_enter Tryz.func5, Tryz.ntmps5
 go_wp2
 go_ret
 exact ⟨by first | rfl | (simp; done) | (simp [*]; done), by repeat (first | exact Jc.refl _ | apply Jc.step)⟩
end Go.Proofs.YtckkfjdkaimmhaaGreatDoor.PX
