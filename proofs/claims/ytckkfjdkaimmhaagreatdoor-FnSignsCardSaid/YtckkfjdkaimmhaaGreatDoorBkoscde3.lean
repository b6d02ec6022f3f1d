/- A part of proofs about signs and points: what some functions answer, and that their calls answer so. No condition. -/
import Derived.Test.YtckkfjdkaimmhaaGreatDoorProg
import Derived.Test.YtckkfjdkaimmhaaGreatDoorV1
import Derived.Test.YtckkfjdkaimmhaaGreatDoorBkoscde1
import Derived.Test.YtckkfjdkaimmhaaGreatDoorBkoscde2
set_option linter.unusedVariables false
set_option linter.unusedSimpArgs false
namespace Go.Proofs.YtckkfjdkaimmhaaGreatDoor.PX
open Go.RowKit Go.Proofs.YtckkfjdkaimmhaaGreatDoor.G Go.Proofs.YtckkfjdkaimmhaaGreatDoorW.PrintWords Go.Proofs.YtckkfjdkaimmhaaGreatDoorW.PrintLast Go.Proofs.YtckkfjdkaimmhaaGreatDoorW.PrintMore
attribute [local go_sem] max2_int min2_int Yv Yx Xm Xl X9 Yb   -- for this text's walks alone
set_option linter.unusedVariables false
set_option linter.unusedSimpArgs false
def Ju.j0 : Nat → List Int → Bool → Int → ByteArray → Option (Int × ByteArray × Bool)
 | 0, _, _, _, _ => none
 | k + 1, x1, aH, aA, aC => if aH = true then (some (0, (⟨#[]⟩ : ByteArray), false)) else ((Zb.f k aA aC).bind fun aG => (if aG.length = 344 then ((Je.f k aG x1).bind fun aD => (some (aD.1, aD.2, true))) else (none)))
def Ju.f (k : Nat) (aA : Int) (aC : ByteArray) (l1 : List Int) : Option (Int × ByteArray × Bool) := (Qw.f k aA aC).bind fun aD => (if aD = true then (if (l1.length : Int) = aA then ((Jl.f k aA l1).bind fun aG => (Ju.j0 k l1 (!aG) aA aC)) else (Ju.j0 k l1 true aA aC)) else (Ju.j0 k l1 true aA aC))
set_option maxHeartbeats 8000000 in
set_option maxRecDepth 100000 in
theorem Ju.calls (k : Nat) (aJ : Int) (aK : ByteArray) (A1 : Option Addr) (c1 : Nat) (l1 : List Int) (r1 : Int) (r2 : ByteArray) (r3 : Bool) (w : World) (hr1 : Kd.C (Kd.int .i64) w A1 l1.length l1) (hc1 : l1.length ≤ c1) (h : Ju.f k aJ aK l1 = some (r1, r2, r3)) :
  Calls Tryz.prog 14 #[.agg #[.int .i64 aJ, .string aK], .slice A1 l1.length c1] w fun e w' => e = .returned (.tuple #[.agg #[.int .i64 r1, .string r2], .bool r3]) ∧ Below w.heap.size w w' := by
 have eH := Tryz.underlying25
 have HR1 := Qa.mk hr1
 have dN := Qa.mk hc1
 clear hr1 hc1
 have HB := Qa.mk (Below.refl w.heap.size w)
 have H := h
 unfold Ju.f at H
 clear h
 have dI := Qa.mk H
 clear H
 go_enter Tryz.func14, Tryz.ntmps14
 go_upto_region 1 with (first | ((with_reducible refine Qm (N := 2) rfl ?_); (try (refine Zq (by rfl) ?_; dsimp only)); refine zBx (N := 2) #[.int .i64 aJ, .string aK] 25 ?_; intro aZ hg w4 hbox hb; have aA := Qa.mk (hbox); have dO := zS hg; have aD := zS hg; replace HB := zX hb; clear hb hbox hg) | ((with_reducible refine Qm (N := 4) rfl ?_); (try (refine Zq (by rfl) ?_; dsimp only)); refine zBx (N := 4) #[.int .i64 0, .string (⟨#[]⟩ : ByteArray)] 25 ?_; intro aQ hg w5 hbox hb; have aC := Qa.mk (hbox); have dP := zSg hg (zG aD.out); have aI := zSg hg (zG aD.out); have aG := zL hg aA.out; have aH := zLg hg aA.out; replace aA := zV aA.out hb; replace HB := zX1 aD.out hb; clear hb hbox hg))
 (try simp only [Act.put, List.setIfInBounds_toArray, List.set_cons_zero, List.set_cons_succ])
 go_cut [22] (fun v22 wc => ∃ (kq : Nat) (aM : Bool), v22 = .bool aM ∧ Qa (Ju.j0 kq l1 aM aJ aK = some (r1, r2, r3)) ∧ Qa (kq ≤ k) ∧ Qa (wc.heap[aZ]? = some (.cells #[.int .i64 aJ, .string aK] 25 (0, 0))) ∧ Qa (wc.heap[aQ]? = some (.cells #[.int .i64 0, .string (⟨#[]⟩ : ByteArray)] 25 (0, 0))) ∧ Qa (Below w.heap.size w wc))
 case first =>
  have H := dI.out
  clear dI
  obtain ⟨dJ, A6, H⟩ := zO H
  by_cases c7 : dJ = true
  ·subst c7
   replace H := (if_pos rfl).symm.trans H
   replace H := Zc H
   rcases H with ⟨aT, dK, H⟩ | ⟨c8, aT, dK, H⟩
   ·(first | rw [aT] | (simp only [Zj, Zl]; rw [aT]) | skip)
    obtain ⟨bA, A9, H⟩ := zO H
    have H' := Qa.mk H; clear H
    have dQ := aG.out
    have dR := aH.out
    obtain ⟨bG, bH, bI, bJ⟩ := zq2 aA.out
    go_wp2_with (first | ((with_reducible refine Qd (f := 24) rfl ?_); refine zD (some 7) Tryz.func24 _ ((Qw.calls k aJ aK true _ A6.out).mono ?_); rintro e fA ⟨rfl, hb⟩; refine ⟨_, rfl, ?_⟩; replace aA := zV aA.out hb; replace aC := zV aC.out hb; replace HB := Qa.mk (Qg (zG2 aD.out aI.out) hb); (try clear hb); obtain ⟨bK, bL, bM, bN⟩ := zq2 aA.out) | (go_at_call 62; (with_reducible refine (Jl.calls k aJ _ _ l1 bA _ ?aU ?aV A9.out).mono ?_); (case aU => exact zc (Kd.C_below HR1.out HB.out)); (case aV => exact dN.out); rintro e w' ⟨rfl, ⟨nd, rfl⟩⟩))
    go_meet
    case rel => exact ⟨_, (!bA), zF, H', ⟨by first | omega | exact Nat.le_refl _⟩, ⟨zK aA.out⟩, ⟨zK aC.out⟩, ⟨zG2 aD.out aI.out⟩⟩
   (first | rw [aT] | (simp only [Zj, Zl]; rw [aT]) | skip)
   have H' := Qa.mk H; clear H
   have dS := aG.out
   have dU := aH.out
   obtain ⟨bO, bP, bQ, bR⟩ := zq2 aA.out
   go_wp2_with (first | ((with_reducible refine Qd (f := 24) rfl ?_); refine zD (some 7) Tryz.func24 _ ((Qw.calls k aJ aK true _ A6.out).mono ?_); rintro e w16 ⟨rfl, hb⟩; refine ⟨_, rfl, ?_⟩; replace aA := zV aA.out hb; replace aC := zV aC.out hb; replace HB := Qa.mk (Qg (zG2 aD.out aI.out) hb); (try clear hb); obtain ⟨bS, bT, bU, bV⟩ := zq2 aA.out))
   go_meet
   case rel => exact ⟨_, (true), zF, H', ⟨by first | omega | exact Nat.le_refl _⟩, ⟨zK aA.out⟩, ⟨zK aC.out⟩, ⟨zG2 aD.out aI.out⟩⟩
  replace c7 := Bool.eq_false_iff.mpr c7
  subst c7
  replace H := (if_neg zFf).symm.trans H
  have H' := Qa.mk H; clear H
  have dV := aG.out
  have dW := aH.out
  obtain ⟨bW, bX, bY, bZ⟩ := zq2 aA.out
  go_wp2_with (first | ((with_reducible refine Qd (f := 24) rfl ?_); refine zD (some 7) Tryz.func24 _ ((Qw.calls k aJ aK false _ A6.out).mono ?_); rintro e fB ⟨rfl, hb⟩; refine ⟨_, rfl, ?_⟩; replace aA := zV aA.out hb; replace aC := zV aC.out hb; replace HB := Qa.mk (Qg (zG2 aD.out aI.out) hb); (try clear hb)))
  go_meet
  case rel => exact ⟨_, (true), zF, H', ⟨by first | omega | exact Nat.le_refl _⟩, ⟨zK aA.out⟩, ⟨zK aC.out⟩, ⟨zG2 aD.out aI.out⟩⟩
 case rest =>
 clear dI
 obtain ⟨kq, aM, rfl, HA, HJ2, aA, aC, HB⟩ := hcut
 cases kq with
 | zero => exact absurd HA.out (by simp [Ju.j0])
 | succ dX =>
 have H := HA.out
 clear HA
 simp only [Ju.j0] at H
 by_cases c21 : aM = true
 ·subst c21
  replace H := (if_pos rfl).symm.trans H
  simp only [Option.some.injEq, Prod.mk.injEq] at H
  obtain ⟨rfl, rfl, rfl⟩ := H
  have dY := aH.out
  have dZ := aG.out
  obtain ⟨cB, cK, cO, cZ⟩ := zq2 aC.out
  go_wp2
  refine bodyPost_ret (J7 rfl _ _ aQ 25 #[.int .i64 0, .string (⟨#[]⟩ : ByteArray)] (0, 0) _ rfl (zk0 aC.out) Tryz.underlying25 rfl (by kernel_rfl)) rfl ?_
  exact ⟨zE, zG2 aD.out aI.out⟩
 replace c21 := Bool.eq_false_iff.mpr c21
 subst c21
 replace H := (if_neg zFf).symm.trans H
 obtain ⟨aW, eO, H⟩ := zO H
 replace H := Xt H
 rcases H with ⟨eB, eD, H⟩ | ⟨fC, H⟩
 ·obtain ⟨⟨aX, aY⟩, eP, H⟩ := zO H
  replace H : (some (aX, aY, true)) = some (r1, r2, r3) := H
  simp only [Option.some.injEq, Prod.mk.injEq] at H
  obtain ⟨rfl, rfl, rfl⟩ := H
  have eF := aG.out
  have eG := aH.out
  obtain ⟨dA, dB, dC, dD⟩ := zq2 aA.out
  go_wp2_with (first | ((with_reducible refine Qd (f := 63) rfl ?_); refine zD (some 25) Tryz.func63 _ ((Zb.calls dX aJ aK aW _ eO.out).mono ?_); rintro e fD ⟨eQ, rfl, ho0, hb⟩; refine ⟨_, rfl, ?_⟩; have aN := Qa.mk (Kd.R_lower ho0 (Q6 (zG2 aD.out aI.out))); replace aA := zV aA.out hb; replace aC := zV aC.out hb; replace HB := Qa.mk (Qg (zG2 aD.out aI.out) hb); (try clear hb); (try clear ho0); obtain ⟨dL, eU, bB, bC, dM, eX, bD⟩ := Kd.R_form aN.out (by have hl_ := Nat.le_of_eq (Eq.symm (zA : aW.length = 344)); omega); (first | cases bB | (injection bB with ea_ en_ ec_; (first | subst ea_ | (injection ea_ with ea_; subst ea_)); subst ec_; clear en_)); have eY := Qa.mk bC; have eZ := Qa.mk bD; clear bC dM bD) | ((with_reducible refine Qd (f := 64) rfl ?_); refine zD (some 27) Tryz.func64 #[.pointer (some ⟨dL, 0, none⟩), .slice A1 l1.length c1] ((Je.calls dX _ aW _ _ l1 aX aY _ ?aU ?aV ?bE ?bF eP.out).mono ?_); (case aU => exact zc ((Kd.R_reads' aN.out).2.2)); (case aV => exact (zA : aW.length = 344)); (case bE => exact zc (Kd.C_below HR1.out HB.out)); (case bF => exact dN.out); rintro e fE ⟨rfl, hb⟩; refine ⟨_, rfl, ?_⟩; replace aN := zW aN.out hb; replace aA := zV aA.out hb; replace aC := zV aC.out hb; replace HB := Qa.mk (Qg (zG2 aD.out aI.out) hb); (try clear hb); obtain ⟨dE, dF, dG, dH⟩ := zq2 aC.out))
  refine bodyPost_ret (J7 rfl _ _ aQ 25 #[.int .i64 aX, .string aY] (0, 0) _ rfl (zk0 aC.out) Tryz.underlying25 rfl (by kernel_rfl)) rfl ?_
  exact ⟨zE, zG2 aD.out aI.out⟩
 exact absurd H (by simp)
def X6.f (a0 : Int) (a1 : Int) : Option (Int) := if a0 > a1 then (some a0) else (some a1)
set_option maxHeartbeats 8000000 in
set_option maxRecDepth 100000 in
theorem X6.calls (a0 : Int) (a1 : Int) (r : Int) (w : World) (h : X6.f a0 a1 = some r) :
  Calls Tryz.prog 104 #[.int .i64 a0, .int .i64 a1] w fun e w' => e = .returned (.int .i64 r) ∧ Jj w w' := by
 have H := h
 unfold X6.f at H
 clear h
 replace H := X8 H
 rcases H with ⟨c3, H⟩ | ⟨c3, H⟩
 ·have aA : decide (a1 < a0) = true := decide_eq_true c3
  clear c3
  obtain rfl := Option.some.inj H
  go_enter Tryz.func104, Tryz.ntmps104
  go_wp2
  go_ret
  exact ⟨by first | rfl | (simp; done) | (simp [*]; done), by repeat (first | exact Jj.refl _ | apply Jj.step)⟩
 have aA : decide (a1 < a0) = false := decide_eq_false c3
 clear c3
 obtain rfl := Option.some.inj H
 go_enter Tryz.func104, Tryz.ntmps104
 go_wp2
 go_ret
 exact ⟨by first | rfl | (simp; done) | (simp [*]; done), by repeat (first | exact Jj.refl _ | apply Jj.step)⟩
def Zh.l0 : Nat → List Int → Int → List Bool → Int → Option (Bool)
 | 0, _, _, _, _ => none
 | k + 1, x0, x1, x5, x6 => if x6 < (x0.length : Int) then (if 0 ≤ x6 then ((Jh.f (rd x0 x6) 0 (wrap64 (x1 - 1))).bind fun aA => (if aA = true then (if 0 ≤ (rd x0 x6) then (if (rd x0 x6) < (x5.length : Int) then (if Vj false x5 (rd x0 x6) = true then (some false) else (Zh.l0 k x0 x1 (x5.set ((rd x0 x6) : Int).toNat true) (wrap64 (x6 + 1)))) else (none)) else (none)) else (some false))) else (none)) else (some ((x0.length : Int) == x1))
def Zh.f (k : Nat) (l0 : List Int) (a1 : Int) : Option (Bool) := (X6.f 0 a1).bind fun aA => (if 0 ≤ aA then (if (aA : Int).toNat ≤ 281474976710656 then (Zh.l0 k l0 a1 (List.replicate (aA : Int).toNat false) 0) else (none)) else (none))
set_option maxHeartbeats 8000000 in
set_option maxRecDepth 100000 in
theorem Zh.calls (k : Nat) (A0 : Option Addr) (c0 : Nat) (l0 : List Int) (a1 : Int) (r : Bool) (w : World) (hr0 : Kd.C (Kd.int .i64) w A0 l0.length l0) (hc0 : l0.length ≤ c0) (h : Zh.f k l0 a1 = some r) :
  Calls Tryz.prog 65 #[.slice A0 l0.length c0, .int .i64 a1] w fun e w' => e = .returned (.bool r) ∧ Below w.heap.size w w' := by
 have bK := Qa.mk hr0
 have eD := Qa.mk hc0
 clear hr0 hc0
 have HB := Qa.mk (Below.refl w.heap.size w)
 have H := h
 unfold Zh.f at H
 clear h
 obtain ⟨aZ, A3, H⟩ := zO H
 replace H := Xt H
 rcases H with ⟨bW, bX, H⟩ | ⟨c4, H⟩
 ·replace H := Xt H
  rcases H with ⟨bY, bZ, H⟩ | ⟨c5, H⟩
  ·generalize bA : (List.replicate (aZ : Int).toNat false : List Bool) = cB at H
   have bB := Qa.mk bA.symm
   clear bA
   have H' := Qa.mk H; clear H
   go_enter Tryz.func65, Tryz.ntmps65
   go_wp2_with (first | ((with_reducible refine Qd (f := 104) rfl ?_); refine zD (some 8) Tryz.func104 _ ((X6.calls 0 a1 aZ _ A3.out).mono ?_); rintro e w' ⟨rfl, ⟨nd, rfl⟩⟩; refine ⟨_, rfl, ?_⟩) | ((with_reducible refine Qm (N := 9) rfl ?_); refine Kd.R_make Kd.bool _ 4 rfl (N := 9) rfl 113 _ _ rfl aZ rfl rfl Tryz.underlying113 (.bool false) 1 jNe rfl (by decide) (by omega) false (ok := fun _ => True) (okp := fun _ => True) rfl (fun _ hk => hk) trivial (zA) (Nat.le_trans (Nat.mul_le_mul_right _ (zA : aZ.toNat ≤ 281474976710656)) (by omega)) (Below.refl _ _) (Nat.le_refl _) ?_; intro bL w6 bM hb hg_ hnew_; clear hg_ hnew_; (first | rw [← bB.out] at bM | (simp only [Int.reduceToNat] at bM; rw [← bB.out] at bM)); have bN := Qa.mk (Kd.R_lower bM (Q6 zB)); replace HB := zX hb; clear hb bM))
   go_loopg [6] k (fun kq v6 w' => ∃ (aI : List Bool) (aA : Int), v6 = .int .i64 aA ∧ Qa (Zh.l0 kq l0 a1 aI aA = some r) ∧ Qa (kq ≤ k) ∧ Qa (Kd.R Kd.bool 4 w' w.heap.size (fun _ => True) bL aI) ∧ Qa (Below w.heap.size w w'))
   case atStart => exact ⟨(cB), (0), zF, H', ⟨Nat.le_refl _⟩, ⟨zR bN.out⟩, ⟨zB⟩⟩
   case round =>
   clear H'
   try clear c4
   try clear bW
   try clear bX
   try clear c5
   try clear bY
   try clear bZ
   obtain ⟨aI, aA, rfl, HA, dM, aG, HB⟩ := hrel
   cases gk with
   | zero => exact absurd HA.out (by simp [Zh.l0])
   | succ k1 =>
   have H := HA.out
   clear HA
   simp only [Zh.l0] at H
   replace H := Xr H
   rcases H with ⟨cK, H⟩ | ⟨cK, H⟩
   ·replace H := J5 H
    rcases H with ⟨dU, H⟩ | ⟨c9, H⟩
    ·obtain ⟨cO, cZ, H⟩ := zO H
     by_cases c11 : cO = true
     ·subst c11
      replace H := (if_pos rfl).symm.trans H
      replace H := J5 H
      rcases H with ⟨dN, H⟩ | ⟨c12, H⟩
      ·replace H := J5 H
       rcases H with ⟨dO, H⟩ | ⟨c13, H⟩
       ·obtain ⟨bO, aW⟩ : ∃ b_ : Bool, b_ = (Vj false aI (rd l0 aA)) := ⟨_, rfl⟩
        replace H : (if bO = true then (some false) else (Zh.l0 k1 l0 a1 (aI.set ((rd l0 aA) : Int).toNat true) (wrap64 (aA + 1)))) = some r := by rw [← aW] at H; exact H
        have bC := Qa.mk aW
        clear aW
        by_cases c15 : bO = true
        ·subst c15
         replace H := (if_pos rfl).symm.trans H
         obtain rfl := Option.some.inj H
         have aJ : 0 ≤ (aA : Int) := zA
         have aK : aA < (l0.length : Int) := zA
         obtain ⟨aN, aX, aC⟩ := Kd.at_int bK.out aA aJ aK
         cases aX
         replace aC := (HB.out.cell (World.block_lt_of_cell? w _ aC)).trans aC
         replace aJ := eq_true aJ
         replace aK := eq_true aK
         go_wp2_with (first | ((with_reducible refine Qd (f := 70) rfl ?_); refine zD (some 22) Tryz.func70 _ ((Jh.calls (rd l0 aA) 0 (wrap64 (a1 - 1)) true _ cZ.out).mono ?_); rintro e w' ⟨rfl, ⟨nd, rfl⟩⟩; refine ⟨_, rfl, ?_⟩; have aQ : 0 ≤ (aA : Int) := zA; have aT : aA < (l0.length : Int) := zA; obtain ⟨aY, bE, aD⟩ := Kd.at_int bK.out aA aQ aT; obtain rfl : aN = aY := (by injection bE); replace aD := (HB.out.cell (World.block_lt_of_cell? w _ aD)).trans aD; replace aQ := eq_true aQ; replace aT := eq_true aT; obtain ⟨dV, dW, dA⟩ := Kd.R_slice aG.out; subst dA; have aU : 0 ≤ ((rd l0 aA) : Int) := zA; have aV : (rd l0 aA) < (aI.length : Int) := zA; obtain ⟨bP, bF, aH⟩ := Kd.at_bool (Kd.R_reads' aG.out).2.2 (rd l0 aA) aU aV; (try rw [← bC.out] at aH); cases bF; replace aU := eq_true aU; replace aV := eq_true aV))
         go_ret
         exact ⟨zE, zB⟩
        replace c15 := Bool.eq_false_iff.mpr c15
        subst c15
        replace H := (if_neg zFf).symm.trans H
        generalize bD : (aI.set ((rd l0 aA) : Int).toNat true : List Bool) = bQ at H
        have bR := Qa.mk bD.symm
        clear bD
        have H' := Qa.mk H; clear H
        have aJ : 0 ≤ (aA : Int) := zA
        have aK : aA < (l0.length : Int) := zA
        obtain ⟨aN, aX, aC⟩ := Kd.at_int bK.out aA aJ aK
        cases aX
        replace aC := (HB.out.cell (World.block_lt_of_cell? w _ aC)).trans aC
        replace aJ := eq_true aJ
        replace aK := eq_true aK
        go_wp2_with (first | ((with_reducible refine Qd (f := 70) rfl ?_); refine zD (some 22) Tryz.func70 _ ((Jh.calls (rd l0 aA) 0 (wrap64 (a1 - 1)) true _ cZ.out).mono ?_); rintro e w' ⟨rfl, ⟨nd, rfl⟩⟩; refine ⟨_, rfl, ?_⟩; (try (rw [jB0 wr]; generalize hq_ : World.drewN wr _ = wr; have dP : Qa (Kd.R Kd.bool 4 wr w.heap.size (fun _ => True) bL aI) := ⟨by rw [← hq_]; exact (zR aG.out)⟩; have dQ : Qa (Below w.heap.size w wr) := ⟨by rw [← hq_]; exact zB⟩; clear aG HB hq_; have aG := dP; have HB := dQ; clear dP dQ)); have aQ : 0 ≤ (aA : Int) := zA; have aT : aA < (l0.length : Int) := zA; obtain ⟨aY, bE, aD⟩ := Kd.at_int bK.out aA aQ aT; obtain rfl : aN = aY := (by injection bE); replace aD := (HB.out.cell (World.block_lt_of_cell? w _ aD)).trans aD; replace aQ := eq_true aQ; replace aT := eq_true aT; obtain ⟨dX, dB, dC⟩ := Kd.R_slice aG.out; subst dC; have aU : 0 ≤ ((rd l0 aA) : Int) := zA; have aV : (rd l0 aA) < (aI.length : Int) := zA; obtain ⟨bP, bF, aH⟩ := Kd.at_bool (Kd.R_reads' aG.out).2.2 (rd l0 aA) aU aV; (try rw [← bC.out] at aH); cases bF; replace aU := eq_true aU; replace aV := eq_true aV; have bG : 0 ≤ (aA : Int) := zA; have bH : aA < (l0.length : Int) := zA; obtain ⟨bS, dD, aM⟩ := Kd.at_int bK.out aA bG bH; obtain rfl : aN = bS := (by injection dD); replace aM := (HB.out.cell (World.block_lt_of_cell? w _ aM)).trans aM; replace bG := eq_true bG; replace bH := eq_true bH; have dE : 0 ≤ ((rd l0 aA) : Int) := zA; have dF : ((rd l0 aA) : Int) < ((aI.length : Int) : Int) := zA; obtain ⟨bI, dY, bT, bU, dG, dZ, bV⟩ := Kd.R_form aG.out (by omega); (first | cases bT | (injection bT with ea_ en_ ec_; (first | subst ea_ | (injection ea_ with ea_; subst ea_)); subst ec_; clear en_)); have dH := Qa.mk bU; have eB := Qa.mk bV; clear bU dG bV; (first | simp only [add_plain] at aH | skip); obtain ⟨dI, dJ⟩ := Kd.R_celln false aG.out ((rd l0 aA) : Int) dE dF; replace dE := eq_true dE; replace dF := eq_true dF; obtain ⟨dR, dS⟩ := Kd.R_celln false aG.out ((rd l0 aA) : Int) (zA) (zA); have bJ := Kd.R_putg aG.out ((rd l0 aA) : Int) true) | ((with_reducible refine Vq (t := 4) (p := 38) rfl ?_); refine Ve (t := 4) (p := 38) (v := ?dK) (w1 := (wr.setCell ⟨bI, ((rd l0 aA) : Int).toNat, none⟩ (.bool true))) ?hg ?ho ?hn ?hr ?_; (case ho => rfl); (case hg => rfl); (case hn => rfl); (case hr => first | (go_simp; done) | (go_simp; rfl)); intro dL hw; have hg : wr.grownBy dL (some bI) := (by rw [hw]; exact bJ.2); have hp_ : Kd.R Kd.bool 4 dL w.heap.size (fun _ => True) (.slice (some ⟨bI, 0, none⟩) aI.length dB) bQ := (by rw [hw, bR.out]; exact bJ.1); clear bJ; replace aG := Qa.mk (hp_); replace HB := Qa.mk ((by rw [hw]; exact Qf (HB.out) dH.out : Below w.heap.size w dL)); clear hg hw hp_))
        go_roundg k1
        case measure => have := dM.out; omega
        case rel => exact ⟨(bQ), (wrap64 (aA + 1)), zF, H', ⟨by have := dM.out; omega⟩, ⟨zR aG.out⟩, ⟨zB⟩⟩
       exact absurd H (by simp)
      exact absurd H (by simp)
     replace c11 := Bool.eq_false_iff.mpr c11
     subst c11
     replace H := (if_neg zFf).symm.trans H
     obtain rfl := Option.some.inj H
     have aJ : 0 ≤ (aA : Int) := zA
     have aK : aA < (l0.length : Int) := zA
     obtain ⟨aN, aX, aC⟩ := Kd.at_int bK.out aA aJ aK
     cases aX
     replace aC := (HB.out.cell (World.block_lt_of_cell? w _ aC)).trans aC
     replace aJ := eq_true aJ
     replace aK := eq_true aK
     go_wp2_with (first | ((with_reducible refine Qd (f := 70) rfl ?_); refine zD (some 22) Tryz.func70 _ ((Jh.calls (rd l0 aA) 0 (wrap64 (a1 - 1)) false _ cZ.out).mono ?_); rintro e w' ⟨rfl, ⟨nd, rfl⟩⟩; refine ⟨_, rfl, ?_⟩))
     go_ret
     exact ⟨zE, zB⟩
    exact absurd H (by simp)
   obtain rfl := Option.some.inj H
   go_wp2
   go_ret
   exact ⟨zE, zB⟩
  exact absurd H (by simp)
 exact absurd H (by simp)
mutual
def Q0.l0 : Nat → Int → Int → Int → Int → Int → Int → Option (Int)
 | 0, _, _, _, _, _, _ => none
 | k + 1, x0, x1, x2, x3, x9, aA => if aA < x1 then (Q0.l0 k x0 x1 x2 x3 (wrap64 (x9 + (wrap64 (Int.tdiv (wrap64 ((wrap64 ((wrap64 (x0 - 1)) - aA)) * (wrap64 ((wrap64 (x0 - 2)) - aA)))) 2)))) (wrap64 (aA + 1))) else (Q0.l1 k x0 x2 x3 x9 (wrap64 (x1 + 1)))
def Q0.l1 : Nat → Int → Int → Int → Int → Int → Option (Int)
 | 0, _, _, _, _, _ => none
 | k + 1, x0, x2, x3, x9, aA => if aA < x2 then (Q0.l1 k x0 x2 x3 (wrap64 ((wrap64 ((wrap64 (x9 + x0)) - 1)) - aA)) (wrap64 (aA + 1))) else (some (wrap64 ((wrap64 ((wrap64 (x9 + x3)) - x2)) - 1)))
end
def Q0.f (k : Nat) (a0 : Int) (a1 : Int) (a2 : Int) (a3 : Int) : Option (Int) := Q0.l0 k a0 a1 a2 a3 0 0
theorem Q0.mono_l : ∀ k, (∀ y0 y1 y2 y3 y4 y5, LeO (Q0.l0 k y0 y1 y2 y3 y4 y5) (Q0.l0 (k + 1) y0 y1 y2 y3 y4 y5)) ∧ (∀ y0 y1 y2 y3 y4, LeO (Q0.l1 k y0 y1 y2 y3 y4) (Q0.l1 (k + 1) y0 y1 y2 y3 y4))
 | 0 => ⟨fun _ _ _ _ _ _ r h => by simp [Q0.l0] at h, fun _ _ _ _ _ r h => by simp [Q0.l1] at h⟩
 | k + 1 => by
  obtain ⟨aA, ih1⟩ := Q0.mono_l k
  refine ⟨?_, ?_⟩ <;> intros <;> (first | unfold Q0.l0 | unfold Q0.l1) <;> repeat' first
  | (with_reducible first | exact aA .. | exact ih1 .. | exact LeO.refl _ | exact LeO.none _ | refine LeO.ite ?_ ?_ | refine LeO.bind ?_ (fun _ => ?_))
  | exact aA .. | exact ih1 .. | exact LeO.none _ | refine LeO.ite ?_ ?_ | refine LeO.bind ?_ (fun _ => ?_)
theorem Q0.mono : ∀ a0 a1 a2 a3 k, LeO (Q0.f k a0 a1 a2 a3) (Q0.f (k + 1) a0 a1 a2 a3) := by
 intro a0 a1 a2 a3 k
 obtain ⟨aA, ih1⟩ := Q0.mono_l k
 unfold Q0.f
 repeat' first
   | (with_reducible first | exact aA .. | exact ih1 .. | exact LeO.refl _ | exact LeO.none _ | refine LeO.ite ?_ ?_ | refine LeO.bind ?_ (fun _ => ?_))
   | exact aA .. | exact ih1 .. | exact LeO.none _ | refine LeO.ite ?_ ?_ | refine LeO.bind ?_ (fun _ => ?_)
set_option maxHeartbeats 8000000 in
set_option maxRecDepth 100000 in
theorem Q0.calls (k : Nat) (a0 : Int) (a1 : Int) (a2 : Int) (a3 : Int) (r : Int) (w : World) (h : Q0.f k a0 a1 a2 a3 = some r) :
  Calls Tryz.prog 107 #[.int .i64 a0, .int .i64 a1, .int .i64 a2, .int .i64 a3] w fun e w' => e = .returned (.int .i64 r) ∧ Jj w w' := by
 have H := h
 unfold Q0.f at H
 clear h
 have H' := Qa.mk H; clear H
 go_enter Tryz.func107, Tryz.ntmps107
 go_wp2
 go_loopg [9, 10] k (fun kq v9 v10 w' => ∃ (aD : Int) (aA : Int), v9 = .int .i64 aD ∧ v10 = .int .i64 aA ∧ Qa (Q0.l0 kq a0 a1 a2 a3 aD aA = some r) ∧ Qa (kq ≤ k) ∧ Jj w w')
 case atStart => exact ⟨(0), (0), zF, zF, H', ⟨Nat.le_refl _⟩, by repeat (first | exact Jj.refl _ | apply Jj.step)⟩
 case round =>
 clear H'
 obtain ⟨aD, aA, rfl, rfl, HA, aI, ⟨m1, rfl⟩⟩ := hrel
 cases gk with
 | zero => exact absurd HA.out (by simp [Q0.l0])
 | succ k1 =>
 have H := HA.out
 clear HA
 simp only [Q0.l0] at H
 replace H := Xr H
 rcases H with ⟨aH, H⟩ | ⟨aH, H⟩
 ·have H' := Qa.mk H; clear H
  go_wp2
  go_roundg k1
  case measure => have := aI.out; omega
  case rel => exact ⟨(wrap64 (aD + (wrap64 (Int.tdiv (wrap64 ((wrap64 ((wrap64 (a0 - 1)) - aA)) * (wrap64 ((wrap64 (a0 - 2)) - aA)))) 2)))), (wrap64 (aA + 1)), zF, zF, H', ⟨by have := aI.out; omega⟩, by repeat (first | exact Jj.refl _ | apply Jj.step)⟩
 have H' := Qa.mk H; clear H
 go_wp2
 go_loopg [9, 11] k1 (fun kq v9 v11 w' => ∃ (aG : Int) (aC : Int), v9 = .int .i64 aG ∧ v11 = .int .i64 aC ∧ Qa (Q0.l1 kq a0 a2 a3 aG aC = some r) ∧ Qa (kq ≤ k1) ∧ Jj w w')
 case atStart => exact ⟨(aD), (wrap64 (a1 + 1)), zF, zF, H', ⟨Nat.le_refl _⟩, by repeat (first | exact Jj.refl _ | apply Jj.step)⟩
 case round =>
 clear H'
 try clear c5
 try clear aH
 obtain ⟨aG, aC, rfl, rfl, HA, aK, ⟨m2, rfl⟩⟩ := hrel
 cases gk with
 | zero => exact absurd HA.out (by simp [Q0.l1])
 | succ k2 =>
 have H := HA.out
 clear HA
 simp only [Q0.l1] at H
 replace H := Xr H
 rcases H with ⟨aJ, H⟩ | ⟨aJ, H⟩
 ·have H' := Qa.mk H; clear H
  go_wp2
  go_roundg k2
  case measure => have := aI.out; have := aK.out; omega
  case rel => exact ⟨(wrap64 ((wrap64 ((wrap64 (aG + a0)) - 1)) - aC)), (wrap64 (aC + 1)), zF, zF, H', ⟨by have := aI.out; have := aK.out; omega⟩, by repeat (first | exact Jj.refl _ | apply Jj.step)⟩
 obtain rfl := Option.some.inj H
 go_wp2
 go_ret
 exact ⟨by first | rfl | (simp; done) | (simp [*]; done), by repeat (first | exact Jj.refl _ | apply Jj.step)⟩
mutual
def Zf.j0 : Nat → Int → Int → Int → Int → Int → ByteArray → Option (Int)
 | 0, _, _, _, _, _, _ => none
 | k + 1, x1, x2, x3, x9, aA, aC => if x2 > x3 then (Zf.j1 k x1 x3 x2 (wrap64 (-x9)) aA aC) else (Zf.j1 k x1 x2 x3 x9 aA aC)
def Zf.j1 : Nat → Int → Int → Int → Int → Int → ByteArray → Option (Int)
 | 0, _, _, _, _, _, _ => none
 | k + 1, x1, x2, x3, x9, aC, aA => if x1 > x2 then ((Q0.f k aC x2 x1 x3).bind fun aD => (if 0 ≤ aD then (if aD < (aA.size : Int) then (if (bt aA aD) = 45 then (some (wrap64 (-(wrap64 (-x9))))) else (some (wrap64 (-x9)))) else (none)) else (none))) else ((Q0.f k aC x1 x2 x3).bind fun aG => (if 0 ≤ aG then (if aG < (aA.size : Int) then (if (bt aA aG) = 45 then (some (wrap64 (-x9))) else (some x9)) else (none)) else (none)))
end
def Zf.f (k : Nat) (aA : Int) (aC : ByteArray) (a1 : Int) (a2 : Int) (a3 : Int) : Option (Int) := if a1 > a2 then (Zf.j0 k a2 a1 a3 (-1) aA aC) else (Zf.j0 k a1 a2 a3 1 aA aC)
set_option maxHeartbeats 8000000 in
set_option maxRecDepth 100000 in
theorem Zf.calls (k : Nat) (aG : Int) (aA : ByteArray) (a1 : Int) (a2 : Int) (a3 : Int) (r : Int) (w : World) (h : Zf.f k aG aA a1 a2 a3 = some r) :
  Calls Tryz.prog 78 #[.agg #[.int .i64 aG, .string aA], .int .i64 a1, .int .i64 a2, .int .i64 a3] w fun e w' => e = .returned (.int .i64 r) ∧ Below w.heap.size w w' := by
 have dF := Tryz.underlying25
 have HB := Qa.mk (Below.refl w.heap.size w)
 have H := h
 unfold Zf.f at H
 clear h
 have cO := Qa.mk H
 clear H
 go_enter Tryz.func78, Tryz.ntmps78
 go_upto_if 15 with (first | ((with_reducible refine Qm (N := 4) rfl ?_); refine zBx (N := 4) #[.int .i64 aG, .string aA] 25 ?_; intro aW hg w6 hbox hb; have aH := Qa.mk (hbox); have bD := zS hg; have aK := zS hg; replace HB := zX hb; clear hb hbox hg))
 repeat (go_quiet (first | ((with_reducible refine Qm (N := 4) rfl ?_); refine zBx (N := 4) #[.int .i64 aG, .string aA] 25 ?_; intro aW hg w6 hbox hb; have aH := Qa.mk (hbox); have bD := zS hg; have aK := zS hg; replace HB := zX hb; clear hb hbox hg)); go_upto_if 15 with (first | ((with_reducible refine Qm (N := 4) rfl ?_); refine zBx (N := 4) #[.int .i64 aG, .string aA] 25 ?_; intro aW hg w6 hbox hb; have aH := Qa.mk (hbox); have bD := zS hg; have aK := zS hg; replace HB := zX hb; clear hb hbox hg)))
 (try simp only [Act.put, List.setIfInBounds_toArray, List.set_cons_zero, List.set_cons_succ])
 go_cut [1, 2, 9] (fun v1 v2 v9 wc => ∃ (kq : Nat) (aI : Int) (aV : Int) (aY : Int), v1 = .int .i64 aI ∧ v2 = .int .i64 aV ∧ v9 = .int .i64 aY ∧ Qa (Zf.j0 kq aI aV a3 aY aG aA = some r) ∧ Qa (kq ≤ k) ∧ Qa (wc.heap[aW]? = some (.cells #[.int .i64 aG, .string aA] 25 (0, 0))) ∧ Qa (Below w.heap.size w wc))
 case first =>
  have H := cO.out
  clear cO
  replace H := X8 H
  rcases H with ⟨c7, H⟩ | ⟨c7, H⟩
  ·have aZ : decide (a2 < a1) = true := decide_eq_true c7
   clear c7
   (first | rw [aZ] | (simp only [Zj, Zl]; rw [aZ]) | skip)
   have H' := Qa.mk H; clear H
   go_wp2
   repeat (go_quiet (fail); try go_wp2)
   go_meet
   case rel => exact ⟨_, (a2), (a1), (-1), zF, zF, zF, H', ⟨by first | omega | exact Nat.le_refl _⟩, ⟨zK aH.out⟩, ⟨zG aK.out⟩⟩
  have aZ : decide (a2 < a1) = false := decide_eq_false c7
  clear c7
  (first | rw [aZ] | (simp only [Zj, Zl]; rw [aZ]) | skip)
  have H' := Qa.mk H; clear H
  go_wp2
  repeat (go_quiet (fail); try go_wp2)
  go_meet
  case rel => exact ⟨_, (a1), (a2), (1), zF, zF, zF, H', ⟨by first | omega | exact Nat.le_refl _⟩, ⟨zK aH.out⟩, ⟨zG aK.out⟩⟩
 case rest =>
 clear cO
 obtain ⟨kq, aI, aV, aY, rfl, rfl, rfl, HA, dA, aH, HB⟩ := hcut
 cases kq with
 | zero => exact absurd HA.out (by simp [Zf.j0])
 | succ dG =>
 have H := HA.out
 clear HA
 simp only [Zf.j0] at H
 have cZ := Qa.mk H
 clear H
 go_upto_if 23 with (fail)
 repeat (go_quiet (fail); go_upto_if 23 with (fail))
 go_cut [2, 3, 9] (fun v2 v3 v9 wc => ∃ (kq : Nat) (aJ : Int) (aM : Int) (bE : Int), v2 = .int .i64 aJ ∧ v3 = .int .i64 aM ∧ v9 = .int .i64 bE ∧ Qa (Zf.j1 kq aI aJ aM bE aG aA = some r) ∧ Qa (kq ≤ dG) ∧ Qa (wc.heap[aW]? = some (.cells #[.int .i64 aG, .string aA] 25 (0, 0))) ∧ Qa (Below w.heap.size w wc))
 case first =>
  have H := cZ.out
  clear cZ
  replace H := X8 H
  rcases H with ⟨c9, H⟩ | ⟨c9, H⟩
  ·have bA : decide (a3 < aV) = true := decide_eq_true c9
   clear c9
   (first | rw [bA] | (simp only [Zj, Zl]; rw [bA]) | skip)
   have H' := Qa.mk H; clear H
   go_wp2
   repeat (go_quiet (fail); try go_wp2)
   go_meet
   case rel => exact ⟨_, (a3), (aV), (wrap64 (-aY)), zF, zF, zF, H', ⟨by have := dA.out; first | omega | exact Nat.le_refl _⟩, ⟨zK aH.out⟩, ⟨zG aK.out⟩⟩
  have bA : decide (a3 < aV) = false := decide_eq_false c9
  clear c9
  (first | rw [bA] | (simp only [Zj, Zl]; rw [bA]) | skip)
  have H' := Qa.mk H; clear H
  go_wp2
  repeat (go_quiet (fail); try go_wp2)
  go_meet
  case rel => exact ⟨_, (aV), (a3), (aY), zF, zF, zF, H', ⟨by have := dA.out; first | omega | exact Nat.le_refl _⟩, ⟨zK aH.out⟩, ⟨zG aK.out⟩⟩
 case rest =>
 clear cZ
 obtain ⟨kq, aJ, aM, bE, rfl, rfl, rfl, HA, dH, aH, HB⟩ := hcut
 cases kq with
 | zero => exact absurd HA.out (by simp [Zf.j1])
 | succ aX =>
 have H := HA.out
 clear HA
 simp only [Zf.j1] at H
 replace H := X8 H
 rcases H with ⟨c10, H⟩ | ⟨c10, H⟩
 ·have bH : decide (aJ < aI) = true := decide_eq_true c10
  clear c10
  obtain ⟨aC, bF, H⟩ := zO H
  replace H := J5 H
  rcases H with ⟨dB, H⟩ | ⟨c12, H⟩
  ·replace H := J5 H
   rcases H with ⟨dC, H⟩ | ⟨c13, H⟩
   ·replace H := Zc H
    rcases H with ⟨bI, bJ, H⟩ | ⟨c15, bI, bJ, H⟩
    ·obtain rfl := Option.some.inj H
     obtain ⟨bM, bN, bO, bP⟩ := zq2 aH.out
     go_wp2_with (first | (go_at_call 107; (with_reducible refine (Q0.calls aX aG aJ aI aM aC _ bF.out).mono ?_); rintro e w' ⟨rfl, ⟨nd, rfl⟩⟩; (try first | exact ⟨rfl, _, World.drewN_drewN _ _ _⟩ | exact ⟨rfl, _, Eq.trans (World.drewN_drewN _ _ _) (congrArg (World.drewN _) (Nat.add_assoc _ _ _))⟩); have aN : 0 ≤ (aC : Int) := zA; have aQ : aC < (aA.size : Int) := zA; have bB := Yh aA aC; replace aN := eq_true aN; replace aQ := eq_true aQ))
     repeat (go_quiet (first | (go_at_call 107; (with_reducible refine (Q0.calls aX aG aJ aI aM aC _ bF.out).mono ?_); rintro e w' ⟨rfl, ⟨nd, rfl⟩⟩; (try first | exact ⟨rfl, _, World.drewN_drewN _ _ _⟩ | exact ⟨rfl, _, Eq.trans (World.drewN_drewN _ _ _) (congrArg (World.drewN _) (Nat.add_assoc _ _ _))⟩); have aN : 0 ≤ (aC : Int) := zA; have aQ : aC < (aA.size : Int) := zA; have bB := Yh aA aC; replace aN := eq_true aN; replace aQ := eq_true aQ)); try go_wp2_with (first | (go_at_call 107; (with_reducible refine (Q0.calls aX aG aJ aI aM aC _ bF.out).mono ?_); rintro e w' ⟨rfl, ⟨nd, rfl⟩⟩; (try first | exact ⟨rfl, _, World.drewN_drewN _ _ _⟩ | exact ⟨rfl, _, Eq.trans (World.drewN_drewN _ _ _) (congrArg (World.drewN _) (Nat.add_assoc _ _ _))⟩); have aN : 0 ≤ (aC : Int) := zA; have aQ : aC < (aA.size : Int) := zA; have bB := Yh aA aC; replace aN := eq_true aN; replace aQ := eq_true aQ)))
     go_ret
     exact ⟨zE, zG aK.out⟩
    obtain rfl := Option.some.inj H
    obtain ⟨bQ, bR, bS, bT⟩ := zq2 aH.out
    go_wp2_with (first | (go_at_call 107; (with_reducible refine (Q0.calls aX aG aJ aI aM aC _ bF.out).mono ?_); rintro e w' ⟨rfl, ⟨nd, rfl⟩⟩; (try first | exact ⟨rfl, _, World.drewN_drewN _ _ _⟩ | exact ⟨rfl, _, Eq.trans (World.drewN_drewN _ _ _) (congrArg (World.drewN _) (Nat.add_assoc _ _ _))⟩); have aN : 0 ≤ (aC : Int) := zA; have aQ : aC < (aA.size : Int) := zA; have bB := Yh aA aC; replace aN := eq_true aN; replace aQ := eq_true aQ))
    repeat (go_quiet (first | (go_at_call 107; (with_reducible refine (Q0.calls aX aG aJ aI aM aC _ bF.out).mono ?_); rintro e w' ⟨rfl, ⟨nd, rfl⟩⟩; (try first | exact ⟨rfl, _, World.drewN_drewN _ _ _⟩ | exact ⟨rfl, _, Eq.trans (World.drewN_drewN _ _ _) (congrArg (World.drewN _) (Nat.add_assoc _ _ _))⟩); have aN : 0 ≤ (aC : Int) := zA; have aQ : aC < (aA.size : Int) := zA; have bB := Yh aA aC; replace aN := eq_true aN; replace aQ := eq_true aQ)); try go_wp2_with (first | (go_at_call 107; (with_reducible refine (Q0.calls aX aG aJ aI aM aC _ bF.out).mono ?_); rintro e w' ⟨rfl, ⟨nd, rfl⟩⟩; (try first | exact ⟨rfl, _, World.drewN_drewN _ _ _⟩ | exact ⟨rfl, _, Eq.trans (World.drewN_drewN _ _ _) (congrArg (World.drewN _) (Nat.add_assoc _ _ _))⟩); have aN : 0 ≤ (aC : Int) := zA; have aQ : aC < (aA.size : Int) := zA; have bB := Yh aA aC; replace aN := eq_true aN; replace aQ := eq_true aQ)))
    go_ret
    exact ⟨zE, zG aK.out⟩
   exact absurd H (by simp)
  exact absurd H (by simp)
 have bH : decide (aJ < aI) = false := decide_eq_false c10
 clear c10
 obtain ⟨aD, bG, H⟩ := zO H
 replace H := J5 H
 rcases H with ⟨dD, H⟩ | ⟨c19, H⟩
 ·replace H := J5 H
  rcases H with ⟨dE, H⟩ | ⟨c20, H⟩
  ·replace H := Zc H
   rcases H with ⟨bK, bL, H⟩ | ⟨dI, bK, bL, H⟩
   ·obtain rfl := Option.some.inj H
    obtain ⟨bU, bV, bW, bX⟩ := zq2 aH.out
    go_wp2_with (first | (go_at_call 107; (with_reducible refine (Q0.calls aX aG aI aJ aM aD _ bG.out).mono ?_); rintro e w' ⟨rfl, ⟨nd, rfl⟩⟩; (try first | exact ⟨rfl, _, World.drewN_drewN _ _ _⟩ | exact ⟨rfl, _, Eq.trans (World.drewN_drewN _ _ _) (congrArg (World.drewN _) (Nat.add_assoc _ _ _))⟩); have aT : 0 ≤ (aD : Int) := zA; have aU : aD < (aA.size : Int) := zA; have bC := Yh aA aD; replace aT := eq_true aT; replace aU := eq_true aU))
    repeat (go_quiet (first | (go_at_call 107; (with_reducible refine (Q0.calls aX aG aI aJ aM aD _ bG.out).mono ?_); rintro e w' ⟨rfl, ⟨nd, rfl⟩⟩; (try first | exact ⟨rfl, _, World.drewN_drewN _ _ _⟩ | exact ⟨rfl, _, Eq.trans (World.drewN_drewN _ _ _) (congrArg (World.drewN _) (Nat.add_assoc _ _ _))⟩); have aT : 0 ≤ (aD : Int) := zA; have aU : aD < (aA.size : Int) := zA; have bC := Yh aA aD; replace aT := eq_true aT; replace aU := eq_true aU)); try go_wp2_with (first | (go_at_call 107; (with_reducible refine (Q0.calls aX aG aI aJ aM aD _ bG.out).mono ?_); rintro e w' ⟨rfl, ⟨nd, rfl⟩⟩; (try first | exact ⟨rfl, _, World.drewN_drewN _ _ _⟩ | exact ⟨rfl, _, Eq.trans (World.drewN_drewN _ _ _) (congrArg (World.drewN _) (Nat.add_assoc _ _ _))⟩); have aT : 0 ≤ (aD : Int) := zA; have aU : aD < (aA.size : Int) := zA; have bC := Yh aA aD; replace aT := eq_true aT; replace aU := eq_true aU)))
    go_ret
    exact ⟨zE, zG aK.out⟩
   obtain rfl := Option.some.inj H
   obtain ⟨bY, bZ, cB, cK⟩ := zq2 aH.out
   go_wp2_with (first | (go_at_call 107; (with_reducible refine (Q0.calls aX aG aI aJ aM aD _ bG.out).mono ?_); rintro e w' ⟨rfl, ⟨nd, rfl⟩⟩; (try first | exact ⟨rfl, _, World.drewN_drewN _ _ _⟩ | exact ⟨rfl, _, Eq.trans (World.drewN_drewN _ _ _) (congrArg (World.drewN _) (Nat.add_assoc _ _ _))⟩); have aT : 0 ≤ (aD : Int) := zA; have aU : aD < (aA.size : Int) := zA; have bC := Yh aA aD; replace aT := eq_true aT; replace aU := eq_true aU))
   repeat (go_quiet (first | (go_at_call 107; (with_reducible refine (Q0.calls aX aG aI aJ aM aD _ bG.out).mono ?_); rintro e w' ⟨rfl, ⟨nd, rfl⟩⟩; (try first | exact ⟨rfl, _, World.drewN_drewN _ _ _⟩ | exact ⟨rfl, _, Eq.trans (World.drewN_drewN _ _ _) (congrArg (World.drewN _) (Nat.add_assoc _ _ _))⟩); have aT : 0 ≤ (aD : Int) := zA; have aU : aD < (aA.size : Int) := zA; have bC := Yh aA aD; replace aT := eq_true aT; replace aU := eq_true aU)); try go_wp2_with (first | (go_at_call 107; (with_reducible refine (Q0.calls aX aG aI aJ aM aD _ bG.out).mono ?_); rintro e w' ⟨rfl, ⟨nd, rfl⟩⟩; (try first | exact ⟨rfl, _, World.drewN_drewN _ _ _⟩ | exact ⟨rfl, _, Eq.trans (World.drewN_drewN _ _ _) (congrArg (World.drewN _) (Nat.add_assoc _ _ _))⟩); have aT : 0 ≤ (aD : Int) := zA; have aU : aD < (aA.size : Int) := zA; have bC := Yh aA aD; replace aT := eq_true aT; replace aU := eq_true aU)))
   go_ret
   exact ⟨zE, zG aK.out⟩
  exact absurd H (by simp)
 exact absurd H (by simp)
mutual
def Ja.l0 : Nat → List Int → Int → Int → ByteArray → Int → ByteArray → Option (Int × ByteArray)
 | 0, _, _, _, _, _, _ => none
 | k + 1, x1, x6, aD, aG, aA, aC => if x6 < (x1.length : Int) then (Ja.l1 k x1 x6 (wrap64 (x6 + 1)) aD aG aA aC) else (some (aA, aC))
def Ja.l1 : Nat → List Int → Int → Int → Int → ByteArray → Int → ByteArray → Option (Int × ByteArray)
 | 0, _, _, _, _, _, _, _ => none
 | k + 1, x1, x6, x7, aA, aC, aD, aG => if x7 < (x1.length : Int) then (Ja.l2 k x1 x6 x7 (wrap64 (x7 + 1)) aA aC aD aG) else (Ja.l0 k x1 (wrap64 (x6 + 1)) aA aC aD aG)
def Ja.l2 : Nat → List Int → Int → Int → Int → Int → ByteArray → Int → ByteArray → Option (Int × ByteArray)
 | 0, _, _, _, _, _, _, _, _ => none
 | k + 1, x1, x6, x7, x8, aA, aC, aG, aD => if x8 < (x1.length : Int) then (if 0 ≤ x6 then (if x6 < (x1.length : Int) then (if 0 ≤ x7 then (if x7 < (x1.length : Int) then (if 0 ≤ x8 then ((Zf.f k aA aC (rd x1 x6) (rd x1 x7) (rd x1 x8)).bind fun aI => ((Xb.f aI).bind fun aH => (if aD.size + aH.size ≤ 9223372036854775807 then (Ja.l2 k x1 x6 x7 (wrap64 (x8 + 1)) aA aC aG (aD ++ aH)) else (none)))) else (none)) else (none)) else (none)) else (none)) else (none)) else (Ja.l1 k x1 x6 (wrap64 (x7 + 1)) aA aC aG aD)
end
def Ja.f (k : Nat) (aA : Int) (aC : ByteArray) (l1 : List Int) : Option (Int × ByteArray) := Ja.l0 k l1 0 aA aC (l1.length : Int) (⟨#[]⟩ : ByteArray)
def Ja.T11 : Bool × List (List Nat × List Nat) := (true, [([], []), ([0], [0]), ([], []), ([], []), ([], []), ([3, 4], [3, 4]), ([5], [5]), ([], []), ([], []), ([7, 8], [7, 8]), ([9], [9]), ([], []), ([], []), ([11, 12], [11, 12]), ([13], [13]), ([2, 6, 10, 14], [2, 6, 10, 14]), ([15, 15], [15]), ([1, 16], [1, 16]), ([0, 1, 2, 3, 4, 5, 6, 7, 8, 9, 10, 11, 12, 13, 14, 15, 16, 17], []), ([18, 17, 16, 0, 1, 2, 3, 4, 5, 6, 7, 8, 9, 10, 11, 12, 13, 14, 15, 16, 17], [17, 18])])
def Ja.B11 : List Nat := [0, 1, 0, 0, 0, 24, 56, 0, 0, 384, 896, 0, 0, 6144, 14336, 32764, 65532, 131071, 262143, 524287]
theorem Ja.tab11 : Vv .any (opsOf Tryz.f66 11) = Ja.T11 := by kernel_rfl
theorem Ja.bits11 : Zz Ja.T11.2 Ja.B11 = true := by kernel_rfl
set_option maxHeartbeats 8000000 in
set_option maxRecDepth 100000 in
theorem Ja.calls (k : Nat) (bD : Int) (bE : ByteArray) (A1 : Option Addr) (c1 : Nat) (l1 : List Int) (r1 : Int) (r2 : ByteArray) (w : World) (hr1 : Kd.C (Kd.int .i64) w A1 l1.length l1) (hc1 : l1.length ≤ c1) (h : Ja.f k bD bE l1 = some (r1, r2)) :
  Calls Tryz.prog 66 #[.agg #[.int .i64 bD, .string bE], .slice A1 l1.length c1] w fun e w' => e = .returned (.agg #[.int .i64 r1, .string r2]) ∧ Below w.heap.size w w' := by
 have eY := Tryz.underlying25
 have HR1 := Qa.mk hr1
 have fH := Qa.mk hc1
 clear hr1 hc1
 have HB := Qa.mk (Below.refl w.heap.size w)
 have H := h
 unfold Ja.f at H
 clear h
 have H' := Qa.mk H; clear H
 go_enter Tryz.func66, Tryz.ntmps66
 go_wp2_with (first | ((with_reducible refine Qm (N := 2) rfl ?_); refine zBx (N := 2) #[.int .i64 bD, .string bE] 25 ?_; intro bH hg w3 hbox hb; have aA := Qa.mk (hbox); have dR := zS hg; have aJ := zS hg; replace HB := zX hb; clear hb hbox hg) | ((with_reducible refine Qm (N := 4) rfl ?_); refine zBx (N := 4) #[.int .i64 0, .string (⟨#[]⟩ : ByteArray)] 25 ?_; intro bN hg w4 hbox hb; have aD := Qa.mk (hbox); have dS := zSg hg (zG aJ.out); have aN := zSg hg (zG aJ.out); have bO := zL hg aA.out; have bP := zLg hg aA.out; replace aA := zV aA.out hb; replace HB := zX1 aJ.out hb; clear hb hbox hg) | ((with_reducible refine Qm (N := 5) rfl ?_); refine zBx (N := 5) #[.int .i64 0, .string (⟨#[]⟩ : ByteArray)] 25 ?_; intro bG hg w5 hbox hb; have aC := Qa.mk (hbox); have dU := zSg hg (zG2 aJ.out aN.out); have bC := zSg hg (zG2 aJ.out aN.out); have aH := zL hg aA.out; have aZ := zLg hg aA.out; replace aA := zV aA.out hb; have aI := zL hg aD.out; have bA := zLg hg aD.out; replace aD := zV aD.out hb; replace HB := Qa.mk (Qg (zG2 aJ.out aN.out) hb); clear hb hbox hg; have eZ := aZ.out; have fA := aH.out; have fB := bA.out; have fC := aI.out; obtain ⟨bJ, bK, bL, bM⟩ := zq2 aC.out))
 go_loopg [6] k (fun kq v6 w' => ∃ (aV : Int) (aK : ByteArray), v6 = .int .i64 aV ∧ Qa (Ja.l0 kq l1 aV bD bE (l1.length : Int) aK = some (r1, r2)) ∧ Qa (kq ≤ k) ∧ Qa (w'.heap[bH]? = some (.cells #[.int .i64 bD, .string bE] 25 (0, 0))) ∧ Qa (w'.heap[bN]? = some (.cells #[.int .i64 0, .string (⟨#[]⟩ : ByteArray)] 25 (0, 0))) ∧ Qa (w'.heap[bG]? = some (.cells #[.int .i64 (l1.length : Int), .string aK] 25 (0, 0))) ∧ Qa (Below w.heap.size w w'))
 case atStart => exact ⟨(0), ((⟨#[]⟩ : ByteArray)), zF, H', ⟨Nat.le_refl _⟩, ⟨zk2 aA.out aH.out aH.out⟩, ⟨zk2 aD.out aI.out aI.out⟩, ⟨zk0 aC.out⟩, ⟨zG3 aJ.out aN.out bC.out⟩⟩
 case round =>
 clear H'
 try clear bJ
 try clear bK
 try clear bL
 try clear bM
 obtain ⟨aV, aK, rfl, HA, cB, aA, aD, aC, HB⟩ := hrel
 cases gk with
 | zero => exact absurd HA.out (by simp [Ja.l0])
 | succ k1 =>
 have H := HA.out
 clear HA
 simp only [Ja.l0] at H
 replace H := Xr H
 rcases H with ⟨bR, H⟩ | ⟨bR, H⟩
 ·have H' := Qa.mk H; clear H
  go_wp2
  go_loopg [7] k1 (fun kq v7 w' => ∃ (bB : Int) (aM : ByteArray), v7 = .int .i64 bB ∧ Qa (Ja.l1 kq l1 aV bB bD bE (l1.length : Int) aM = some (r1, r2)) ∧ Qa (kq ≤ k1) ∧ Qa (w'.heap[bH]? = some (.cells #[.int .i64 bD, .string bE] 25 (0, 0))) ∧ Qa (w'.heap[bN]? = some (.cells #[.int .i64 0, .string (⟨#[]⟩ : ByteArray)] 25 (0, 0))) ∧ Qa (w'.heap[bG]? = some (.cells #[.int .i64 (l1.length : Int), .string aM] 25 (0, 0))) ∧ Qa (Below w.heap.size w w'))
  case atStart => exact ⟨(wrap64 (aV + 1)), (aK), zF, H', ⟨Nat.le_refl _⟩, ⟨zK aA.out⟩, ⟨zK aD.out⟩, ⟨zK aC.out⟩, ⟨zG3 aJ.out aN.out bC.out⟩⟩
  case round =>
  clear H'
  try clear c9
  try clear bR
  try clear bJ
  try clear bK
  try clear bL
  try clear bM
  obtain ⟨bB, aM, rfl, HA, cK, aA, aD, aC, HB⟩ := hrel
  cases gk with
  | zero => exact absurd HA.out (by simp [Ja.l1])
  | succ k2 =>
  have H := HA.out
  clear HA
  simp only [Ja.l1] at H
  replace H := Xr H
  rcases H with ⟨bQ, H⟩ | ⟨bQ, H⟩
  ·have H' := Qa.mk H; clear H
   go_wp2
   go_loopg [8] k2 (fun kq v8 w' => ∃ (bF : Int) (aG : ByteArray), v8 = .int .i64 bF ∧ Qa (Ja.l2 kq l1 aV bB bF bD bE (l1.length : Int) aG = some (r1, r2)) ∧ Qa (kq ≤ k2) ∧ Qa (w'.heap[bH]? = some (.cells #[.int .i64 bD, .string bE] 25 (0, 0))) ∧ Qa (w'.heap[bN]? = some (.cells #[.int .i64 0, .string (⟨#[]⟩ : ByteArray)] 25 (0, 0))) ∧ Qa (w'.heap[bG]? = some (.cells #[.int .i64 (l1.length : Int), .string aG] 25 (0, 0))) ∧ Qa (Below w.heap.size w w'))
   case atStart => exact ⟨(wrap64 (bB + 1)), (aM), zF, H', ⟨Nat.le_refl _⟩, ⟨zK aA.out⟩, ⟨zK aD.out⟩, ⟨zK aC.out⟩, ⟨zG3 aJ.out aN.out bC.out⟩⟩
   case round =>
   clear H'
   try clear c9
   try clear bR
   try clear c10
   try clear bQ
   try clear bJ
   try clear bK
   try clear bL
   try clear bM
   obtain ⟨bF, aG, rfl, HA, dB, aA, aD, aC, HB⟩ := hrel
   cases gk with
   | zero => exact absurd HA.out (by simp [Ja.l2])
   | succ k3 =>
   have H := HA.out
   clear HA
   simp only [Ja.l2] at H
   replace H := Xr H
   rcases H with ⟨cO, H⟩ | ⟨cO, H⟩
   ·replace H := J5 H
    rcases H with ⟨dV, H⟩ | ⟨c12, H⟩
    ·replace H := J5 H
     rcases H with ⟨dW, H⟩ | ⟨c13, H⟩
     ·replace H := J5 H
      rcases H with ⟨dX, H⟩ | ⟨c14, H⟩
      ·replace H := J5 H
       rcases H with ⟨dY, H⟩ | ⟨c15, H⟩
       ·replace H := J5 H
        rcases H with ⟨dZ, H⟩ | ⟨c16, H⟩
        ·obtain ⟨bS, fD, H⟩ := zO H
         obtain ⟨bT, fE, H⟩ := zO H
         replace H := Yj H
         rcases H with ⟨c19, eB, eD, H⟩ | ⟨c19, H⟩
         ·try have eF : (9223372036854775807 < aG.size + bT.size) = False := eq_false (Nat.not_lt.2 c19)
          have H' := Qa.mk H; clear H
          try go_wp2
          replace aA := Qa.mk (Qk aA.out)
          replace aD := Qa.mk (Qk aD.out)
          replace aC := Qa.mk (Qk aC.out)
          replace HB := Qa.mk (Qo HB.out)
          have bU : 0 ≤ (aV : Int) := zA
          have bV : aV < (l1.length : Int) := zA
          obtain ⟨bI, dO, aW⟩ := Kd.at_int HR1.out aV bU bV
          have aQ := aW
          cases dO
          replace aW := (HB.out.cell (World.block_lt_of_cell? w _ aW)).trans aW
          replace bU := eq_true bU
          replace bV := eq_true bV
          have bW : 0 ≤ (bB : Int) := zA
          have bX : bB < (l1.length : Int) := zA
          obtain ⟨cZ, dP, aX⟩ := Kd.at_int HR1.out bB bW bX
          have aT := aX
          obtain rfl : bI = cZ := (by injection dP)
          replace aX := (HB.out.cell (World.block_lt_of_cell? w _ aX)).trans aX
          replace bW := eq_true bW
          replace bX := eq_true bX
          have bY : 0 ≤ (bF : Int) := zA
          have bZ : bF < (l1.length : Int) := zA
          obtain ⟨dA, dQ, aY⟩ := Kd.at_int HR1.out bF bY bZ
          have aU := aY
          obtain rfl : bI = dA := (by injection dQ)
          replace aY := (HB.out.cell (World.block_lt_of_cell? w _ aY)).trans aY
          replace bY := eq_true bY
          replace bZ := eq_true bZ
          refine Xe (n := 20) (S := fun w' => w'.cell? ⟨bG, 0, none⟩ = some (.int .i64 (l1.length : Int)) ∧ w'.cell? ⟨bG, 1, none⟩ = some (.string aG) ∧ w'.cell? ⟨bH, 0, none⟩ = some (.int .i64 bD) ∧ w'.cell? ⟨bH, 1, none⟩ = some (.string bE) ∧ w'.cell? (bI.add (aV).toNat) = some (.int .i64 (rd l1 aV)) ∧ w'.cell? (bI.add (bB).toNat) = some (.int .i64 (rd l1 bB)) ∧ w'.cell? (bI.add (bF).toNat) = some (.int .i64 (rd l1 bF))) (ds := [19]) #[false, false, false, false, false, false, false, false, false, false, false, false, false, false, false, false, false, false, false, false] (by kernel_rfl) rfl rfl ⟨(Qj aC.out 0).trans rfl, (Qj aC.out 1).trans rfl, (Qj aA.out 0).trans rfl, (Qj aA.out 1).trans rfl, ((HB.out.cell (World.block_lt_of_cell? w _ aQ)).trans aQ), ((HB.out.cell (World.block_lt_of_cell? w _ aT)).trans aT), ((HB.out.cell (World.block_lt_of_cell? w _ aU)).trans aU)⟩ (fun hHeld => ?_); refine J6 Ja.tab11 Ja.bits11 (fun HT_ HW_ => ?_)
          generalize wr.drew = fI at aA aD aC HB aW aX aY hHeld ⊢
          refine zP 0 (some 34) rfl rfl ?_
          refine zP 3 (some 37) rfl rfl ?_
          refine zP 4 (some 38) rfl rfl ?_
          refine zP 5 (some 39) rfl rfl ?_
          refine zP 7 (some 41) rfl rfl ?_
          refine zP 8 (some 42) rfl rfl ?_
          refine zP 9 (some 43) rfl rfl ?_
          refine zP 11 (some 45) rfl rfl ?_
          refine zP 12 (some 46) rfl rfl ?_
          refine zP 13 (some 47) rfl rfl ?_
          refine zY7 1 (some 35) rfl rfl hHeld ?_
          refine zY7 2 (some 36) rfl rfl hHeld ?_
          refine zY7 6 (some 40) rfl rfl hHeld ?_
          refine zY7 10 (some 44) rfl rfl hHeld ?_
          refine zY7 14 (some 48) rfl rfl hHeld ?_
          refine zU 15 (some 49) rfl rfl (fun K hK => ?_)
          refine X0 Tryz.func78 (by kernel_rfl) rfl #[.agg #[.int .i64 bD, .string bE], .int .i64 (rd l1 aV), .int .i64 (rd l1 bB), .int .i64 (rd l1 bF)] (by rfl) rfl rfl zM ?_
          with_reducible refine (Zf.calls k3 bD bE (rd l1 aV) (rd l1 bB) (rd l1 bF) bS _ fD.out).mono ?_
          rintro e fF ⟨rfl, hb⟩
          refine ⟨_, rfl, ?_⟩
          replace aA := zV aA.out hb
          replace aD := zV aD.out hb
          replace aC := zV aC.out hb
          replace HB := Qa.mk (Qg (zG3 aJ.out aN.out bC.out) hb)
          (try clear hb)
          refine hK.out _ _ ⟨(Qj aC.out 0).trans rfl, (Qj aC.out 1).trans rfl, (Qj aA.out 0).trans rfl, (Qj aA.out 1).trans rfl, ((HB.out.cell (World.block_lt_of_cell? w _ aQ)).trans aQ), ((HB.out.cell (World.block_lt_of_cell? w _ aT)).trans aT), ((HB.out.cell (World.block_lt_of_cell? w _ aU)).trans aU)⟩ (fun hHeld => ?_)
          clear hK K
          refine zN ?_
          refine zU 16 (some 50) rfl rfl (fun K hK => ?_)
          refine X0 Tryz.func58 (by kernel_rfl) rfl #[.int .i64 bS] (by rfl) rfl rfl zM ?_
          with_reducible refine (Xb.calls bS bT _ fE.out).mono ?_
          rintro e w' ⟨rfl, ⟨nd, rfl⟩⟩
          refine ⟨_, rfl, ?_⟩
          refine hK.out _ _ ⟨(Qj aC.out 0).trans rfl, (Qj aC.out 1).trans rfl, (Qj aA.out 0).trans rfl, (Qj aA.out 1).trans rfl, ((HB.out.cell (World.block_lt_of_cell? w _ aQ)).trans aQ), ((HB.out.cell (World.block_lt_of_cell? w _ aT)).trans aT), ((HB.out.cell (World.block_lt_of_cell? w _ aU)).trans aU)⟩ (fun hHeld => ?_)
          clear hK K
          refine zN ?_
          refine zP 17 (some 51) rfl rfl ?_
          refine zP 18 (some 52) rfl rfl ?_
          refine jFn (i := 19) (N := none) #[true, true, true, true, true, true, true, true, true, true, true, true, true, true, true, true, true, true, true, true] rfl rfl (jAm HT_.out (by kernel_rfl)) (by decide) (fun K hK => ?_)
          have fG : fF.cell? ⟨bG, 1, none⟩ = some (.string aG) := (Qj aC.out 1).trans rfl
          have eG := J8 aC.out 1
          have dC := aH.out
          have dD := aI.out
          have dE := aZ.out
          have dF := bA.out
          refine jA2 (w1 := ?_) (by rfl) rfl ?_ ?_
          rotate_left
          ·go_simp
           rfl
          refine hK.out _ _ ?_
          clear hK K
          refine Yp (Zu HT_.out (by kernel_rfl)) ?_
          try go_wp2
          go_roundg k3
          case measure => have := cB.out; have := cK.out; have := dB.out; omega
          case rel => exact ⟨(wrap64 (bF + 1)), (aG ++ bT), zF, H', ⟨by have := cB.out; have := cK.out; have := dB.out; omega⟩, ⟨zk1 aA.out aH.out⟩, ⟨zk1 aD.out aI.out⟩, ⟨zk0 aC.out⟩, ⟨zG3 aJ.out aN.out bC.out⟩⟩
         exact absurd H (by simp)
        exact absurd H (by simp)
       exact absurd H (by simp)
      exact absurd H (by simp)
     exact absurd H (by simp)
    exact absurd H (by simp)
   have H' := Qa.mk H; clear H
   go_wp2
   go_roundg k3
   case measure => have := cB.out; have := cK.out; have := dB.out; omega
   case rel => exact ⟨(wrap64 (bB + 1)), (aG), zF, H', ⟨by have := cB.out; have := cK.out; have := dB.out; omega⟩, ⟨zK aA.out⟩, ⟨zK aD.out⟩, ⟨zK aC.out⟩, ⟨zG3 aJ.out aN.out bC.out⟩⟩
  have H' := Qa.mk H; clear H
  go_wp2
  go_roundg k2
  case measure => have := cB.out; have := cK.out; omega
  case rel => exact ⟨(wrap64 (aV + 1)), (aM), zF, H', ⟨by have := cB.out; have := cK.out; omega⟩, ⟨zK aA.out⟩, ⟨zK aD.out⟩, ⟨zK aC.out⟩, ⟨zG3 aJ.out aN.out bC.out⟩⟩
 simp only [Option.some.injEq, Prod.mk.injEq] at H
 obtain ⟨rfl, rfl⟩ := H
 have eH := aZ.out
 have eO := aH.out
 have eP := bA.out
 have eQ := aI.out
 obtain ⟨dG, dH, dI, dJ⟩ := zq2 aC.out
 have eU := bP.out
 have eX := bO.out
 obtain ⟨dK, dL, dM, dN⟩ := zq2 aD.out
 go_wp2
 refine bodyPost_ret (results_cell_row rfl _ _ bN 25 #[.int .i64 (l1.length : Int), .string aK] (0, 0) _ rfl (zk0 aD.out) Tryz.underlying25 rfl (by kernel_rfl)) rfl ?_
 exact ⟨zE, zG3 aJ.out aN.out bC.out⟩
def Ze.l0 : Nat → List Int → List Int → Int → Option (List Int)
 | 0, _, _, _ => none
 | k + 1, x0, x3, x4 => if x4 < (x0.length : Int) then (if 0 ≤ x4 then (if 0 ≤ (rd x0 x4) then (if (rd x0 x4) < (x3.length : Int) then (Ze.l0 k x0 (x3.set ((rd x0 x4) : Int).toNat x4) (wrap64 (x4 + 1))) else (none)) else (none)) else (none)) else (some x3)
def Ze.f (k : Nat) (l0 : List Int) : Option (List Int) := if 0 ≤ (l0.length : Int) then (if ((l0.length : Int) : Int).toNat ≤ 35184372088832 then (Ze.l0 k l0 (List.replicate ((l0.length : Int) : Int).toNat 0) 0) else (none)) else (none)
set_option maxHeartbeats 8000000 in
set_option maxRecDepth 100000 in
theorem Ze.calls (k : Nat) (A0 : Option Addr) (c0 : Nat) (l0 : List Int) (r : List Int) (w : World) (hr0 : Kd.C (Kd.int .i64) w A0 l0.length l0) (hc0 : l0.length ≤ c0) (h : Ze.f k l0 = some r) :
  Calls Tryz.prog 67 #[.slice A0 l0.length c0] w fun e w' => ∃ bR : Value, e = .returned (bR) ∧ Kd.R (Kd.int .i64) 3 w' w.heap.size (fun _ => True) bR r ∧ Below w.heap.size w w' := by
 have bU := Qa.mk hr0
 have cB := Qa.mk hc0
 clear hr0 hc0
 have HB := Qa.mk (Below.refl w.heap.size w)
 have H := h
 unfold Ze.f at H
 clear h
 replace H := Xt H
 rcases H with ⟨bA, bB, H⟩ | ⟨c2, H⟩
 ·replace H := Xt H
  rcases H with ⟨bC, bD, H⟩ | ⟨c3, H⟩
  ·generalize aH : (List.replicate ((l0.length : Int) : Int).toNat 0 : List Int) = bE at H
   have aI := Qa.mk aH.symm
   clear aH
   have H' := Qa.mk H; clear H
   go_enter Tryz.func67, Tryz.ntmps67
   go_wp2_with (first | ((with_reducible refine Qm (N := 7) rfl ?_); refine Kd.R_make (Kd.int .i64) _ 3 rfl (N := 7) rfl 34 _ _ rfl (l0.length : Int) rfl rfl Tryz.underlying34 (.int .i64 0) 8 info3 rfl (by decide) (by omega) 0 (ok := fun _ => True) (okp := fun _ => True) rfl (fun _ hk => hk) trivial (zA) (Nat.le_trans (Nat.mul_le_mul_right _ (zA : (l0.length : Int).toNat ≤ 35184372088832)) (by omega)) (Below.refl _ _) (Nat.le_refl _) ?_; intro bF w4 aT hb hg_ hnew_; clear hg_ hnew_; (first | rw [← aI.out] at aT | (simp only [Int.reduceToNat] at aT; rw [← aI.out] at aT)); have aU := Qa.mk (Kd.R_lower aT (Q6 zB)); replace HB := zX hb; clear hb aT))
   go_loopg [4] k (fun kq v4 w' => ∃ (aD : List Int) (aA : Int), v4 = .int .i64 aA ∧ Qa (Ze.l0 kq l0 aD aA = some r) ∧ Qa (kq ≤ k) ∧ Qa (Kd.R (Kd.int .i64) 3 w' w.heap.size (fun _ => True) bF aD) ∧ Qa (Below w.heap.size w w'))
   case atStart => exact ⟨(bE), (0), zF, H', ⟨Nat.le_refl _⟩, ⟨zR aU.out⟩, ⟨zB⟩⟩
   case round =>
   clear H'
   try clear c2
   try clear bA
   try clear bB
   try clear c3
   try clear bC
   try clear bD
   obtain ⟨aD, aA, rfl, HA, bS, aG, HB⟩ := hrel
   cases gk with
   | zero => exact absurd HA.out (by simp [Ze.l0])
   | succ k1 =>
   have H := HA.out
   clear HA
   simp only [Ze.l0] at H
   replace H := Xr H
   rcases H with ⟨bG, H⟩ | ⟨bG, H⟩
   ·replace H := J5 H
    rcases H with ⟨bV, H⟩ | ⟨c7, H⟩
    ·replace H := J5 H
     rcases H with ⟨bW, H⟩ | ⟨c8, H⟩
     ·replace H := J5 H
      rcases H with ⟨bX, H⟩ | ⟨c9, H⟩
      ·generalize aJ : (aD.set ((rd l0 aA) : Int).toNat aA : List Int) = aV at H
       have aW := Qa.mk aJ.symm
       clear aJ
       have H' := Qa.mk H; clear H
       have aK : 0 ≤ (aA : Int) := zA
       have aM : aA < (l0.length : Int) := zA
       obtain ⟨bT, bH, aC⟩ := Kd.at_int bU.out aA aK aM
       cases bH
       replace aC := (HB.out.cell (World.block_lt_of_cell? w _ aC)).trans aC
       replace aK := eq_true aK
       replace aM := eq_true aM
       have bI : 0 ≤ ((rd l0 aA) : Int) := zA
       have bJ : ((rd l0 aA) : Int) < ((aD.length : Int) : Int) := zA
       obtain ⟨aN, bK, aX, aY, bL, bY, aZ⟩ := Kd.R_form aG.out (by omega)
       (first | cases aX | (injection aX with ea_ en_ ec_; (first | subst ea_ | (injection ea_ with ea_; subst ea_)); subst ec_; clear en_))
       have bM := Qa.mk aY
       have bZ := Qa.mk aZ
       clear aY bL aZ
       obtain ⟨bN, bO⟩ := Kd.R_celln 0 aG.out ((rd l0 aA) : Int) bI bJ
       replace bI := eq_true bI
       replace bJ := eq_true bJ
       have aQ := Kd.R_putg aG.out ((rd l0 aA) : Int) aA
       go_wp2_with (first | ((with_reducible refine Vq (t := 3) (p := 20) rfl ?_); refine Ve (t := 3) (p := 20) (v := ?bP) (w1 := (wr.setCell ⟨aN, ((rd l0 aA) : Int).toNat, none⟩ (.int .i64 aA))) ?hg ?ho ?hn ?hr ?_; (case ho => rfl); (case hg => rfl); (case hn => rfl); (case hr => first | (go_simp; done) | (go_simp; rfl)); intro bQ hw; have hg : wr.grownBy bQ (some aN) := (by rw [hw]; exact aQ.2); have hp_ : Kd.R (Kd.int .i64) 3 bQ w.heap.size (fun _ => True) (.slice (some ⟨aN, 0, none⟩) aD.length bK) aV := (by rw [hw, aW.out]; exact aQ.1); clear aQ; replace aG := Qa.mk (hp_); replace HB := Qa.mk ((by rw [hw]; exact Qf (HB.out) bM.out : Below w.heap.size w bQ)); clear hg hw hp_))
       go_roundg k1
       case measure => have := bS.out; omega
       case rel => exact ⟨(aV), (wrap64 (aA + 1)), zF, H', ⟨by have := bS.out; omega⟩, ⟨zR aG.out⟩, ⟨zB⟩⟩
      exact absurd H (by simp)
     exact absurd H (by simp)
    exact absurd H (by simp)
   obtain rfl := Option.some.inj H
   go_wp2
   go_ret
   exact ⟨_, zE, zR aG.out, zB⟩
  exact absurd H (by simp)
 exact absurd H (by simp)
def Jw.j0 : Nat → List Int → Bool → Int → ByteArray → Option (Int × ByteArray × Bool)
 | 0, _, _, _, _ => none
 | k + 1, x1, aH, aA, aC => if aH = true then (some (0, (⟨#[]⟩ : ByteArray), false)) else ((Ze.f k x1).bind fun aG => ((Ja.f k aA aC aG).bind fun aD => (some (aD.1, aD.2, true))))
def Jw.f (k : Nat) (aA : Int) (aC : ByteArray) (l1 : List Int) : Option (Int × ByteArray × Bool) := (Qu.f k aA aC).bind fun aD => (if aD = true then ((Zh.f k l1 aA).bind fun aG => (Jw.j0 k l1 (!aG) aA aC)) else (Jw.j0 k l1 true aA aC))
set_option maxHeartbeats 8000000 in
set_option maxRecDepth 100000 in
theorem Jw.calls (k : Nat) (aK : Int) (aM : ByteArray) (A1 : Option Addr) (c1 : Nat) (l1 : List Int) (r1 : Int) (r2 : ByteArray) (r3 : Bool) (w : World) (hr1 : Kd.C (Kd.int .i64) w A1 l1.length l1) (hc1 : l1.length ≤ c1) (h : Jw.f k aK aM l1 = some (r1, r2, r3)) :
  Calls Tryz.prog 15 #[.agg #[.int .i64 aK, .string aM], .slice A1 l1.length c1] w fun e w' => e = .returned (.tuple #[.agg #[.int .i64 r1, .string r2], .bool r3]) ∧ Below w.heap.size w w' := by
 have dI := Tryz.underlying25
 have HR1 := Qa.mk hr1
 have bZ := Qa.mk hc1
 clear hr1 hc1
 have HB := Qa.mk (Below.refl w.heap.size w)
 have H := h
 unfold Jw.f at H
 clear h
 have bV := Qa.mk H
 clear H
 go_enter Tryz.func15, Tryz.ntmps15
 go_upto_region 1 with (first | ((with_reducible refine Qm (N := 2) rfl ?_); refine zBx (N := 2) #[.int .i64 aK, .string aM] 25 ?_; intro aV hg w4 hbox hb; have aA := Qa.mk (hbox); have cB := zS hg; have aG := zS hg; replace HB := zX hb; clear hb hbox hg) | ((with_reducible refine Qm (N := 4) rfl ?_); refine zBx (N := 4) #[.int .i64 0, .string (⟨#[]⟩ : ByteArray)] 25 ?_; intro aJ hg w5 hbox hb; have aC := Qa.mk (hbox); have cK := zSg hg (zG aG.out); have aI := zSg hg (zG aG.out); have aD := zL hg aA.out; have aH := zLg hg aA.out; replace aA := zV aA.out hb; replace HB := zX1 aG.out hb; clear hb hbox hg))
 (try simp only [Act.put, List.setIfInBounds_toArray, List.set_cons_zero, List.set_cons_succ])
 go_cut [15] (fun v15 wc => ∃ (kq : Nat) (aU : Bool), v15 = .bool aU ∧ Qa (Jw.j0 kq l1 aU aK aM = some (r1, r2, r3)) ∧ Qa (kq ≤ k) ∧ Qa (wc.heap[aV]? = some (.cells #[.int .i64 aK, .string aM] 25 (0, 0))) ∧ Qa (wc.heap[aJ]? = some (.cells #[.int .i64 0, .string (⟨#[]⟩ : ByteArray)] 25 (0, 0))) ∧ Qa (Below w.heap.size w wc))
 case first =>
  have H := bV.out
  clear bV
  obtain ⟨bW, A6, H⟩ := zO H
  by_cases c7 : bW = true
  ·subst c7
   replace H := (if_pos rfl).symm.trans H
   obtain ⟨aZ, A8, H⟩ := zO H
   have H' := Qa.mk H; clear H
   have dJ := aD.out
   have dK := aH.out
   obtain ⟨bB, bC, bD, bE⟩ := zq2 aA.out
   go_wp2_with (first | ((with_reducible refine Qd (f := 25) rfl ?_); refine zD (some 7) Tryz.func25 _ ((Qu.calls k aK aM true _ A6.out).mono ?_); rintro e dU ⟨rfl, hb⟩; refine ⟨_, rfl, ?_⟩; replace aA := zV aA.out hb; replace aC := zV aC.out hb; replace HB := Qa.mk (Qg (zG2 aG.out aI.out) hb); (try clear hb); obtain ⟨bF, bG, bH, bI⟩ := zq2 aA.out) | (go_at_call 65; (with_reducible refine (Zh.calls k _ _ l1 aK aZ _ ?aN ?aQ A8.out).mono ?_); (case aN => exact zc (Kd.C_below HR1.out HB.out)); (case aQ => exact bZ.out); rintro e dV ⟨rfl, hb⟩; replace aA := zV aA.out hb; replace aC := zV aC.out hb; replace HB := Qa.mk (Qg (zG2 aG.out aI.out) hb); (try clear hb); (try clear hb2); (try clear hk); (try clear hi)))
   go_meet
   case rel => exact ⟨_, (!aZ), zF, H', ⟨by first | omega | exact Nat.le_refl _⟩, ⟨zK aA.out⟩, ⟨zK aC.out⟩, ⟨zG2 aG.out aI.out⟩⟩
  replace c7 := Bool.eq_false_iff.mpr c7
  subst c7
  replace H := (if_neg zFf).symm.trans H
  have H' := Qa.mk H; clear H
  have cO := aD.out
  have cZ := aH.out
  obtain ⟨bJ, bK, bL, bM⟩ := zq2 aA.out
  go_wp2_with (first | ((with_reducible refine Qd (f := 25) rfl ?_); refine zD (some 7) Tryz.func25 _ ((Qu.calls k aK aM false _ A6.out).mono ?_); rintro e w16 ⟨rfl, hb⟩; refine ⟨_, rfl, ?_⟩; replace aA := zV aA.out hb; replace aC := zV aC.out hb; replace HB := Qa.mk (Qg (zG2 aG.out aI.out) hb); (try clear hb)))
  go_meet
  case rel => exact ⟨_, (true), zF, H', ⟨by first | omega | exact Nat.le_refl _⟩, ⟨zK aA.out⟩, ⟨zK aC.out⟩, ⟨zG2 aG.out aI.out⟩⟩
 case rest =>
 clear bV
 obtain ⟨kq, aU, rfl, HA, HJ2, aA, aC, HB⟩ := hcut
 cases kq with
 | zero => exact absurd HA.out (by simp [Jw.j0])
 | succ dA =>
 have H := HA.out
 clear HA
 simp only [Jw.j0] at H
 by_cases c17 : aU = true
 ·subst c17
  replace H := (if_pos rfl).symm.trans H
  simp only [Option.some.injEq, Prod.mk.injEq] at H
  obtain ⟨rfl, rfl, rfl⟩ := H
  have dB := aH.out
  have dC := aD.out
  obtain ⟨bN, bO, bP, bQ⟩ := zq2 aC.out
  go_wp2
  refine bodyPost_ret (J7 rfl _ _ aJ 25 #[.int .i64 0, .string (⟨#[]⟩ : ByteArray)] (0, 0) _ rfl (zk0 aC.out) Tryz.underlying25 rfl (by kernel_rfl)) rfl ?_
  exact ⟨zE, zG2 aG.out aI.out⟩
 replace c17 := Bool.eq_false_iff.mpr c17
 subst c17
 replace H := (if_neg zFf).symm.trans H
 obtain ⟨aW, dL, H⟩ := zO H
 obtain ⟨⟨aX, aY⟩, dM, H⟩ := zO H
 replace H : (some (aX, aY, true)) = some (r1, r2, r3) := H
 simp only [Option.some.injEq, Prod.mk.injEq] at H
 obtain ⟨rfl, rfl, rfl⟩ := H
 try go_wp2
 replace aA := Qa.mk (Qk aA.out)
 replace aC := Qa.mk (Qk aC.out)
 replace HB := Qa.mk (Qo HB.out)
 refine Xe (n := 6) (S := fun w' => w'.cell? ⟨aV, 0, none⟩ = some (.int .i64 aK) ∧ w'.cell? ⟨aV, 1, none⟩ = some (.string aM)) (ds := []) #[false, false, false, false, false, false] (by kernel_rfl) rfl rfl ⟨(Qj aA.out 0).trans rfl, (Qj aA.out 1).trans rfl⟩ (fun hHeld => ?_)
 generalize wc.drew = dW at aA aC HB hHeld ⊢
 refine Yk (i := 1) (N := some 18) (v := ?_) (a' := ?_) #[false, true, false, false, false, false] rfl rfl (by kernel_rfl) (fun _ _ _ h => h) (Or.inl ⟨by rfl, ?_⟩) ?_ ?_
 rotate_left
 ·intro w'
  go_simp
  with_reducible rfl
 rotate_left
 ·simp only [Act.put, List.setIfInBounds_toArray, List.set_cons_zero, List.set_cons_succ, Zj, Zl]
  rfl
 refine take_ (i := 0) (N := some 17) (v := ?_) (a' := ?_) #[true, true, false, false, false, false] rfl rfl (by kernel_rfl) (fun _ _ _ h => h) (Or.inl ⟨by rfl, ?_⟩) hHeld ?_ ?_
 rotate_left
 ·rintro w' ⟨s0, s1⟩
  go_simp
  with_reducible rfl
 rotate_left
 ·simp only [Act.put, List.setIfInBounds_toArray, List.set_cons_zero, List.set_cons_succ, Zj, Zl]
  rfl
 refine jMr (i := 2) (N := some 19) #[true, true, true, false, false, false] rfl rfl (by kernel_rfl) (by decide) (fun K hK => ?_)
 refine X0 Tryz.func67 (by kernel_rfl) rfl #[.slice A1 l1.length c1] (by rfl) rfl rfl zM ?_
 with_reducible refine (Ze.calls dA _ _ l1 aW _ ?aN ?aQ dL.out).mono ?_
 (case aN => exact zc (Kd.C_below HR1.out HB.out))
 (case aQ => exact bZ.out)
 rintro e dX ⟨dN, rfl, ho0, hb⟩
 refine ⟨_, rfl, ?_⟩
 have aT := Qa.mk (Kd.R_lower ho0 (Q6 (zG2 aG.out aI.out)))
 replace aA := zV aA.out hb
 replace aC := zV aC.out hb
 replace HB := Qa.mk (Qg (zG2 aG.out aI.out) hb)
 (try clear hb)
 (try clear ho0)
 obtain ⟨bX, bY, bA⟩ := Kd.R_slice aT.out
 (first | subst bA | (injection bA with dD dO dE; have dP := dD.symm; have dQ := dE.symm; clear dD dO dE; subst dP; subst dQ))
 refine hK.out _ _ (zh2 aA.out) (fun hHeld => ?_)
 clear hK K
 refine zN ?_
 refine jMr (i := 3) (N := some 20) #[true, true, true, true, false, false] rfl rfl (by kernel_rfl) (by decide) (fun K hK => ?_)
 refine X0 Tryz.func66 (by kernel_rfl) rfl #[.agg #[.int .i64 aK, .string aM], .slice bX aW.length bY] (by rfl) rfl rfl zM ?_
 with_reducible refine (Ja.calls dA aK aM _ _ aW aX aY _ ?aN ?aQ dM.out).mono ?_
 (case aN => exact zc ((Kd.R_reads' aT.out).2.2))
 (case aQ => exact (Kd.R_reads' aT.out).2.1)
 rintro e dF ⟨rfl, hb⟩
 refine ⟨_, rfl, ?_⟩
 replace aT := zW aT.out hb
 replace aA := zV aA.out hb
 replace aC := zV aC.out hb
 replace HB := Qa.mk (Qg (zG2 aG.out aI.out) hb)
 (try clear hb)
 refine hK.out _ _ (zh2 aA.out) (fun hHeld => ?_)
 clear hK K
 refine zN ?_
 refine jMr (i := 4) (N := none) #[true, true, true, true, true, false] rfl rfl (by kernel_rfl) (by decide) (fun K hK => ?_)
 have dR : dF.cell? ⟨aJ, 0, none⟩ = some (.int .i64 0) := (Qj aC.out 0).trans rfl
 have dG := J8 aC.out 0
 have bR := aD.out
 have bS := aH.out
 have dS : dF.cell? ⟨aJ, 1, none⟩ = some (.string (⟨#[]⟩ : ByteArray)) := (Qj aC.out 1).trans rfl
 have dH := J8 aC.out 1
 have bT := aD.out
 have bU := aH.out
 refine jA2 (w1 := ?_) (by rfl) rfl ?_ ?_
 rotate_left
 ·go_simp
  rfl
 refine hK.out _ _ ⟨((cell_far (p := ⟨aJ, _, none⟩) aD.out _).trans (((cell_far (p := ⟨aJ, _, none⟩) aD.out _).trans (hHeld.1)))), ((cell_far (p := ⟨aJ, _, none⟩) aD.out _).trans (((cell_far (p := ⟨aJ, _, none⟩) aD.out _).trans (hHeld.2))))⟩ (fun hHeld => ?_)
 clear hK K
 refine Yk (i := 5) (N := some 5) (v := ?_) (a' := ?_) #[true, true, true, true, true, true] rfl rfl (by kernel_rfl) (fun _ _ _ h => h) (Or.inl ⟨by rfl, ?_⟩) ?_ ?_
 rotate_left
 ·intro w'
  go_simp
  with_reducible rfl
 rotate_left
 ·simp only [Act.put, List.setIfInBounds_toArray, List.set_cons_zero, List.set_cons_succ, Zj, Zl]
  rfl
 refine Yp (by kernel_rfl) ?_
 try go_wp2
 refine bodyPost_ret (J7 rfl _ _ aJ 25 #[.int .i64 aX, .string aY] (0, 0) _ rfl (zk0 aC.out) Tryz.underlying25 rfl (by kernel_rfl)) rfl ?_
 exact ⟨zE, zG2 aG.out aI.out⟩
def Z4.f (k : Nat) (l0 : List Int) : Option (Int × ByteArray × Int) := (J4.f k l0).bind fun aA => ((Jz.f k aA.1 aA.2.1 aA.2.2).bind fun aC => ((X6.f 1 aC.1).bind fun aH => ((Q5.f aA.1 aC.2.2.1 aC.2.2.2 aH).bind fun aD => ((Zw.f aA.1 aD.2.1 aD.2.2 14).bind fun aG => ((X5.f aG.1).bind fun aI => (some (aC.1, aC.2.1, wrap64 (aD.1 - aI))))))))
def Z4.T3 : Bool × List (List Nat × List Nat) := (true, [([], []), ([], []), ([], []), ([2], [2]), ([3], [3]), ([1, 4, 4], [1, 4]), ([], []), ([6, 5], [6]), ([7, 7], [7]), ([5, 8], [5, 8]), ([0, 8, 0], [0]), ([9, 10, 0, 1, 2, 3, 4, 5, 6, 7, 8, 9, 10], [9])])
def Z4.B3 : List Nat := [0, 0, 0, 4, 12, 30, 0, 126, 254, 510, 511, 2047]
theorem Z4.tab3 : Vv .any (opsOf Tryz.f68 3) = Z4.T3 := by kernel_rfl
theorem Z4.bits3 : Zz Z4.T3.2 Z4.B3 = true := by kernel_rfl
theorem jL9 {p q p0 : Prop} (g : p) (g0 : p0) (h : p → p0 → q := by intro zg_ aA; repeat (first | (with_reducible first | exact zg_ | apply Qv | apply Qr | apply Qo | refine Qf ?_ aA) | exact zg_)) : q := h g g0
theorem jFa {p q p0 : Prop} (g : p) (g0 : p0) (h : p → p0 → q := by intro zg_ aA; repeat (first | (with_reducible first | exact zg_ | apply Qc.alloc | apply Qc.drewN | apply Qc.drew | apply Qc.set_1 | apply Qc.set_2 | refine Qc.far ?_ aA _) | exact zg_)) : q := h g g0
theorem jL3 {p q p0 p1 : Prop} (g : p) (g0 : p0) (g1 : p1) (h : p → p0 → p1 → q := by intro zg_ aA aC; repeat (first | (with_reducible first | exact zg_ | apply Qv | apply Qr | apply Qo | refine Qf ?_ aA | refine Qf ?_ aC) | exact zg_)) : q := h g g0 g1
theorem jF8 {p q p0 p1 : Prop} (g : p) (g0 : p0) (g1 : p1) (h : p → p0 → p1 → q := by intro zg_ aA aC; repeat (first | (with_reducible first | exact zg_ | apply Qc.alloc | apply Qc.drewN | apply Qc.drew | apply Qc.set_1 | apply Qc.set_2 | refine Qc.far ?_ aA _ | refine Qc.far ?_ aC _) | exact zg_)) : q := h g g0 g1
theorem jJp {p q p0 p1 p2 : Prop} (g : p) (g0 : p0) (g1 : p1) (g2 : p2) (h : p → p0 → p1 → p2 → q := by intro zg_ aA aC aD; repeat (first | (with_reducible first | exact zg_ | apply Qv | apply Qr | apply Qo | refine Qf ?_ aA | refine Qf ?_ aC | refine Qf ?_ aD) | exact zg_)) : q := h g g0 g1 g2
set_option maxHeartbeats 8000000 in
set_option maxRecDepth 100000 in
theorem Z4.calls (k : Nat) (A0 : Option Addr) (c0 : Nat) (l0 : List Int) (r1 : Int) (r2 : ByteArray) (r3 : Int) (w : World) (hr0 : Kd.C (Kd.int .u8) w A0 l0.length l0) (hc0 : l0.length ≤ c0) (h : Z4.f k l0 = some (r1, r2, r3)) :
  Calls Tryz.prog 68 #[.slice A0 l0.length c0] w fun e w' => e = .returned (.tuple #[.agg #[.int .i64 r1, .string r2], .int .i64 r3]) ∧ Below w.heap.size w w' := by
 have dM := Tryz.underlying25
 have dN := Qa.mk hr0
 have dO := Qa.mk hc0
 clear hr0 hc0
 have HB := Qa.mk (Below.refl w.heap.size w)
 have H := h
 unfold Z4.f at H
 clear h
 obtain ⟨⟨aZ, bJ, bK⟩, A2, H⟩ := zO H
 dsimp only at H
 obtain ⟨⟨aU, aY, bB, bC⟩, A3, H⟩ := zO H
 dsimp only at H
 obtain ⟨bD, A4, H⟩ := zO H
 obtain ⟨⟨bX, bL, bM⟩, A5, H⟩ := zO H
 dsimp only at H
 obtain ⟨⟨bE, bY, bZ⟩, A6, H⟩ := zO H
 dsimp only at H
 obtain ⟨cB, A7, H⟩ := zO H
 simp only [Option.some.injEq, Prod.mk.injEq] at H
 obtain ⟨rfl, rfl, rfl⟩ := H
 go_enter Tryz.func68, Tryz.ntmps68
 try go_wp2_with (first | ((with_reducible refine Qm (N := 2) rfl ?_); refine zBx (N := 2) #[.int .i64 0, .string (⟨#[]⟩ : ByteArray)] 25 ?_; intro aK hg w8 hbox hb; have aA := Qa.mk (hbox); have cK := zS hg; have aN := zS hg; replace HB := zX hb; clear hb hbox hg) | ((with_reducible refine Qd (f := 49) rfl ?_); refine zD (some 7) Tryz.func49 #[.slice A0 l0.length c0] ((J4.calls k _ _ l0 aZ bJ bK w _ ?aV ?aW ?bN A2.out).mono ?_); (case aV => exact (jL9 HB.out aN.out)); (case aW => exact dN.out); (case bN => exact dO.out); rintro e w9 ⟨aX, rfl, hi, hb, hb2⟩; refine ⟨_, rfl, ?_⟩; have aC := Qa.mk (hi); have aD := Qa.mk (Qc.ne_blk hi (Qh (g := aK) (o := .cells #[.int .i64 0, .string (⟨#[]⟩ : ByteArray)] 25 (0, 0)) (zK aA.out) hb2) (by decide)); have aQ := Qa.mk (Ne.symm (Qc.ne_blk hi (Qh (g := aK) (o := .cells #[.int .i64 0, .string (⟨#[]⟩ : ByteArray)] 25 (0, 0)) (zK aA.out) hb2) (by decide))); replace aA := Qa.mk (Qh (g := aK) (o := .cells #[.int .i64 0, .string (⟨#[]⟩ : ByteArray)] 25 (0, 0)) (zK aA.out) hb2); replace HB := Qa.mk (hb); (try clear hb); (try clear hb2); (try clear hi)) | ((with_reducible refine Qd (f := 50) rfl ?_); refine zD (some 9) Tryz.func50 _ ((Jz.calls k aX aZ bJ bK aU aY bB bC w _ ?aV ?aW A3.out).mono ?_); (case aV => exact (jFa aC.out aD.out)); (case aW => exact (jL3 HB.out (Qc.ge aC.out) aN.out)); rintro e dS ⟨rfl, hi, hb, hk⟩; refine ⟨_, rfl, ?_⟩; replace aA := zKB hk aA.out aQ.out; replace aC := Qa.mk (hi); replace HB := Qa.mk (hb); (try clear hb); (try clear hk); (try clear hi)) | ((with_reducible refine Qm (N := 5) rfl ?_); refine zBx (N := 5) #[.int .i64 0, .string (⟨#[]⟩ : ByteArray)] 25 ?_; intro aI hg bO hbox hb; have bF := zV aA.out hb; have bG := Qa.mk (Qc.below (jFa aC.out aD.out) hb); have bH := Qa.mk (Qg (zG2 (Qc.ge aC.out) aN.out) hb); have bI := Qa.mk (hbox); have cO := zSg hg (zG2 (Qc.ge aC.out) aN.out); have cZ := zSg hg (zG2 (Qc.ge aC.out) aN.out); have dA := zL hg aA.out; have dB := zLg hg aA.out; have dC := Qa.mk ((by rw [hg]; exact Nat.ne_of_lt (Qc.lt (show Qc w _ aX aZ bB bC from (jFa aC.out aD.out))) : aX ≠ aI)); have dD := Qa.mk ((by rw [hg]; exact Nat.ne_of_gt (Qc.lt (show Qc w _ aX aZ bB bC from (jFa aC.out aD.out))) : aI ≠ aX)); clear aA; clear aC; clear HB; have aA := bF; have aC := bG; have HB := bH; have aH := bI; have dE := cO; have bA := cZ; have aJ := dA; have aG := dB; have aM := dC; have aT := dD; clear bF bG bH bI cO cZ dA dB dC dD; clear hb hbox hg; have dF := aG.out; have dG := aJ.out; have dH := aT.out; have dI := aM.out; obtain ⟨bP, bQ, bR, bS⟩ := zq2 aH.out))
 have bF : Qa (((bO.setCell ⟨aI, 0, none⟩ (.int .i64 aU)).setCell ⟨aI, 1, none⟩ (.string aY)).heap[aK]? = some (.cells #[.int .i64 0, .string (⟨#[]⟩ : ByteArray)] 25 (0, 0))) := ⟨zk2 aA.out aJ.out aJ.out⟩
 have bG : Qa (((bO.setCell ⟨aI, 0, none⟩ (.int .i64 aU)).setCell ⟨aI, 1, none⟩ (.string aY)).heap[aI]? = some (.cells #[.int .i64 aU, .string aY] 25 (0, 0))) := ⟨zk0 aH.out⟩
 have bH : Qa (Qc w ((bO.setCell ⟨aI, 0, none⟩ (.int .i64 aU)).setCell ⟨aI, 1, none⟩ (.string aY)) aX aZ bB bC) := ⟨(jF8 aC.out aD.out aM.out)⟩
 have bI : Qa (Below w.heap.size w ((bO.setCell ⟨aI, 0, none⟩ (.int .i64 aU)).setCell ⟨aI, 1, none⟩ (.string aY))) := ⟨zG3 (Qc.ge aC.out) aN.out bA.out⟩
 (try clear aA)
 (try clear aH)
 (try clear aC)
 (try clear HB)
 generalize ((bO.setCell ⟨aI, 0, none⟩ (.int .i64 aU)).setCell ⟨aI, 1, none⟩ (.string aY)) = dP at bF bG bH bI ⊢
 have aA := bF
 have aH := bG
 have aC := bH
 have HB := bI
 clear bF bG bH bI
 replace aA := Qa.mk (Qk aA.out)
 replace aH := Qa.mk (Qk aH.out)
 replace aC := Qa.mk (Qc.drew aC.out)
 replace HB := Qa.mk (Qo HB.out)
 refine Xe (n := 12) (S := fun w' => w'.cell? ⟨aI, 0, none⟩ = some (.int .i64 aU) ∧ w'.cell? ⟨aI, 1, none⟩ = some (.string aY)) (ds := []) #[false, false, false, false, false, false, false, false, false, false, false, false] (by kernel_rfl) rfl rfl ⟨(Qj aH.out 0).trans rfl, (Qj aH.out 1).trans rfl⟩ (fun hHeld => ?_); refine J6 Z4.tab3 Z4.bits3 (fun HT_ HW_ => ?_)
 generalize dP.drew = w16 at aA aH aC HB hHeld ⊢
 refine zP 1 (some 11) rfl rfl ?_
 refine zP 2 (some 12) rfl rfl ?_
 refine zP 6 (some 16) rfl rfl ?_
 refine zY2 0 (some 10) rfl rfl hHeld ?_
 refine zY2 3 (some 13) rfl rfl hHeld ?_
 refine zU 4 (some 14) rfl rfl (fun K hK => ?_)
 refine X0 Tryz.func104 (by kernel_rfl) rfl #[.int .i64 1, .int .i64 aU] (by rfl) rfl rfl zM ?_
 with_reducible refine (X6.calls 1 aU bD _ A4.out).mono ?_
 rintro e w' ⟨rfl, ⟨nd, rfl⟩⟩
 refine ⟨_, rfl, ?_⟩
 refine hK.out _ _ (zh2 aH.out) (fun hHeld => ?_)
 clear hK K
 refine zN ?_
 refine zU 5 (some 15) rfl rfl (fun K hK => ?_)
 refine X0 Tryz.func51 (by kernel_rfl) rfl #[.pointer (some ⟨aX, 0, none⟩), .int .i64 bD] (by rfl) rfl rfl zM ?_
 with_reducible refine (Q5.calls aX aZ bB bC bD bX bL bM w _ ?aV ?aW A5.out).mono ?_
 (case aV => exact (jF8 aC.out aD.out aM.out))
 (case aW => exact (jJp HB.out (Qc.ge aC.out) aN.out bA.out))
 rintro e dU ⟨rfl, hi, hb, hk⟩
 refine ⟨_, rfl, ?_⟩
 replace aA := zKB hk aA.out aQ.out
 replace aH := zKB hk aH.out aT.out
 replace aC := Qa.mk (hi)
 replace HB := Qa.mk (hb)
 (try clear hb)
 (try clear hk)
 (try clear hi)
 refine hK.out _ _ (zh2 aH.out) (fun hHeld => ?_)
 clear hK K
 refine zN ?_
 refine zU 7 (some 17) rfl rfl (fun K hK => ?_)
 refine X0 Tryz.func53 (by kernel_rfl) rfl #[.pointer (some ⟨aX, 0, none⟩), .int .i64 14] (by rfl) rfl rfl zM ?_
 with_reducible refine (Zw.calls aX aZ bL bM 14 bE bY bZ w _ ?aV ?aW A6.out).mono ?_
 (case aV => exact (jF8 aC.out aD.out aM.out))
 (case aW => exact (jJp HB.out (Qc.ge aC.out) aN.out bA.out))
 rintro e dJ ⟨rfl, hi, hb, hk⟩
 refine ⟨_, rfl, ?_⟩
 replace aA := zKB hk aA.out aQ.out
 replace aH := zKB hk aH.out aT.out
 replace aC := Qa.mk (hi)
 replace HB := Qa.mk (hb)
 (try clear hb)
 (try clear hk)
 (try clear hi)
 refine hK.out _ _ (zh2 aH.out) (fun hHeld => ?_)
 clear hK K
 refine zN ?_
 refine zU 8 (some 18) rfl rfl (fun K hK => ?_)
 refine X0 Tryz.func52 (by kernel_rfl) rfl #[.bool bE] (by rfl) rfl rfl zM ?_
 with_reducible refine (X5.calls bE cB _ A7.out).mono ?_
 rintro e w' ⟨rfl, ⟨nd, rfl⟩⟩
 refine ⟨_, rfl, ?_⟩
 refine hK.out _ _ (zh2 aH.out) (fun hHeld => ?_)
 clear hK K
 refine zN ?_
 refine zP 9 (some 19) rfl rfl ?_
 refine zU 10 none rfl rfl (fun K hK => ?_)
 have dQ : dJ.cell? ⟨aK, 0, none⟩ = some (.int .i64 0) := (Qj aA.out 0).trans rfl
 have dK := J8 aA.out 0
 have bT := aG.out
 have bU := aJ.out
 have dR : dJ.cell? ⟨aK, 1, none⟩ = some (.string (⟨#[]⟩ : ByteArray)) := (Qj aA.out 1).trans rfl
 have dL := J8 aA.out 1
 have bV := aG.out
 have bW := aJ.out
 refine jA2 (w1 := ?_) (by rfl) rfl ?_ ?_
 rotate_left
 ·go_simp
  rfl
 refine hK.out _ _ ⟨((cell_far (p := ⟨aK, _, none⟩) aG.out _).trans (((cell_far (p := ⟨aK, _, none⟩) aG.out _).trans (hHeld.1)))), ((cell_far (p := ⟨aK, _, none⟩) aG.out _).trans (((cell_far (p := ⟨aK, _, none⟩) aG.out _).trans (hHeld.2))))⟩ (fun hHeld => ?_)
 clear hK K
 refine zP 11 (some 3) rfl rfl ?_
 refine Yp (Zu HT_.out (by kernel_rfl)) ?_
 try go_wp2
 refine bodyPost_ret (J7 rfl _ _ aK 25 #[.int .i64 aU, .string aY] (0, 0) _ rfl (zk0 aA.out) Tryz.underlying25 rfl (by kernel_rfl)) rfl ?_
 exact ⟨zE, zG3 (Qc.ge aC.out) aN.out bA.out⟩
def Zi.f (k : Nat) (l0 : List Int) : Option (Int × ByteArray × Int) := (Z4.f k l0).bind fun aA => (some (aA.1, aA.2.1, aA.2.2))
set_option maxHeartbeats 8000000 in
set_option maxRecDepth 100000 in
theorem Zi.calls (k : Nat) (A0 : Option Addr) (c0 : Nat) (l0 : List Int) (r1 : Int) (r2 : ByteArray) (r3 : Int) (w : World) (hr0 : Kd.C (Kd.int .u8) w A0 l0.length l0) (hc0 : l0.length ≤ c0) (h : Zi.f k l0 = some (r1, r2, r3)) :
  Calls Tryz.prog 16 #[.slice A0 l0.length c0] w fun e w' => e = .returned (.tuple #[.agg #[.int .i64 r1, .string r2], .int .i64 r3]) ∧ Below w.heap.size w w' := by
 have bF := Tryz.underlying25
 have bG := Qa.mk hr0
 have bH := Qa.mk hc0
 clear hr0 hc0
 have HB := Qa.mk (Below.refl w.heap.size w)
 have H := h
 unfold Zi.f at H
 clear h
 obtain ⟨⟨aH, aI, aJ⟩, A2, H⟩ := zO H
 replace H : (some (aH, aI, aJ)) = some (r1, r2, r3) := H
 simp only [Option.some.injEq, Prod.mk.injEq] at H
 obtain ⟨rfl, rfl, rfl⟩ := H
 go_enter Tryz.func16, Tryz.ntmps16
 go_wp2_with (first | ((with_reducible refine Qm (N := 2) rfl ?_); refine zBx (N := 2) #[.int .i64 0, .string (⟨#[]⟩ : ByteArray)] 25 ?_; intro aK hg w3 hbox hb; have aC := Qa.mk (hbox); have bC := zS hg; have aD := zS hg; replace HB := zX hb; clear hb hbox hg) | ((with_reducible refine Qd (f := 68) rfl ?_); refine zD (some 8) Tryz.func68 #[.slice A0 l0.length c0] ((Z4.calls k _ _ l0 aH aI aJ _ ?aM ?aN A2.out).mono ?_); (case aM => exact zc (Kd.C_below bG.out HB.out)); (case aN => exact bH.out); rintro e w4 ⟨rfl, hb⟩; refine ⟨_, rfl, ?_⟩; replace aC := zV aC.out hb; replace HB := zX1 aD.out hb; (try clear hb)) | ((with_reducible refine Qm (N := 4) rfl ?_); refine zBx (N := 4) #[.int .i64 0, .string (⟨#[]⟩ : ByteArray)] 25 ?_; intro bD hg w5 hbox hb; have aQ := Qa.mk (hbox); have bE := zSg hg (zG aD.out); have aT := zSg hg (zG aD.out); have aA := zL hg aC.out; have aG := zLg hg aC.out; replace aC := zV aC.out hb; replace HB := zX1 aD.out hb; clear hb hbox hg; have bI := aG.out; have bJ := aA.out; obtain ⟨aU, aV, aW, aX⟩ := zq2 aQ.out; obtain ⟨aY, aZ, bA, bB⟩ := zq2 aC.out))
 refine bodyPost_ret (J7 rfl _ _ aK 25 #[.int .i64 aH, .string aI] (0, 0) _ rfl (zk2 aC.out aA.out aA.out) Tryz.underlying25 rfl (by kernel_rfl)) rfl ?_
 exact ⟨zE, zG2 aD.out aT.out⟩
mutual
def Qs.j0 : Nat → Int → Bool → Int → ByteArray → Option (Int × ByteArray × Bool)
 | 0, _, _, _, _ => none
 | k + 1, x1, aG, aA, aC => if aG = true then (some (0, (⟨#[]⟩ : ByteArray), false)) else ((Qn.f k aA).bind fun aD => (Qs.l0 k x1 aD (aD.length : Int) 0 aA aC (wrap64 (aA - 1)) (⟨#[]⟩ : ByteArray)))
def Qs.l0 : Nat → Int → List (S77) → Int → Int → Int → ByteArray → Int → ByteArray → Option (Int × ByteArray × Bool)
 | 0, _, _, _, _, _, _, _, _ => none
 | k + 1, x1, x31, x32, aH, aG, aA, aD, aC => if aH < x32 then (if 0 ≤ aH then (if aH < (x31.length : Int) then (if ((Qb x31 aH).f0) = x1 then (Qs.l0 k x1 x31 x32 (wrap64 (aH + 1)) aG aA aD aC) else (if ((Qb x31 aH).f1) = x1 then (Qs.l0 k x1 x31 x32 (wrap64 (aH + 1)) aG aA aD aC) else (if ((Qb x31 aH).f2) = x1 then (Qs.l0 k x1 x31 x32 (wrap64 (aH + 1)) aG aA aD aC) else (if aH ≤ (wrap64 (aH + 1)) then (if (wrap64 (aH + 1)) ≤ (aA.size : Int) then (if aC.size + ((wrap64 (aH + 1)).toNat - aH.toNat) ≤ 9223372036854775807 then (Qs.l0 k x1 x31 x32 (wrap64 (aH + 1)) aG aA aD (aC ++ (aA.extract (aH : Int).toNat ((wrap64 (aH + 1)) : Int).toNat))) else (none)) else (none)) else (none))))) else (none)) else (none)) else (some (aD, aC, true))
end
def Qs.f (k : Nat) (aA : Int) (aC : ByteArray) (a1 : Int) : Option (Int × ByteArray × Bool) := (Qw.f k aA aC).bind fun aD => (if aD = true then (if aA = 3 then (Qs.j0 k a1 true aA aC) else ((Zt.f aA a1).bind fun aG => (Qs.j0 k a1 (!aG) aA aC))) else (Qs.j0 k a1 true aA aC))
def Qs.T8 : Bool × List (List Nat × List Nat) := (true, [([], []), ([0], [0]), ([], []), ([2], [2]), ([], []), ([], []), ([5], [5]), ([3, 4, 6], [3, 4, 6]), ([1, 7], [1, 7]), ([0, 1, 2, 3, 4, 5, 6, 7, 8], []), ([9, 8, 0, 1, 2, 3, 4, 5, 6, 7, 8], [8, 9])])
def Qs.B8 : List Nat := [0, 1, 0, 4, 0, 0, 32, 124, 255, 511, 1023]
theorem Qs.tab8 : Vv .any (opsOf Tryz.f17 8) = Qs.T8 := by kernel_rfl
theorem Qs.bits8 : Zz Qs.T8.2 Qs.B8 = true := by kernel_rfl
set_option maxHeartbeats 8000000 in
set_option maxRecDepth 100000 in
theorem Qs.calls (k : Nat) (bD : Int) (bF : ByteArray) (a1 : Int) (r1 : Int) (r2 : ByteArray) (r3 : Bool) (w : World) (h : Qs.f k bD bF a1 = some (r1, r2, r3)) :
  Calls Tryz.prog 17 #[.agg #[.int .i64 bD, .string bF], .int .i64 a1] w fun e w' => e = .returned (.tuple #[.agg #[.int .i64 r1, .string r2], .bool r3]) ∧ Below w.heap.size w w' := by
 have kX := Tryz.underlying25
 have kY := Tryz.underlying77
 have HB := Qa.mk (Below.refl w.heap.size w)
 have H := h
 unfold Qs.f at H
 clear h
 have iC := Qa.mk H
 clear H
 go_enter Tryz.func17, Tryz.ntmps17
 go_upto_region 1 with (first | ((with_reducible refine Qm (N := 2) rfl ?_); refine zBx (N := 2) #[.int .i64 bD, .string bF] 25 ?_; intro bM hg w4 hbox hb; have aC := Qa.mk (hbox); have iO := zS hg; have aM := zS hg; replace HB := zX hb; clear hb hbox hg) | ((with_reducible refine Qm (N := 4) rfl ?_); refine zBx (N := 4) #[.int .i64 0, .string (⟨#[]⟩ : ByteArray)] 25 ?_; intro bN hg w5 hbox hb; have aD := Qa.mk (hbox); have iP := zSg hg (zG aM.out); have aQ := zSg hg (zG aM.out); have aZ := zL hg aC.out; have bA := zLg hg aC.out; replace aC := zV aC.out hb; replace HB := zX1 aM.out hb; clear hb hbox hg))
 (try simp only [Act.put, List.setIfInBounds_toArray, List.set_cons_zero, List.set_cons_succ])
 go_cut [23] (fun v23 wc => ∃ (kq : Nat) (bS : Bool), v23 = .bool bS ∧ Qa (Qs.j0 kq a1 bS bD bF = some (r1, r2, r3)) ∧ Qa (kq ≤ k) ∧ Qa (wc.heap[bM]? = some (.cells #[.int .i64 bD, .string bF] 25 (0, 0))) ∧ Qa (wc.heap[bN]? = some (.cells #[.int .i64 0, .string (⟨#[]⟩ : ByteArray)] 25 (0, 0))) ∧ Qa (Below w.heap.size w wc))
 case first =>
  have H := iC.out
  clear iC
  obtain ⟨iD, A6, H⟩ := zO H
  by_cases c7 : iD = true
  ·subst c7
   replace H := (if_pos rfl).symm.trans H
   replace H := Zc H
   rcases H with ⟨bU, iE, H⟩ | ⟨c8, bU, iE, H⟩
   ·(first | rw [bU] | (simp only [Zj, Zl]; rw [bU]) | skip)
    have H' := Qa.mk H; clear H
    have kZ := aZ.out
    have lC := bA.out
    obtain ⟨dQ, dR, dS, dU⟩ := zq2 aC.out
    go_wp2_with (first | ((with_reducible refine Qd (f := 24) rfl ?_); refine zD (some 10) Tryz.func24 _ ((Qw.calls k bD bF true _ A6.out).mono ?_); rintro e lM ⟨rfl, hb⟩; refine ⟨_, rfl, ?_⟩; replace aC := zV aC.out hb; replace aD := zV aD.out hb; replace HB := Qa.mk (Qg (zG2 aM.out aQ.out) hb); (try clear hb); obtain ⟨dV, dW, dX, dY⟩ := zq2 aC.out))
    go_meet
    case rel => exact ⟨_, (true), zF, H', ⟨by first | omega | exact Nat.le_refl _⟩, ⟨zK aC.out⟩, ⟨zK aD.out⟩, ⟨zG2 aM.out aQ.out⟩⟩
   (first | rw [bU] | (simp only [Zj, Zl]; rw [bU]) | skip)
   obtain ⟨dH, lD, H⟩ := zO H
   have H' := Qa.mk H; clear H
   have iQ := aZ.out
   have iR := bA.out
   obtain ⟨dZ, eB, eD, eF⟩ := zq2 aC.out
   go_wp2_with (first | ((with_reducible refine Qd (f := 24) rfl ?_); refine zD (some 10) Tryz.func24 _ ((Qw.calls k bD bF true _ A6.out).mono ?_); rintro e w16 ⟨rfl, hb⟩; refine ⟨_, rfl, ?_⟩; replace aC := zV aC.out hb; replace aD := zV aD.out hb; replace HB := Qa.mk (Qg (zG2 aM.out aQ.out) hb); (try clear hb); obtain ⟨eG, eH, eO, eP⟩ := zq2 aC.out) | (go_at_call 69; (with_reducible refine (Zt.calls bD a1 dH _ lD.out).mono ?_); rintro e w' ⟨rfl, ⟨nd, rfl⟩⟩))
   go_meet
   case rel => exact ⟨_, (!dH), zF, H', ⟨by first | omega | exact Nat.le_refl _⟩, ⟨zK aC.out⟩, ⟨zK aD.out⟩, ⟨zG2 aM.out aQ.out⟩⟩
  replace c7 := Bool.eq_false_iff.mpr c7
  subst c7
  replace H := (if_neg zFf).symm.trans H
  have H' := Qa.mk H; clear H
  have iT := aZ.out
  have iU := bA.out
  obtain ⟨eQ, eU, eX, eY⟩ := zq2 aC.out
  go_wp2_with (first | ((with_reducible refine Qd (f := 24) rfl ?_); refine zD (some 10) Tryz.func24 _ ((Qw.calls k bD bF false _ A6.out).mono ?_); rintro e lN ⟨rfl, hb⟩; refine ⟨_, rfl, ?_⟩; replace aC := zV aC.out hb; replace aD := zV aD.out hb; replace HB := Qa.mk (Qg (zG2 aM.out aQ.out) hb); (try clear hb)))
  go_meet
  case rel => exact ⟨_, (true), zF, H', ⟨by first | omega | exact Nat.le_refl _⟩, ⟨zK aC.out⟩, ⟨zK aD.out⟩, ⟨zG2 aM.out aQ.out⟩⟩
 case rest =>
 clear iC
 obtain ⟨kq, bS, rfl, HA, HJ2, aC, aD, HB⟩ := hcut
 cases kq with
 | zero => exact absurd HA.out (by simp [Qs.j0])
 | succ iF =>
 have H := HA.out
 clear HA
 simp only [Qs.j0] at H
 by_cases c21 : bS = true
 ·subst c21
  replace H := (if_pos rfl).symm.trans H
  simp only [Option.some.injEq, Prod.mk.injEq] at H
  obtain ⟨rfl, rfl, rfl⟩ := H
  have iV := bA.out
  have iW := aZ.out
  obtain ⟨eZ, fA, fB, fC⟩ := zq2 aD.out
  go_wp2
  refine bodyPost_ret (J7 rfl _ _ bN 25 #[.int .i64 0, .string (⟨#[]⟩ : ByteArray)] (0, 0) _ rfl (zk0 aD.out) Tryz.underlying25 rfl (by kernel_rfl)) rfl ?_
  exact ⟨zE, zG2 aM.out aQ.out⟩
 replace c21 := Bool.eq_false_iff.mpr c21
 subst c21
 replace H := (if_neg zFf).symm.trans H
 obtain ⟨aT, lF, H⟩ := zO H
 have H' := Qa.mk H; clear H
 have iX := aZ.out
 have iY := bA.out
 obtain ⟨bW, bX, bY, bZ⟩ := zq2 aC.out
 go_wp2_with (first | ((with_reducible refine Qm (N := 6) rfl ?_); refine zBx (N := 6) #[.int .i64 0, .string (⟨#[]⟩ : ByteArray)] 25 ?_; intro bL hg lQ hbox hb; have aK := Qa.mk (hbox); have iZ := zSg hg (zG2 aM.out aQ.out); have aV := zSg hg (zG2 aM.out aQ.out); have bB := zL hg aC.out; have bI := zLg hg aC.out; replace aC := zV aC.out hb; have bC := zL hg aD.out; have bJ := zLg hg aD.out; replace aD := zV aD.out hb; replace HB := Qa.mk (Qg (zG2 aM.out aQ.out) hb); clear hb hbox hg; have jA := bI.out; have jB := bB.out; have jC := bJ.out; have jD := bC.out; obtain ⟨cB, cK, cO, cZ⟩ := zq2 aK.out; obtain ⟨dA, dB, dC, dD⟩ := zq2 aC.out) | ((with_reducible refine Qd (f := 55) rfl ?_); refine zD (some 31) Tryz.func55 _ ((Qn.calls iF bD aT _ lF.out).mono ?_); rintro e w32 ⟨lG, rfl, ho0, hb⟩; refine ⟨_, rfl, ?_⟩; have dE := Qa.mk (Kd.R_lower ho0 (Q6 (zG3 aM.out aQ.out aV.out))); replace aC := Qa.mk (Qh (g := bM) (o := .cells #[.int .i64 bD, .string bF] 25 (0, 0)) (zk2 aC.out bB.out bB.out) hb); replace aD := Qa.mk (Qh (g := bN) (o := .cells #[.int .i64 0, .string (⟨#[]⟩ : ByteArray)] 25 (0, 0)) (zk2 aD.out bC.out bC.out) hb); replace aK := Qa.mk (Qh (g := bL) (o := .cells #[.int .i64 (wrap64 (bD - 1)), .string (⟨#[]⟩ : ByteArray)] 25 (0, 0)) (zk0 aK.out) hb); replace HB := Qa.mk (Qg (zG3 aM.out aQ.out aV.out) hb); (try clear hb); (try clear ho0); obtain ⟨iG, dI, iH⟩ := Kd.R_slice dE.out; subst iH))
 go_loopg [33] iF (fun kq v33 w' => ∃ (aA : Int) (aN : ByteArray), v33 = .int .i64 aA ∧ Qa (Qs.l0 kq a1 aT (aT.length : Int) aA bD bF (wrap64 (bD - 1)) aN = some (r1, r2, r3)) ∧ Qa (kq ≤ iF) ∧ Qa (Kd.R k77 77 w' w.heap.size (fun _ => True) (.slice iG aT.length dI) aT) ∧ Qa (w'.heap[bM]? = some (.cells #[.int .i64 bD, .string bF] 25 (0, 0))) ∧ Qa (w'.heap[bN]? = some (.cells #[.int .i64 0, .string (⟨#[]⟩ : ByteArray)] 25 (0, 0))) ∧ Qa (w'.heap[bL]? = some (.cells #[.int .i64 (wrap64 (bD - 1)), .string aN] 25 (0, 0))) ∧ Qa (Below w.heap.size w w'))
 case atStart => exact ⟨(0), ((⟨#[]⟩ : ByteArray)), zF, H', ⟨Nat.le_refl _⟩, ⟨zR dE.out⟩, ⟨zK aC.out⟩, ⟨zK aD.out⟩, ⟨zK aK.out⟩, ⟨zG3 aM.out aQ.out aV.out⟩⟩
 case round =>
 clear H'
 try clear c21
 try clear bW
 try clear bX
 try clear cB
 try clear cK
 try clear dA
 try clear dB
 try clear bY
 try clear bZ
 try clear cO
 try clear cZ
 try clear dC
 try clear dD
 obtain ⟨aA, aN, rfl, HA, dF, aU, aC, aD, aK, HB⟩ := hrel
 cases gk with
 | zero => exact absurd HA.out (by simp [Qs.l0])
 | succ k2 =>
 have H := HA.out
 clear HA
 simp only [Qs.l0] at H
 replace H := Xr H
 rcases H with ⟨dJ, H⟩ | ⟨dJ, H⟩
 ·replace H := J5 H
  rcases H with ⟨jE, H⟩ | ⟨lS, H⟩
  ·replace H := J5 H
   rcases H with ⟨jF, H⟩ | ⟨lU, H⟩
   ·replace H := Zc H
    rcases H with ⟨dK, dL, H⟩ | ⟨c37, dK, dL, H⟩
    ·have H' := Qa.mk H; clear H
     have bG : 0 ≤ (aA : Int) := zA
     have bH : aA < (aT.length : Int) := zA
     obtain ⟨bT, bR, bO, bP, bQ⟩ := Ky (Kd.R_reads' aU.out).2.2 aA bG bH
     cases bR
     replace bG := eq_true bG
     replace bH := eq_true bH
     go_wp2_with (first | ((with_reducible refine Qm (N := 8) rfl ?_); refine zBx (N := 8) #[.int .i64 0, .int .i64 0, .int .i64 0] 77 ?_; intro aH hg lV hbox hb; replace aU := Qa.mk (Kd.R_below (Kd.R_elderB (zR aU.out) aH (Nat.le_of_eq hg.symm)) hb); have bE := Qa.mk (hbox); have bV := zSg hg (zG3 aM.out aQ.out aV.out); have bK := zSg hg (zG3 aM.out aQ.out aV.out); have aI := zL hg aC.out; have aX := zLg hg aC.out; replace aC := zV aC.out hb; have aJ := zL hg aD.out; have aY := zLg hg aD.out; replace aD := zV aD.out hb; have aG := zL hg aK.out; have aW := zLg hg aK.out; replace aK := zV aK.out hb; replace HB := Qa.mk (Qg (zG3 aM.out aQ.out aV.out) hb); clear hb hbox hg; have jG := aX.out; have jH := aI.out; have jI := aY.out; have jJ := aJ.out; have jK := aW.out; have jL := aG.out; obtain ⟨fD, fE, fF, fG, fH, fI⟩ := zq3 bE.out))
     go_roundg k2
     case measure => have := HJ2.out; have := dF.out; omega
     case rel => exact ⟨(wrap64 (aA + 1)), (aN), zF, H', ⟨by have := HJ2.out; have := dF.out; omega⟩, ⟨by (with_reducible repeat (first | apply Kd.R_alloc | apply Kd.R_drewN | apply Kd.R_drew)); exact Kd.R_mono (Kd.R_far (p := ⟨aH, 2, none⟩) (Kd.R_far (p := ⟨aH, 1, none⟩) (Kd.R_far (p := ⟨aH, 0, none⟩) (Kd.R_mono aU.out (fun k_ hk => (⟨hk, hk.2⟩ : _ ∧ k_ ≠ aH))) (fun _ hk => hk.2) (.int .i64 ((Qb aT aA).f0))) (fun _ hk => hk.2) (.int .i64 ((Qb aT aA).f1))) (fun _ hk => hk.2) (.int .i64 ((Qb aT aA).f2))) (fun _ hk => trivial)⟩, ⟨zk3 aC.out aI.out aI.out aI.out⟩, ⟨zk3 aD.out aJ.out aJ.out aJ.out⟩, ⟨zk3 aK.out aG.out aG.out aG.out⟩, ⟨zG4 aM.out aQ.out aV.out bK.out⟩⟩
    replace H := Zc H
    rcases H with ⟨dM, dN, H⟩ | ⟨lW, dM, dN, H⟩
    ·have H' := Qa.mk H; clear H
     have bG : 0 ≤ (aA : Int) := zA
     have bH : aA < (aT.length : Int) := zA
     obtain ⟨bT, bR, bO, bP, bQ⟩ := Ky (Kd.R_reads' aU.out).2.2 aA bG bH
     cases bR
     replace bG := eq_true bG
     replace bH := eq_true bH
     go_wp2_with (first | ((with_reducible refine Qm (N := 8) rfl ?_); refine zBx (N := 8) #[.int .i64 0, .int .i64 0, .int .i64 0] 77 ?_; intro aH hg lX hbox hb; replace aU := Qa.mk (Kd.R_below (Kd.R_elderB (zR aU.out) aH (Nat.le_of_eq hg.symm)) hb); have bE := Qa.mk (hbox); have bV := zSg hg (zG3 aM.out aQ.out aV.out); have bK := zSg hg (zG3 aM.out aQ.out aV.out); have aI := zL hg aC.out; have aX := zLg hg aC.out; replace aC := zV aC.out hb; have aJ := zL hg aD.out; have aY := zLg hg aD.out; replace aD := zV aD.out hb; have aG := zL hg aK.out; have aW := zLg hg aK.out; replace aK := zV aK.out hb; replace HB := Qa.mk (Qg (zG3 aM.out aQ.out aV.out) hb); clear hb hbox hg; have jM := aX.out; have jN := aI.out; have jO := aY.out; have jP := aJ.out; have jQ := aW.out; have jR := aG.out; obtain ⟨fJ, fK, fM, fO, fP, fQ⟩ := zq3 bE.out))
     go_roundg k2
     case measure => have := HJ2.out; have := dF.out; omega
     case rel => exact ⟨(wrap64 (aA + 1)), (aN), zF, H', ⟨by have := HJ2.out; have := dF.out; omega⟩, ⟨by (with_reducible repeat (first | apply Kd.R_alloc | apply Kd.R_drewN | apply Kd.R_drew)); exact Kd.R_mono (Kd.R_far (p := ⟨aH, 2, none⟩) (Kd.R_far (p := ⟨aH, 1, none⟩) (Kd.R_far (p := ⟨aH, 0, none⟩) (Kd.R_mono aU.out (fun k_ hk => (⟨hk, hk.2⟩ : _ ∧ k_ ≠ aH))) (fun _ hk => hk.2) (.int .i64 ((Qb aT aA).f0))) (fun _ hk => hk.2) (.int .i64 ((Qb aT aA).f1))) (fun _ hk => hk.2) (.int .i64 ((Qb aT aA).f2))) (fun _ hk => trivial)⟩, ⟨zk3 aC.out aI.out aI.out aI.out⟩, ⟨zk3 aD.out aJ.out aJ.out aJ.out⟩, ⟨zk3 aK.out aG.out aG.out aG.out⟩, ⟨zG4 aM.out aQ.out aV.out bK.out⟩⟩
    replace H := Zc H
    rcases H with ⟨dO, dP, H⟩ | ⟨c49, dO, dP, H⟩
    ·have H' := Qa.mk H; clear H
     have bG : 0 ≤ (aA : Int) := zA
     have bH : aA < (aT.length : Int) := zA
     obtain ⟨bT, bR, bO, bP, bQ⟩ := Ky (Kd.R_reads' aU.out).2.2 aA bG bH
     cases bR
     replace bG := eq_true bG
     replace bH := eq_true bH
     go_wp2_with (first | ((with_reducible refine Qm (N := 8) rfl ?_); refine zBx (N := 8) #[.int .i64 0, .int .i64 0, .int .i64 0] 77 ?_; intro aH hg lY hbox hb; replace aU := Qa.mk (Kd.R_below (Kd.R_elderB (zR aU.out) aH (Nat.le_of_eq hg.symm)) hb); have bE := Qa.mk (hbox); have bV := zSg hg (zG3 aM.out aQ.out aV.out); have bK := zSg hg (zG3 aM.out aQ.out aV.out); have aI := zL hg aC.out; have aX := zLg hg aC.out; replace aC := zV aC.out hb; have aJ := zL hg aD.out; have aY := zLg hg aD.out; replace aD := zV aD.out hb; have aG := zL hg aK.out; have aW := zLg hg aK.out; replace aK := zV aK.out hb; replace HB := Qa.mk (Qg (zG3 aM.out aQ.out aV.out) hb); clear hb hbox hg; have jS := aX.out; have jT := aI.out; have jU := aY.out; have jV := aJ.out; have jW := aW.out; have jX := aG.out; obtain ⟨fT, fU, fV, fZ, gB, gD⟩ := zq3 bE.out))
     go_roundg k2
     case measure => have := HJ2.out; have := dF.out; omega
     case rel => exact ⟨(wrap64 (aA + 1)), (aN), zF, H', ⟨by have := HJ2.out; have := dF.out; omega⟩, ⟨by (with_reducible repeat (first | apply Kd.R_alloc | apply Kd.R_drewN | apply Kd.R_drew)); exact Kd.R_mono (Kd.R_far (p := ⟨aH, 2, none⟩) (Kd.R_far (p := ⟨aH, 1, none⟩) (Kd.R_far (p := ⟨aH, 0, none⟩) (Kd.R_mono aU.out (fun k_ hk => (⟨hk, hk.2⟩ : _ ∧ k_ ≠ aH))) (fun _ hk => hk.2) (.int .i64 ((Qb aT aA).f0))) (fun _ hk => hk.2) (.int .i64 ((Qb aT aA).f1))) (fun _ hk => hk.2) (.int .i64 ((Qb aT aA).f2))) (fun _ hk => trivial)⟩, ⟨zk3 aC.out aI.out aI.out aI.out⟩, ⟨zk3 aD.out aJ.out aJ.out aJ.out⟩, ⟨zk3 aK.out aG.out aG.out aG.out⟩, ⟨zG4 aM.out aQ.out aV.out bK.out⟩⟩
    have jY := eq_true (zA : 0 ≤ aA)
    replace H := Yj H
    rcases H with ⟨lH, jZ, kC, H⟩ | ⟨lH, H⟩
    ·replace H := Yj H
     rcases H with ⟨lI, kD, kE, H⟩ | ⟨lI, H⟩
     ·replace H := Yj H
      rcases H with ⟨kF, kG, kH, H⟩ | ⟨kF, H⟩
      ·try have kI : (9223372036854775807 < aN.size + ((wrap64 (aA + 1)).toNat - aA.toNat)) = False := eq_false (Nat.not_lt.2 kF)
       have H' := Qa.mk H; clear H
       have bG : 0 ≤ (aA : Int) := zA
       have bH : aA < (aT.length : Int) := zA
       obtain ⟨bT, bR, bO, bP, bQ⟩ := Ky (Kd.R_reads' aU.out).2.2 aA bG bH
       cases bR
       replace bG := eq_true bG
       replace bH := eq_true bH
       try go_wp2_with (first | ((with_reducible refine Qm (N := 8) rfl ?_); refine zBx (N := 8) #[.int .i64 0, .int .i64 0, .int .i64 0] 77 ?_; intro aH hg dG hbox hb; replace aU := Qa.mk (Kd.R_below (Kd.R_elderB (zR aU.out) aH (Nat.le_of_eq hg.symm)) hb); have bE := Qa.mk (hbox); have bV := zSg hg (zG3 aM.out aQ.out aV.out); have bK := zSg hg (zG3 aM.out aQ.out aV.out); have aI := zL hg aC.out; have aX := zLg hg aC.out; replace aC := zV aC.out hb; have aJ := zL hg aD.out; have aY := zLg hg aD.out; replace aD := zV aD.out hb; have aG := zL hg aK.out; have aW := zLg hg aK.out; replace aK := zV aK.out hb; replace HB := Qa.mk (Qg (zG3 aM.out aQ.out aV.out) hb); clear hb hbox hg; have kJ := aX.out; have kK := aI.out; have kL := aY.out; have kM := aJ.out; have kN := aW.out; have kP := aG.out; obtain ⟨gF, gG, gH, gI, gJ, gK⟩ := zq3 bE.out))
       have iI : Qa (Kd.R k77 77 (((dG.setCell ⟨aH, 0, none⟩ (.int .i64 ((Qb aT aA).f0))).setCell ⟨aH, 1, none⟩ (.int .i64 ((Qb aT aA).f1))).setCell ⟨aH, 2, none⟩ (.int .i64 ((Qb aT aA).f2))) w.heap.size (fun k_ => k_ ≠ aH) (.slice (some bT) aT.length dI) aT) := ⟨by (with_reducible repeat (first | apply Kd.R_alloc | apply Kd.R_drewN | apply Kd.R_drew)); exact Kd.R_mono (Kd.R_far (p := ⟨aH, 2, none⟩) (Kd.R_far (p := ⟨aH, 1, none⟩) (Kd.R_far (p := ⟨aH, 0, none⟩) (Kd.R_mono aU.out (fun k_ hk => (⟨hk, hk.2⟩ : _ ∧ k_ ≠ aH))) (fun _ hk => hk.2) (.int .i64 ((Qb aT aA).f0))) (fun _ hk => hk.2) (.int .i64 ((Qb aT aA).f1))) (fun _ hk => hk.2) (.int .i64 ((Qb aT aA).f2))) (fun _ hk => hk.1.2)⟩
       have iJ : Qa ((((dG.setCell ⟨aH, 0, none⟩ (.int .i64 ((Qb aT aA).f0))).setCell ⟨aH, 1, none⟩ (.int .i64 ((Qb aT aA).f1))).setCell ⟨aH, 2, none⟩ (.int .i64 ((Qb aT aA).f2))).heap[bM]? = some (.cells #[.int .i64 bD, .string bF] 25 (0, 0))) := ⟨zk3 aC.out aI.out aI.out aI.out⟩
       have iK : Qa ((((dG.setCell ⟨aH, 0, none⟩ (.int .i64 ((Qb aT aA).f0))).setCell ⟨aH, 1, none⟩ (.int .i64 ((Qb aT aA).f1))).setCell ⟨aH, 2, none⟩ (.int .i64 ((Qb aT aA).f2))).heap[bN]? = some (.cells #[.int .i64 0, .string (⟨#[]⟩ : ByteArray)] 25 (0, 0))) := ⟨zk3 aD.out aJ.out aJ.out aJ.out⟩
       have iL : Qa ((((dG.setCell ⟨aH, 0, none⟩ (.int .i64 ((Qb aT aA).f0))).setCell ⟨aH, 1, none⟩ (.int .i64 ((Qb aT aA).f1))).setCell ⟨aH, 2, none⟩ (.int .i64 ((Qb aT aA).f2))).heap[bL]? = some (.cells #[.int .i64 (wrap64 (bD - 1)), .string aN] 25 (0, 0))) := ⟨zk3 aK.out aG.out aG.out aG.out⟩
       have iM : Qa ((((dG.setCell ⟨aH, 0, none⟩ (.int .i64 ((Qb aT aA).f0))).setCell ⟨aH, 1, none⟩ (.int .i64 ((Qb aT aA).f1))).setCell ⟨aH, 2, none⟩ (.int .i64 ((Qb aT aA).f2))).heap[aH]? = some (.cells #[.int .i64 ((Qb aT aA).f0), .int .i64 ((Qb aT aA).f1), .int .i64 ((Qb aT aA).f2)] 77 (0, 0))) := ⟨zk0 bE.out⟩
       have iN : Qa (Below w.heap.size w (((dG.setCell ⟨aH, 0, none⟩ (.int .i64 ((Qb aT aA).f0))).setCell ⟨aH, 1, none⟩ (.int .i64 ((Qb aT aA).f1))).setCell ⟨aH, 2, none⟩ (.int .i64 ((Qb aT aA).f2)))) := ⟨zG4 aM.out aQ.out aV.out bK.out⟩
       (try clear aU)
       (try clear aC)
       (try clear aD)
       (try clear aK)
       (try clear bE)
       (try clear HB)
       generalize (((dG.setCell ⟨aH, 0, none⟩ (.int .i64 ((Qb aT aA).f0))).setCell ⟨aH, 1, none⟩ (.int .i64 ((Qb aT aA).f1))).setCell ⟨aH, 2, none⟩ (.int .i64 ((Qb aT aA).f2))) = lJ at iI iJ iK iL iM iN ⊢
       have aU := iI
       have aC := iJ
       have aD := iK
       have aK := iL
       have bE := iM
       have HB := iN
       clear iI iJ iK iL iM iN
       replace aU := Qa.mk (Kd.R_drew aU.out)
       replace aC := Qa.mk (Qk aC.out)
       replace aD := Qa.mk (Qk aD.out)
       replace aK := Qa.mk (Qk aK.out)
       replace bE := Qa.mk (Qk bE.out)
       replace HB := Qa.mk (Qo HB.out)
       refine Xe (n := 11) (S := fun w' => w'.cell? ⟨bL, 0, none⟩ = some (.int .i64 (wrap64 (bD - 1))) ∧ w'.cell? ⟨bL, 1, none⟩ = some (.string aN) ∧ w'.cell? ⟨bM, 0, none⟩ = some (.int .i64 bD) ∧ w'.cell? ⟨bM, 1, none⟩ = some (.string bF)) (ds := [10]) #[false, false, false, false, false, false, false, false, false, false, false] (by kernel_rfl) rfl rfl ⟨(Qj aK.out 0).trans rfl, (Qj aK.out 1).trans rfl, (Qj aC.out 0).trans rfl, (Qj aC.out 1).trans rfl⟩ (fun hHeld => ?_); refine J6 Qs.tab8 Qs.bits8 (fun HT_ HW_ => ?_)
       generalize lJ.drew = lK at aU aC aD aK bE HB hHeld ⊢
       refine zP 0 (some 54) rfl rfl ?_
       refine zP 2 (some 56) rfl rfl ?_
       refine zP 4 (some 58) rfl rfl ?_
       refine zP 5 (some 59) rfl rfl ?_
       refine zP 6 (some 60) rfl rfl ?_
       refine zY4 1 (some 55) rfl rfl hHeld ?_
       refine zY4 3 (some 57) rfl rfl hHeld ?_
       refine zP 7 (some 61) rfl rfl ?_
       refine zP 8 (some 62) rfl rfl ?_
       refine zP 9 (some 63) rfl rfl ?_
       refine jFn (i := 10) (N := none) #[true, true, true, true, true, true, true, true, true, true, true] rfl rfl (jAm HT_.out (by kernel_rfl)) (by decide) (fun K hK => ?_)
       have lL : lK.cell? ⟨bL, 1, none⟩ = some (.string aN) := (Qj aK.out 1).trans rfl
       have kQ := J8 aK.out 1
       have gL := bB.out
       have gM := bC.out
       have gN := aW.out
       have gP := bI.out
       have gQ := bJ.out
       have gT := aG.out
       refine jA2 (w1 := ?_) (by rfl) rfl ?_ ?_
       rotate_left
       ·go_simp
        rfl
       refine hK.out _ _ ?_
       clear hK K
       refine Yp (Zu HT_.out (by kernel_rfl)) ?_
       try go_wp2
       go_roundg k2
       case measure => have := HJ2.out; have := dF.out; omega
       case rel => exact ⟨(wrap64 (aA + 1)), (aN ++ (bF.extract (aA : Int).toNat ((wrap64 (aA + 1)) : Int).toNat)), zF, H', ⟨by have := HJ2.out; have := dF.out; omega⟩, ⟨by (with_reducible repeat (first | apply Kd.R_alloc | apply Kd.R_drewN | apply Kd.R_drew)); exact Kd.R_mono (Kd.R_far (p := ⟨bL, 1, none⟩) (Kd.R_types aU.out aK.out (by decide)) (fun _ hk => hk.2) (.string (aN ++ (bF.extract (aA : Int).toNat ((wrap64 (aA + 1)) : Int).toNat)))) (fun _ hk => trivial)⟩, ⟨zk1 aC.out bB.out⟩, ⟨zk1 aD.out bC.out⟩, ⟨zk0 aK.out⟩, ⟨zG4 aM.out aQ.out aV.out bK.out⟩⟩
      exact absurd H (by simp)
     exact absurd H (by simp)
    exact absurd H (by simp)
   exact absurd H (by simp)
  exact absurd H (by simp)
 simp only [Option.some.injEq, Prod.mk.injEq] at H
 obtain ⟨rfl, rfl, rfl⟩ := H
 have kR := bI.out
 have kS := bB.out
 have kT := bJ.out
 have kU := bC.out
 obtain ⟨gU, gV, gW, gX⟩ := zq2 aK.out
 have kV := bA.out
 have kW := aZ.out
 obtain ⟨gY, gZ, iA, iB⟩ := zq2 aD.out
 go_wp2
 refine bodyPost_ret (J7 rfl _ _ bN 25 #[.int .i64 (wrap64 (bD - 1)), .string aN] (0, 0) _ rfl (zk0 aD.out) Tryz.underlying25 rfl (by kernel_rfl)) rfl ?_
 exact ⟨zE, zG3 aM.out aQ.out aV.out⟩
def Jm.l0 : Nat → Int → Int → List Int → Int → Option (List Int)
 | 0, _, _, _, _ => none
 | k + 1, x0, x1, x5, x6 => if x6 < x0 then (if x6 = x1 then (Jm.l0 k x0 x1 x5 (wrap64 (x6 + 1))) else (if x5.length < 17592186044416 then (Jm.l0 k x0 x1 (x5 ++ [x6]) (wrap64 (x6 + 1))) else (none))) else (some x5)
def Jm.f (k : Nat) (a0 : Int) (a1 : Int) : Option (List Int) := Jm.l0 k a0 a1 (([] : List Int)) 0
theorem Jm.mono_l : ∀ k, (∀ y0 y1 y2 y3, LeO (Jm.l0 k y0 y1 y2 y3) (Jm.l0 (k + 1) y0 y1 y2 y3))
 | 0 => fun _ _ _ _ r h => by simp [Jm.l0] at h
 | k + 1 => by
  have aA := Jm.mono_l k
  ·intro y0 y1 y2 y3
   unfold Jm.l0
   repeat' first
   | (with_reducible first | exact aA .. | exact LeO.refl _ | exact LeO.none _ | refine LeO.ite ?_ ?_ | refine LeO.bind ?_ (fun _ => ?_))
   | exact aA .. | exact LeO.none _ | refine LeO.ite ?_ ?_ | refine LeO.bind ?_ (fun _ => ?_)
theorem Jm.mono : ∀ a0 a1 k, LeO (Jm.f k a0 a1) (Jm.f (k + 1) a0 a1) := by
 intro a0 a1 k
 have aA := Jm.mono_l k
 unfold Jm.f
 repeat' first
   | (with_reducible first | exact aA .. | exact LeO.refl _ | exact LeO.none _ | refine LeO.ite ?_ ?_ | refine LeO.bind ?_ (fun _ => ?_))
   | exact aA .. | exact LeO.none _ | refine LeO.ite ?_ ?_ | refine LeO.bind ?_ (fun _ => ?_)
set_option maxHeartbeats 8000000 in
set_option maxRecDepth 100000 in
theorem Jm.calls (k : Nat) (a0 : Int) (a1 : Int) (r : List Int) (w : World) (h : Jm.f k a0 a1 = some r) :
  Calls Tryz.prog 71 #[.int .i64 a0, .int .i64 a1] w fun e w' => ∃ aZ : Value, e = .returned (aZ) ∧ Kd.R (Kd.int .i64) 3 w' w.heap.size (fun _ => True) aZ r ∧ Below w.heap.size w w' := by
 have HB := Qa.mk (Below.refl w.heap.size w)
 have H := h
 unfold Jm.f at H
 clear h
 generalize aG : (([] : List Int) : List Int) = aT at H
 have aH := Qa.mk aG.symm
 clear aG
 have H' := Qa.mk H; clear H
 go_enter Tryz.func71, Tryz.ntmps71
 go_wp2_with (first | ((with_reducible refine Qm (N := 7) rfl ?_); refine Kd.R_lit (Kd.int .i64) _ 3 ?hg (N := 7) ?hd (xs := ([] : List Int)) (inner := []) (ok := fun _ => True) (okp := fun _ => True) ?hr ?hp (fun _ hk => hk) trivial (Below.refl _ _) (Nat.le_refl _) (by simp) ?_; (case hd => rfl); (case hg => rfl); (case hr => first | (go_simp; done) | (go_simp; rfl)); (case hp => exact (Z0.none _ _)); intro bA w3 aJ hb hg_ hnew_; clear hg_ hnew_; (first | rw [← aH.out] at aJ | (simp only [Int.reduceToNat] at aJ; rw [← aH.out] at aJ)); have aK := Qa.mk (Kd.R_lower aJ (Q6 zB)); replace HB := zX hb; clear hb aJ))
 go_loopg [5, 6] k (fun kq v5 v6 w' => ∃ (aC : List Int) (aA : Int), v6 = .int .i64 aA ∧ Qa (Jm.l0 kq a0 a1 aC aA = some r) ∧ Qa (kq ≤ k) ∧ Qa (Kd.R (Kd.int .i64) 3 w' w.heap.size (fun _ => True) v5 aC) ∧ Qa (Below w.heap.size w w'))
 case atStart => exact ⟨(aT), (0), zF, H', ⟨Nat.le_refl _⟩, ⟨zR aK.out⟩, ⟨zB⟩⟩
 case round =>
 clear H'
 obtain ⟨aC, aA, rfl, HA, aQ, aD, HB⟩ := hrel
 cases gk with
 | zero => exact absurd HA.out (by simp [Jm.l0])
 | succ k1 =>
 have H := HA.out
 clear HA
 simp only [Jm.l0] at H
 replace H := Xr H
 rcases H with ⟨aU, H⟩ | ⟨aU, H⟩
 ·replace H := Zc H
  rcases H with ⟨aV, aW, H⟩ | ⟨c6, aV, aW, H⟩
  ·have H' := Qa.mk H; clear H
   go_wp2
   go_roundg k1
   case measure => have := aQ.out; omega
   case rel => exact ⟨(aC), (wrap64 (aA + 1)), zF, H', ⟨by have := aQ.out; omega⟩, ⟨zR aD.out⟩, ⟨zB⟩⟩
  replace H := X8 H
  rcases H with ⟨c7, H⟩ | ⟨c7, H⟩
  ·have aX := Qa.mk c7
   clear c7
   generalize aI : (aC ++ [aA] : List Int) = aY at H
   have aM := Qa.mk aI.symm
   clear aI
   have H' := Qa.mk H; clear H
   go_wp2_with (first | ((with_reducible refine Zy (b := .append) (xs := #[.tmp 16, .tmp 18]) rfl ?_); at_builtin; refine Kd.R_append (Kd.int .i64) (w0 := w) w.heap.size rfl (.tmp 16) (.tmp 18) 34 3 (.int .i64 0) 8 rfl Tryz.underlying34 info3 rfl (by decide) (by omega) u5 aC aA [.int .i64 aA] (fun _ => True) (fun _ => False) rfl rfl ?aP (fun _ hk => hk.elim) ?aF ?aO ?aB ?aS ?aL ?_; (case aP => exact rfl); (case aB => exact zB); (case aF => exact (fun _ _ => trivial)); (case aO => exact (zR aD.out)); (case aS => exact (Q6 zB)); (case aL => have := aX.out; omega); intro bB w8 ho hb hg hat; rw [← aM.out] at ho; have aN := Qa.mk (ho); replace HB := Qa.mk (hb); clear aD; clear ho hb hg hat))
   go_roundg k1
   case measure => have := aQ.out; omega
   case rel => exact ⟨(aY), (wrap64 (aA + 1)), zF, H', ⟨by have := aQ.out; omega⟩, ⟨zR aN.out⟩, ⟨zB⟩⟩
  exact absurd H (by simp)
 obtain rfl := Option.some.inj H
 go_wp2
 go_ret
 exact ⟨_, zE, zR aD.out, zB⟩
def Q4.j0 : Nat → Int → Bool → Int → ByteArray → Option (Int × ByteArray × Bool)
 | 0, _, _, _, _ => none
 | k + 1, x1, aH, aA, aC => if aH = true then (some (0, (⟨#[]⟩ : ByteArray), false)) else ((Jm.f k aA x1).bind fun aG => ((Ja.f k aA aC aG).bind fun aD => (some (aD.1, aD.2, true))))
def Q4.f (k : Nat) (aA : Int) (aC : ByteArray) (a1 : Int) : Option (Int × ByteArray × Bool) := (Qu.f k aA aC).bind fun aD => (if aD = true then (if aA = 3 then (Q4.j0 k a1 true aA aC) else ((Jh.f a1 0 (wrap64 (aA - 1))).bind fun aG => (Q4.j0 k a1 (!aG) aA aC))) else (Q4.j0 k a1 true aA aC))
def Q4.T3 : Bool × List (List Nat × List Nat) := (true, [([], []), ([], []), ([1], [1]), ([], []), ([2, 3], [2, 3]), ([0, 4, 4], [0, 4]), ([5, 5, 0, 1, 2, 3, 4, 5], [5]), ([6, 0, 1, 2, 3, 4, 5, 6], [])])
def Q4.B3 : List Nat := [0, 0, 2, 0, 14, 31, 63, 127]
theorem Q4.tab3 : Vv .any (opsOf Tryz.f18 3) = Q4.T3 := by kernel_rfl
theorem Q4.bits3 : Zz Q4.T3.2 Q4.B3 = true := by kernel_rfl
set_option maxHeartbeats 8000000 in
set_option maxRecDepth 100000 in
theorem Q4.calls (k : Nat) (aJ : Int) (aM : ByteArray) (a1 : Int) (r1 : Int) (r2 : ByteArray) (r3 : Bool) (w : World) (h : Q4.f k aJ aM a1 = some (r1, r2, r3)) :
  Calls Tryz.prog 18 #[.agg #[.int .i64 aJ, .string aM], .int .i64 a1] w fun e w' => e = .returned (.tuple #[.agg #[.int .i64 r1, .string r2], .bool r3]) ∧ Below w.heap.size w w' := by
 have dU := Tryz.underlying25
 have HB := Qa.mk (Below.refl w.heap.size w)
 have H := h
 unfold Q4.f at H
 clear h
 have dA := Qa.mk H
 clear H
 go_enter Tryz.func18, Tryz.ntmps18
 go_upto_region 1 with (first | ((with_reducible refine Qm (N := 2) rfl ?_); refine zBx (N := 2) #[.int .i64 aJ, .string aM] 25 ?_; intro aT hg w4 hbox hb; have aA := Qa.mk (hbox); have dF := zS hg; have aH := zS hg; replace HB := zX hb; clear hb hbox hg) | ((with_reducible refine Qm (N := 4) rfl ?_); refine zBx (N := 4) #[.int .i64 0, .string (⟨#[]⟩ : ByteArray)] 25 ?_; intro aK hg w5 hbox hb; have aD := Qa.mk (hbox); have dG := zSg hg (zG aH.out); have aI := zSg hg (zG aH.out); have aC := zL hg aA.out; have aG := zLg hg aA.out; replace aA := zV aA.out hb; replace HB := zX1 aH.out hb; clear hb hbox hg))
 (try simp only [Act.put, List.setIfInBounds_toArray, List.set_cons_zero, List.set_cons_succ])
 go_cut [21] (fun v21 wc => ∃ (kq : Nat) (aQ : Bool), v21 = .bool aQ ∧ Qa (Q4.j0 kq a1 aQ aJ aM = some (r1, r2, r3)) ∧ Qa (kq ≤ k) ∧ Qa (wc.heap[aT]? = some (.cells #[.int .i64 aJ, .string aM] 25 (0, 0))) ∧ Qa (wc.heap[aK]? = some (.cells #[.int .i64 0, .string (⟨#[]⟩ : ByteArray)] 25 (0, 0))) ∧ Qa (Below w.heap.size w wc))
 case first =>
  have H := dA.out
  clear dA
  obtain ⟨dB, A6, H⟩ := zO H
  by_cases c7 : dB = true
  ·subst c7
   replace H := (if_pos rfl).symm.trans H
   replace H := Zc H
   rcases H with ⟨aU, dC, H⟩ | ⟨c8, aU, dC, H⟩
   ·(first | rw [aU] | (simp only [Zj, Zl]; rw [aU]) | skip)
    have H' := Qa.mk H; clear H
    have dV := aC.out
    have dW := aG.out
    obtain ⟨bC, bD, bE, bF⟩ := zq2 aA.out
    go_wp2_with (first | ((with_reducible refine Qd (f := 25) rfl ?_); refine zD (some 7) Tryz.func25 _ ((Qu.calls k aJ aM true _ A6.out).mono ?_); rintro e eP ⟨rfl, hb⟩; refine ⟨_, rfl, ?_⟩; replace aA := zV aA.out hb; replace aD := zV aD.out hb; replace HB := Qa.mk (Qg (zG2 aH.out aI.out) hb); (try clear hb); obtain ⟨bG, bH, bI, bJ⟩ := zq2 aA.out))
    go_meet
    case rel => exact ⟨_, (true), zF, H', ⟨by first | omega | exact Nat.le_refl _⟩, ⟨zK aA.out⟩, ⟨zK aD.out⟩, ⟨zG2 aH.out aI.out⟩⟩
   (first | rw [aU] | (simp only [Zj, Zl]; rw [aU]) | skip)
   obtain ⟨aY, dX, H⟩ := zO H
   have H' := Qa.mk H; clear H
   have dH := aC.out
   have dI := aG.out
   obtain ⟨bK, bL, bM, bN⟩ := zq2 aA.out
   go_wp2_with (first | ((with_reducible refine Qd (f := 25) rfl ?_); refine zD (some 7) Tryz.func25 _ ((Qu.calls k aJ aM true _ A6.out).mono ?_); rintro e w16 ⟨rfl, hb⟩; refine ⟨_, rfl, ?_⟩; replace aA := zV aA.out hb; replace aD := zV aD.out hb; replace HB := Qa.mk (Qg (zG2 aH.out aI.out) hb); (try clear hb); obtain ⟨bO, bP, bQ, bR⟩ := zq2 aA.out) | (go_at_call 70; (with_reducible refine (Jh.calls a1 0 (wrap64 (aJ - 1)) aY _ dX.out).mono ?_); rintro e w' ⟨rfl, ⟨nd, rfl⟩⟩))
   go_meet
   case rel => exact ⟨_, (!aY), zF, H', ⟨by first | omega | exact Nat.le_refl _⟩, ⟨zK aA.out⟩, ⟨zK aD.out⟩, ⟨zG2 aH.out aI.out⟩⟩
  replace c7 := Bool.eq_false_iff.mpr c7
  subst c7
  replace H := (if_neg zFf).symm.trans H
  have H' := Qa.mk H; clear H
  have dJ := aC.out
  have dK := aG.out
  obtain ⟨bS, bT, bU, bV⟩ := zq2 aA.out
  go_wp2_with (first | ((with_reducible refine Qd (f := 25) rfl ?_); refine zD (some 7) Tryz.func25 _ ((Qu.calls k aJ aM false _ A6.out).mono ?_); rintro e eQ ⟨rfl, hb⟩; refine ⟨_, rfl, ?_⟩; replace aA := zV aA.out hb; replace aD := zV aD.out hb; replace HB := Qa.mk (Qg (zG2 aH.out aI.out) hb); (try clear hb)))
  go_meet
  case rel => exact ⟨_, (true), zF, H', ⟨by first | omega | exact Nat.le_refl _⟩, ⟨zK aA.out⟩, ⟨zK aD.out⟩, ⟨zG2 aH.out aI.out⟩⟩
 case rest =>
 clear dA
 obtain ⟨kq, aQ, rfl, HA, HJ2, aA, aD, HB⟩ := hcut
 cases kq with
 | zero => exact absurd HA.out (by simp [Q4.j0])
 | succ dL =>
 have H := HA.out
 clear HA
 simp only [Q4.j0] at H
 by_cases c21 : aQ = true
 ·subst c21
  replace H := (if_pos rfl).symm.trans H
  simp only [Option.some.injEq, Prod.mk.injEq] at H
  obtain ⟨rfl, rfl, rfl⟩ := H
  have dM := aG.out
  have dN := aC.out
  obtain ⟨bW, bX, bY, bZ⟩ := zq2 aD.out
  go_wp2
  refine bodyPost_ret (J7 rfl _ _ aK 25 #[.int .i64 0, .string (⟨#[]⟩ : ByteArray)] (0, 0) _ rfl (zk0 aD.out) Tryz.underlying25 rfl (by kernel_rfl)) rfl ?_
  exact ⟨zE, zG2 aH.out aI.out⟩
 replace c21 := Bool.eq_false_iff.mpr c21
 subst c21
 replace H := (if_neg zFf).symm.trans H
 obtain ⟨aV, dY, H⟩ := zO H
 obtain ⟨⟨aW, aX⟩, dZ, H⟩ := zO H
 replace H : (some (aW, aX, true)) = some (r1, r2, r3) := H
 simp only [Option.some.injEq, Prod.mk.injEq] at H
 obtain ⟨rfl, rfl, rfl⟩ := H
 try go_wp2
 replace aA := Qa.mk (Qk aA.out)
 replace aD := Qa.mk (Qk aD.out)
 replace HB := Qa.mk (Qo HB.out)
 refine Xe (n := 8) (S := fun w' => w'.cell? ⟨aT, 0, none⟩ = some (.int .i64 aJ) ∧ w'.cell? ⟨aT, 1, none⟩ = some (.string aM)) (ds := []) #[false, false, false, false, false, false, false, false] (by kernel_rfl) rfl rfl ⟨(Qj aA.out 0).trans rfl, (Qj aA.out 1).trans rfl⟩ (fun hHeld => ?_); refine J6 Q4.tab3 Q4.bits3 (fun HT_ HW_ => ?_)
 generalize wc.drew = eU at aA aD HB hHeld ⊢
 refine zP 1 (some 24) rfl rfl ?_
 refine zP 3 (some 26) rfl rfl ?_
 refine zY2 0 (some 23) rfl rfl hHeld ?_
 refine zY2 2 (some 25) rfl rfl hHeld ?_
 refine zU 4 (some 27) rfl rfl (fun K hK => ?_)
 refine X0 Tryz.func71 (by kernel_rfl) rfl #[.int .i64 aJ, .int .i64 a1] (by rfl) rfl rfl zM ?_
 with_reducible refine (Jm.calls dL aJ a1 aV _ dY.out).mono ?_
 rintro e eX ⟨eB, rfl, ho0, hb⟩
 refine ⟨_, rfl, ?_⟩
 have aN := Qa.mk (Kd.R_lower ho0 (Q6 (zG2 aH.out aI.out)))
 replace aA := zV aA.out hb
 replace aD := zV aD.out hb
 replace HB := Qa.mk (Qg (zG2 aH.out aI.out) hb)
 (try clear hb)
 (try clear ho0)
 obtain ⟨dD, dE, aZ⟩ := Kd.R_slice aN.out
 (first | subst aZ | (injection aZ with dO eD dP; have eF := dO.symm; have eG := dP.symm; clear dO eD dP; subst eF; subst eG))
 refine hK.out _ _ (zh2 aA.out) (fun hHeld => ?_)
 clear hK K
 refine zN ?_
 refine zU 5 (some 28) rfl rfl (fun K hK => ?_)
 refine X0 Tryz.func66 (by kernel_rfl) rfl #[.agg #[.int .i64 aJ, .string aM], .slice dD aV.length dE] (by rfl) rfl rfl zM ?_
 with_reducible refine (Ja.calls dL aJ aM _ _ aV aW aX _ ?bA ?bB dZ.out).mono ?_
 (case bA => exact zc ((Kd.R_reads' aN.out).2.2))
 (case bB => exact (Kd.R_reads' aN.out).2.1)
 rintro e dQ ⟨rfl, hb⟩
 refine ⟨_, rfl, ?_⟩
 replace aN := zW aN.out hb
 replace aA := zV aA.out hb
 replace aD := zV aD.out hb
 replace HB := Qa.mk (Qg (zG2 aH.out aI.out) hb)
 (try clear hb)
 refine hK.out _ _ (zh2 aA.out) (fun hHeld => ?_)
 clear hK K
 refine zN ?_
 refine zU 6 none rfl rfl (fun K hK => ?_)
 have eH : dQ.cell? ⟨aK, 0, none⟩ = some (.int .i64 0) := (Qj aD.out 0).trans rfl
 have dR := J8 aD.out 0
 have cB := aC.out
 have cK := aG.out
 have eO : dQ.cell? ⟨aK, 1, none⟩ = some (.string (⟨#[]⟩ : ByteArray)) := (Qj aD.out 1).trans rfl
 have dS := J8 aD.out 1
 have cO := aC.out
 have cZ := aG.out
 refine jA2 (w1 := ?_) (by rfl) rfl ?_ ?_
 rotate_left
 ·go_simp
  rfl
 refine hK.out _ _ ⟨((cell_far (p := ⟨aK, _, none⟩) aC.out _).trans (((cell_far (p := ⟨aK, _, none⟩) aC.out _).trans (hHeld.1)))), ((cell_far (p := ⟨aK, _, none⟩) aC.out _).trans (((cell_far (p := ⟨aK, _, none⟩) aC.out _).trans (hHeld.2))))⟩ (fun hHeld => ?_)
 clear hK K
 refine zP 7 (some 5) rfl rfl ?_
 refine Yp (Zu HT_.out (by kernel_rfl)) ?_
 try go_wp2
 refine bodyPost_ret (J7 rfl _ _ aK 25 #[.int .i64 aW, .string aX] (0, 0) _ rfl (zk0 aD.out) Tryz.underlying25 rfl (by kernel_rfl)) rfl ?_
 exact ⟨zE, zG2 aH.out aI.out⟩
def Ji.l0 : Nat → Int → Bool → ByteArray → Option (ByteArray)
 | 0, _, _, _ => none
 | k + 1, x0, x3, x4 => if x0 = 0 then (if x3 = true then (if 1 + x4.size ≤ 9223372036854775807 then (some ((⟨#[45]⟩ : ByteArray) ++ x4)) else (none)) else (some x4)) else (if (Int.tmod x0 10) < 0 then ((some (([(wrap64 (48 + (wrap64 (-(Int.tmod x0 10))))) % 256] : List Int) : List Int)).bind fun aA => (if (strOfNums aA).size + x4.size ≤ 9223372036854775807 then (Ji.l0 k (wrap64 (Int.tdiv x0 10)) x3 ((strOfNums aA) ++ x4)) else (none))) else ((some (([(wrap64 (48 + (Int.tmod x0 10))) % 256] : List Int) : List Int)).bind fun aC => (if (strOfNums aC).size + x4.size ≤ 9223372036854775807 then (Ji.l0 k (wrap64 (Int.tdiv x0 10)) x3 ((strOfNums aC) ++ x4)) else (none))))
def Ji.f (k : Nat) (a0 : Int) : Option (ByteArray) := if a0 = 0 then (some (⟨#[48]⟩ : ByteArray)) else (Ji.l0 k a0 (decide (a0 < 0)) (⟨#[]⟩ : ByteArray))
set_option maxHeartbeats 8000000 in
set_option maxRecDepth 100000 in
theorem Ji.calls (k : Nat) (a0 : Int) (r : ByteArray) (w : World) (h : Ji.f k a0 = some r) :
  Calls Tryz.prog 80 #[.int .i64 a0] w fun e w' => e = .returned (.string r) ∧ Below w.heap.size w w' := by
 have HB := Qa.mk (Below.refl w.heap.size w)
 have H := h
 unfold Ji.f at H
 clear h
 replace H := Zc H
 rcases H with ⟨aJ, aK, H⟩ | ⟨c2, aJ, aK, H⟩
 ·obtain rfl := Option.some.inj H
  go_enter Tryz.func80, Tryz.ntmps80
  go_wp2
  go_ret
  exact ⟨zE, zB⟩
 have H' := Qa.mk H; clear H
 go_enter Tryz.func80, Tryz.ntmps80
 go_wp2
 go_loopg [0, 4] k (fun kq v0 v4 w' => ∃ (aA : Int) (aC : ByteArray), v0 = .int .i64 aA ∧ v4 = .string aC ∧ Qa (Ji.l0 kq aA (decide (a0 < 0)) aC = some r) ∧ Qa (kq ≤ k) ∧ Qa (Below w.heap.size w w'))
 case atStart => exact ⟨(a0), ((⟨#[]⟩ : ByteArray)), zF, zF, H', ⟨Nat.le_refl _⟩, ⟨zB⟩⟩
 case round =>
 clear H'
 try clear c2
 try clear aJ
 try clear aK
 obtain ⟨aA, aC, rfl, rfl, HA, aV, HB⟩ := hrel
 cases gk with
 | zero => exact absurd HA.out (by simp [Ji.l0])
 | succ k1 =>
 have H := HA.out
 clear HA
 simp only [Ji.l0] at H
 replace H := Zc H
 rcases H with ⟨aW, aX, H⟩ | ⟨c3, aW, aX, H⟩
 ·replace H := X8 H
  rcases H with ⟨c4, H⟩ | ⟨c4, H⟩
  ·have aI : (decide (a0 < 0)) = true := c4
   clear c4
   replace H := Yj H
   rcases H with ⟨c5, bE, bF, H⟩ | ⟨c5, H⟩
   ·try have bG : (9223372036854775807 < 1 + aC.size) = False := eq_false (Nat.not_lt.2 c5)
    obtain rfl := Option.some.inj H
    go_wp2
    all_goals first | (exfalso; have hdd := of_decide_eq_true aI; omega; done) | skip
    go_ret
    exact ⟨zE, zB⟩
   exact absurd H (by simp)
  have aI : (decide (a0 < 0)) = false := by simpa using c4
  clear c4
  obtain rfl := Option.some.inj H
  go_wp2
  all_goals first | (exfalso; have hdd := of_decide_eq_false aI; omega; done) | skip
  go_ret
  exact ⟨zE, zB⟩
 replace H := Xr H
 rcases H with ⟨aY, H⟩ | ⟨aY, H⟩
 ·obtain ⟨aM, aG, H⟩ := zs H
  replace H := Yj H
  rcases H with ⟨c7, bH, bI, H⟩ | ⟨c7, H⟩
  ·try have bJ : (9223372036854775807 < (strOfNums aM).size + aC.size) = False := eq_false (Nat.not_lt.2 c7)
   have H' := Qa.mk H; clear H
   go_wp2_with (first | ((with_reducible refine Qm (N := 21) rfl ?_); refine Kd.R_lit (Kd.int .u8) _ 5 ?hg (N := 21) ?hd (xs := ([(wrap64 (48 + (wrap64 (-(Int.tmod aA 10))))) % 256] : List Int)) (inner := [.int .u8 ((wrap64 (48 + (wrap64 (-(Int.tmod aA 10))))) % 256)]) (ok := fun _ => True) (okp := fun _ => True) ?hr ?hp (fun _ hk => hk) trivial (Below.refl _ _) (Nat.le_refl _) (by simp) ?_; (case hd => rfl); (case hg => rfl); (case hr => first | (go_simp; done) | (go_simp; rfl)); (case hp => exact (Z0.one (show Kd.M (Kd.int .u8) _ _ _ ((wrap64 (48 + (wrap64 (-(Int.tmod aA 10))))) % 256) [.int .u8 ((wrap64 (48 + (wrap64 (-(Int.tmod aA 10))))) % 256)] from rfl) (Z0.none _ _))); intro bK w8 aN hb hg_ hnew_; clear hg_ hnew_; (first | rw [← aG.out] at aN | (simp only [Int.reduceToNat] at aN; rw [← aG.out] at aN)); have aQ := Qa.mk (Kd.R_lower aN (Q6 zB)); replace HB := zX hb; clear hb aN; have aZ := Um (P := Tryz.prog) Tryz.underlying22 Tryz.underlying5 Tryz.underlying9 (Kd.own_of_R aQ.out)))
   go_roundg k1
   case measure => have := aV.out; omega
   case rel => exact ⟨(wrap64 (Int.tdiv aA 10)), ((strOfNums aM) ++ aC), zF, zF, H', ⟨by have := aV.out; omega⟩, ⟨zB⟩⟩
  exact absurd H (by simp)
 obtain ⟨aT, aH, H⟩ := zs H
 replace H := Yj H
 rcases H with ⟨c11, bA, bB, H⟩ | ⟨c11, H⟩
 ·try have bC : (9223372036854775807 < (strOfNums aT).size + aC.size) = False := eq_false (Nat.not_lt.2 c11)
  have H' := Qa.mk H; clear H
  go_wp2_with (first | ((with_reducible refine Qm (N := 21) rfl ?_); refine Kd.R_lit (Kd.int .u8) _ 5 ?hg (N := 21) ?hd (xs := ([(wrap64 (48 + (Int.tmod aA 10))) % 256] : List Int)) (inner := [.int .u8 ((wrap64 (48 + (Int.tmod aA 10))) % 256)]) (ok := fun _ => True) (okp := fun _ => True) ?hr ?hp (fun _ hk => hk) trivial (Below.refl _ _) (Nat.le_refl _) (by simp) ?_; (case hd => rfl); (case hg => rfl); (case hr => first | (go_simp; done) | (go_simp; rfl)); (case hp => exact (Z0.one (show Kd.M (Kd.int .u8) _ _ _ ((wrap64 (48 + (Int.tmod aA 10))) % 256) [.int .u8 ((wrap64 (48 + (Int.tmod aA 10))) % 256)] from rfl) (Z0.none _ _))); intro bL bM aD hb hg_ hnew_; clear hg_ hnew_; (first | rw [← aH.out] at aD | (simp only [Int.reduceToNat] at aD; rw [← aH.out] at aD)); have aU := Qa.mk (Kd.R_lower aD (Q6 zB)); replace HB := zX hb; clear hb aD; have bD := Um (P := Tryz.prog) Tryz.underlying22 Tryz.underlying5 Tryz.underlying9 (Kd.own_of_R aU.out)))
  go_roundg k1
  case measure => have := aV.out; omega
  case rel => exact ⟨(wrap64 (Int.tdiv aA 10)), ((strOfNums aT) ++ aC), zF, zF, H', ⟨by have := aV.out; omega⟩, ⟨zB⟩⟩
 exact absurd H (by simp)
def Jy.f (k : Nat) (aD : Int) (aA : ByteArray) : Option (ByteArray) := (Qu.f k aD aA).bind fun aG => (if aG = true then ((Ji.f k aD).bind fun aC => (if aC.size + 1 ≤ 9223372036854775807 then (if aC.size + 1 + aA.size ≤ 9223372036854775807 then (some ((aC ++ (⟨#[58]⟩ : ByteArray)) ++ aA)) else (none)) else (none))) else (some (⟨#[]⟩ : ByteArray)))
def Jy.T3 : Bool × List (List Nat × List Nat) := (true, [([], []), ([0], [0]), ([1], [1]), ([2], [2]), ([], []), ([4], [4]), ([3, 5], [3, 5]), ([6, 2, 0, 1, 2, 3, 4, 5, 6], [6])])
def Jy.B3 : List Nat := [0, 1, 3, 7, 0, 16, 63, 127]
theorem Jy.tab3 : Vv .any (opsOf Tryz.f27 3) = Jy.T3 := by kernel_rfl
theorem Jy.bits3 : Zz Jy.T3.2 Jy.B3 = true := by kernel_rfl
set_option maxHeartbeats 8000000 in
set_option maxRecDepth 100000 in
theorem Jy.calls (k : Nat) (aD : Int) (aG : ByteArray) (r : ByteArray) (w : World) (h : Jy.f k aD aG = some r) :
  Calls Tryz.prog 27 #[.agg #[.int .i64 aD, .string aG]] w fun e w' => e = .returned (.string r) ∧ Below w.heap.size w w' := by
 have aY := Tryz.underlying25
 have HB := Qa.mk (Below.refl w.heap.size w)
 have H := h
 unfold Jy.f at H
 clear h
 obtain ⟨aT, A2, H⟩ := zO H
 by_cases c3 : aT = true
 ·subst c3
  replace H := (if_pos rfl).symm.trans H
  obtain ⟨aI, A4, H⟩ := zO H
  replace H := Yj H
  rcases H with ⟨c5, aZ, bA, H⟩ | ⟨c5, H⟩
  ·try have bB : (9223372036854775807 < aI.size + 1) = False := eq_false (Nat.not_lt.2 c5)
   replace H := Yj H
   rcases H with ⟨c6, bC, bD, H⟩ | ⟨c6, H⟩
   ·try have bE : (9223372036854775807 < aI.size + 1 + aG.size) = False := eq_false (Nat.not_lt.2 c6)
    obtain rfl := Option.some.inj H
    go_enter Tryz.func27, Tryz.ntmps27
    try go_wp2_with (first | ((with_reducible refine Qm (N := 1) rfl ?_); refine zBx (N := 1) #[.int .i64 aD, .string aG] 25 ?_; intro aH hg w7 hbox hb; have aA := Qa.mk (hbox); have aJ := zS hg; have aC := zS hg; replace HB := zX hb; clear hb hbox hg; obtain ⟨aU, aV, aW, aX⟩ := zq2 aA.out) | ((with_reducible refine Qd (f := 25) rfl ?_); refine zD (some 4) Tryz.func25 _ ((Qu.calls k aD aG true _ A2.out).mono ?_); rintro e w9 ⟨rfl, hb⟩; refine ⟨_, rfl, ?_⟩; replace aA := zV aA.out hb; replace HB := zX1 aC.out hb; (try clear hb)))
    replace aA := Qa.mk (Qk aA.out)
    replace HB := Qa.mk (Qo HB.out)
    refine Xe (n := 8) (S := fun w' => w'.cell? ⟨aH, 0, none⟩ = some (.int .i64 aD) ∧ w'.cell? ⟨aH, 1, none⟩ = some (.string aG)) (ds := []) #[false, false, false, false, false, false, false, false] (by kernel_rfl) rfl rfl ⟨(Qj aA.out 0).trans rfl, (Qj aA.out 1).trans rfl⟩ (fun hHeld => ?_); refine J6 Jy.tab3 Jy.bits3 (fun HT_ HW_ => ?_)
    generalize w9.drew = bF at aA HB hHeld ⊢
    refine zP 0 (some 6) rfl rfl ?_
    refine zP 4 (some 10) rfl rfl ?_
    refine zY2 1 (some 7) rfl rfl hHeld ?_
    refine zY2 5 (some 11) rfl rfl hHeld ?_
    refine zU 2 (some 8) rfl rfl (fun K hK => ?_)
    refine X0 Tryz.func80 (by kernel_rfl) rfl #[.int .i64 aD] (by rfl) rfl rfl zM ?_
    with_reducible refine (Ji.calls k aD aI _ A4.out).mono ?_
    rintro e bG ⟨rfl, hb⟩
    refine ⟨_, rfl, ?_⟩
    replace aA := zV aA.out hb
    replace HB := zX1 aC.out hb
    (try clear hb)
    refine hK.out _ _ (zh2 aA.out) (fun hHeld => ?_)
    clear hK K
    refine zN ?_
    refine zP 3 (some 9) rfl rfl ?_
    refine zP 6 (some 12) rfl rfl ?_
    refine zP 7 (some 2) rfl rfl ?_
    refine Yp (Zu HT_.out (by kernel_rfl)) ?_
    try go_wp2
    go_ret
    exact ⟨zE, zG aC.out⟩
   exact absurd H (by simp)
  exact absurd H (by simp)
 replace c3 := Bool.eq_false_iff.mpr c3
 subst c3
 replace H := (if_neg zFf).symm.trans H
 obtain rfl := Option.some.inj H
 go_enter Tryz.func27, Tryz.ntmps27
 go_wp2_with (first | ((with_reducible refine Qm (N := 1) rfl ?_); refine zBx (N := 1) #[.int .i64 aD, .string aG] 25 ?_; intro aH hg bH hbox hb; have aA := Qa.mk (hbox); have aJ := zS hg; have aC := zS hg; replace HB := zX hb; clear hb hbox hg; obtain ⟨aK, aM, aN, aQ⟩ := zq2 aA.out) | ((with_reducible refine Qd (f := 25) rfl ?_); refine zD (some 4) Tryz.func25 _ ((Qu.calls k aD aG false _ A2.out).mono ?_); rintro e bI ⟨rfl, hb⟩; refine ⟨_, rfl, ?_⟩; replace aA := zV aA.out hb; replace HB := zX1 aC.out hb; (try clear hb)))
 go_ret
 exact ⟨zE, zG aC.out⟩
def Zd.f (aG : List Int) (aH : Int) (aI : Int) (a1 : ByteArray) (l2 : List ByteArray) : Option (ByteArray × Int × Int) := (Q5.f aG aH aI (wrap64 ((a1.size : Int) + 1))).bind fun aA => ((Q5.f aG aA.2.1 aA.2.2 6).bind fun aC => (if aC.1 = 0 then (if 0 ≤ aA.1 then (if aA.1 ≤ (a1.size : Int) then ((Xk.f aG aC.2.1 aC.2.2 l2).bind fun aD => (if (a1.extract 0 (aA.1 : Int).toNat).size + aD.1.size ≤ 9223372036854775807 then (if (a1.extract 0 (aA.1 : Int).toNat).size + aD.1.size + (a1.extract (aA.1 : Int).toNat a1.size).size ≤ 9223372036854775807 then (some (((a1.extract 0 (aA.1 : Int).toNat) ++ aD.1) ++ (a1.extract (aA.1 : Int).toNat a1.size), aD.2.1, aD.2.2)) else (none)) else (none))) else (none)) else (none)) else (if aC.1 = 1 then (if 0 ≤ aA.1 then (if aA.1 ≤ (a1.size : Int) then (some (a1.extract 0 (aA.1 : Int).toNat, aC.2.1, aC.2.2)) else (none)) else (none)) else (some (a1, aC.2.1, aC.2.2)))))
def Zd.T4 : Bool × List (List Nat × List Nat) := (true, [([], []), ([], []), ([0, 1], [0, 1]), ([], []), ([], []), ([3, 4], [3, 4]), ([2, 5], [2, 5]), ([], []), ([], []), ([7, 8], [7, 8]), ([6, 9], [6, 9]), ([10, 5, 0, 1, 2, 3, 4, 5, 6, 7, 8, 9, 10], [10])])
def Zd.B4 : List Nat := [0, 0, 3, 0, 0, 24, 63, 0, 0, 384, 1023, 2047]
theorem Zd.tab4 : Vv .any (opsOf Tryz.f72 4) = Zd.T4 := by kernel_rfl
theorem Zd.bits4 : Zz Zd.T4.2 Zd.B4 = true := by kernel_rfl
theorem Uq {p q : Prop} (g : p) (h : p → q := by intro zg_; repeat (first | (with_reducible first | exact zg_ | apply Qc.alloc | apply Qc.drewN | apply Qc.drew | apply Qc.set_1 | apply Qc.set_2) | exact zg_)) : q := h g
theorem jA9 {p q p0 : Prop} (g : p) (g0 : p0) (h : p → p0 → q := by intro zg_ aA; repeat (first | (with_reducible first | exact zg_ | apply Qv | apply Qr | apply Qo | refine Qf ?_ aA) | exact zg_)) : q := h g g0
theorem K7 {p q : Prop} (g : p) (h : p → q := by intro zg_; repeat (first | (with_reducible first | exact zg_ | apply Ql.set_ | apply Z5 | apply Zr | apply Z6) | exact zg_)) : q := h g
set_option maxHeartbeats 8000000 in
set_option maxRecDepth 100000 in
theorem Zd.calls (g : Nat) (aG : List Int) (aJ : Int) (aK : Int) (a1 : ByteArray) (A2 : Option Addr) (c2 : Nat) (l2 : List ByteArray) (r1 : ByteArray) (r2 : Int) (r3 : Int) (w0 w : World) (hI : Qc w0 w g aG aJ aK) (hB : Below w0.heap.size w0 w) (hr2 : Kd.C Kd.string w A2 l2.length l2) (hc2 : l2.length ≤ c2) (hf2 : ∀ ad, A2 = some ad → 0 < l2.length → ad.block ≠ g) (h : Zd.f aG aJ aK a1 l2 = some (r1, r2, r3)) :
  Calls Tryz.prog 72 #[.pointer (some ⟨g, 0, none⟩), .string a1, .slice A2 l2.length c2] w fun e w' => e = .returned (.string r1) ∧ Qc w0 w' g aG r2 r3 ∧ Below w0.heap.size w0 w' ∧ Ql w w' g none := by
 have HR2 := Qa.mk hr2
 have bS := Qa.mk hc2
 clear hr2 hc2
 have HI0 := Qa.mk hI
 have HK := Qa.mk (Ql.refl w g none)
 have HL := Qa.mk hB.size
 clear hI
 have HW0 := Qa.mk hB.size
 have HB := Qa.mk hB
 clear hB
 have H := h
 unfold Zd.f at H
 clear h
 obtain ⟨⟨aD, aH, aI⟩, A4, H⟩ := zO H
 dsimp only at H
 obtain ⟨⟨aT, aN, aQ⟩, A5, H⟩ := zO H
 dsimp only at H
 replace H := Zc H
 rcases H with ⟨aZ, bA, H⟩ | ⟨c6, aZ, bA, H⟩
 ·replace H := Xt H
  rcases H with ⟨bT, bU, H⟩ | ⟨c7, H⟩
  ·replace H := Xt H
   rcases H with ⟨bV, bW, H⟩ | ⟨c8, H⟩
   ·obtain ⟨⟨aM, bB, bC⟩, A9, H⟩ := zO H
    dsimp only at H
    replace H := Yj H
    rcases H with ⟨c10, bE, bF, H⟩ | ⟨c10, H⟩
    ·try have bG : (9223372036854775807 < (a1.extract 0 (aD : Int).toNat).size + aM.size) = False := eq_false (Nat.not_lt.2 c10)
     have bH : (9223372036854775807 < aD.toNat + aM.size) = False := by
      have q_ : (aD ≤ (a1.size : Int)) = True := by assumption
      have bX := of_eq_true q_
      have bD := c10
      simp only [ByteArray.size_extract] at bD
      exact eq_false (by omega)
     have bI := eq_true (zA : 0 ≤ aD)
     have bJ := eq_true (zA : aD ≤ (a1.size : Int))
     replace H := Yj H
     rcases H with ⟨c13, bK, bL, H⟩ | ⟨c13, H⟩
     ·try have bM : (9223372036854775807 < (a1.extract 0 (aD : Int).toNat).size + aM.size + (a1.extract (aD : Int).toNat a1.size).size) = False := eq_false (Nat.not_lt.2 c13)
      have bN : (9223372036854775807 < aD.toNat + aM.size + (a1.size - aD.toNat)) = False := by
       have q_ : (aD ≤ (a1.size : Int)) = True := by assumption
       have bX := of_eq_true q_
       have bD := c13
       simp only [ByteArray.size_extract] at bD
       exact eq_false (by omega)
      simp only [Option.some.injEq, Prod.mk.injEq] at H
      obtain ⟨rfl, rfl, rfl⟩ := H
      go_enter Tryz.func72, Tryz.ntmps72
      try go_wp2_with (first | ((with_reducible refine Qd (f := 51) rfl ?_); refine zD (some 12) Tryz.func51 _ ((Q5.calls g aG aJ aK (wrap64 ((a1.size : Int) + 1)) aD aH aI w0 _ ?aA ?aC A4.out).mono ?_); (case aA => exact (Uq HI0.out)); (case aC => exact (jA9 HB.out (Qc.ge HI0.out))); rintro e bZ ⟨rfl, hi, hb, hk⟩; refine ⟨_, rfl, ?_⟩; replace HK := Qa.mk (Ql.trans (K7 HK.out) hk (.inl rfl)); replace HI0 := Qa.mk (hi); replace HB := Qa.mk (hb); (try clear hb); (try clear hk); (try clear hi)) | ((with_reducible refine Qd (f := 51) rfl ?_); refine zD (some 14) Tryz.func51 _ ((Q5.calls g aG aH aI 6 aT aN aQ w0 _ ?aA ?aC A5.out).mono ?_); (case aA => exact (Uq HI0.out)); (case aC => exact (jA9 HB.out (Qc.ge HI0.out))); rintro e bY ⟨rfl, hi, hb, hk⟩; refine ⟨_, rfl, ?_⟩; replace HK := Qa.mk (Ql.trans (K7 HK.out) hk (.inl rfl)); replace HI0 := Qa.mk (hi); replace HB := Qa.mk (hb); (try clear hb); (try clear hk); (try clear hi)))
      replace HI0 := Qa.mk (Qc.drew HI0.out)
      replace HK := Qa.mk (Zr HK.out)
      replace HB := Qa.mk (Qo HB.out)
      refine Xe (n := 12) (S := fun w' => True) (ds := []) #[false, false, false, false, false, false, false, false, false, false, false, false] (by kernel_rfl) rfl rfl trivial (fun hHeld => ?_); refine J6 Zd.tab4 Zd.bits4 (fun HT_ HW_ => ?_)
      generalize bY.drew = w16 at HI0 HK HB hHeld ⊢
      refine zP 0 (some 17) rfl rfl ?_
      refine zP 1 (some 18) rfl rfl ?_
      refine zP 2 (some 19) rfl rfl ?_
      refine zP 3 (some 20) rfl rfl ?_
      refine zP 4 (some 21) rfl rfl ?_
      refine zP 7 (some 24) rfl rfl ?_
      refine zP 8 (some 25) rfl rfl ?_
      refine zP 9 (some 26) rfl rfl ?_
      refine zU 5 (some 22) rfl rfl (fun K hK => ?_)
      refine X0 Tryz.func101 (by kernel_rfl) rfl #[.pointer (some ⟨g, 0, none⟩), .slice A2 l2.length c2] (by rfl) rfl rfl zM ?_
      with_reducible refine (Xk.calls g aG aN aQ _ _ l2 aM bB bC w0 _ ?aA ?aC ?aU ?aV ?aW A9.out).mono ?_
      (case aA => exact (Uq HI0.out))
      (case aC => exact (jA9 HB.out (Qc.ge HI0.out)))
      (case aU => exact Kd.C_keep (⟨#[]⟩ : ByteArray) HR2.out (K7 HK.out) hf2)
      (case aV => exact bS.out)
      (case aW => exact hf2)
      rintro e cB ⟨rfl, hi, hb, hk⟩
      refine ⟨_, rfl, ?_⟩
      replace HK := Qa.mk (Ql.trans (K7 HK.out) hk (.inl rfl))
      replace HI0 := Qa.mk (hi)
      replace HB := Qa.mk (hb)
      (try clear hb)
      (try clear hk)
      (try clear hi)
      refine hK.out _ _ trivial (fun hHeld => ?_)
      clear hK K
      refine zN ?_
      refine zP 6 (some 23) rfl rfl ?_
      refine zP 10 (some 27) rfl rfl ?_
      refine zP 11 (some 6) rfl rfl ?_
      refine Yp (Zu HT_.out (by kernel_rfl)) ?_
      try go_wp2
      go_ret
      exact ⟨zE, (Uq HI0.out), zG (Qc.ge HI0.out), (K7 HK.out)⟩
     exact absurd H (by simp)
    exact absurd H (by simp)
   exact absurd H (by simp)
  exact absurd H (by simp)
 replace H := Zc H
 rcases H with ⟨aX, aY, H⟩ | ⟨c18, aX, aY, H⟩
 ·replace H := Xt H
  rcases H with ⟨bO, bP, H⟩ | ⟨c19, H⟩
  ·replace H := Xt H
   rcases H with ⟨bQ, bR, H⟩ | ⟨c20, H⟩
   ·simp only [Option.some.injEq, Prod.mk.injEq] at H
    obtain ⟨rfl, rfl, rfl⟩ := H
    go_enter Tryz.func72, Tryz.ntmps72
    go_wp2_with (first | ((with_reducible refine Qd (f := 51) rfl ?_); refine zD (some 12) Tryz.func51 _ ((Q5.calls g aG aJ aK (wrap64 ((a1.size : Int) + 1)) aD aH aI w0 _ ?aA ?aC A4.out).mono ?_); (case aA => exact (Uq HI0.out)); (case aC => exact (jA9 HB.out (Qc.ge HI0.out))); rintro e cK ⟨rfl, hi, hb, hk⟩; refine ⟨_, rfl, ?_⟩; replace HK := Qa.mk (Ql.trans (K7 HK.out) hk (.inl rfl)); replace HI0 := Qa.mk (hi); replace HB := Qa.mk (hb); (try clear hb); (try clear hk); (try clear hi)) | ((with_reducible refine Qd (f := 51) rfl ?_); refine zD (some 14) Tryz.func51 _ ((Q5.calls g aG aH aI 6 aT aN aQ w0 _ ?aA ?aC A5.out).mono ?_); (case aA => exact (Uq HI0.out)); (case aC => exact (jA9 HB.out (Qc.ge HI0.out))); rintro e cO ⟨rfl, hi, hb, hk⟩; refine ⟨_, rfl, ?_⟩; replace HK := Qa.mk (Ql.trans (K7 HK.out) hk (.inl rfl)); replace HI0 := Qa.mk (hi); replace HB := Qa.mk (hb); (try clear hb); (try clear hk); (try clear hi)))
    go_ret
    exact ⟨zE, (Uq HI0.out), zG (Qc.ge HI0.out), (K7 HK.out)⟩
   exact absurd H (by simp)
  exact absurd H (by simp)
 simp only [Option.some.injEq, Prod.mk.injEq] at H
 obtain ⟨rfl, rfl, rfl⟩ := H
 go_enter Tryz.func72, Tryz.ntmps72
 go_wp2_with (first | ((with_reducible refine Qd (f := 51) rfl ?_); refine zD (some 12) Tryz.func51 _ ((Q5.calls g aG aJ aK (wrap64 ((a1.size : Int) + 1)) aD aH aI w0 _ ?aA ?aC A4.out).mono ?_); (case aA => exact (Uq HI0.out)); (case aC => exact (jA9 HB.out (Qc.ge HI0.out))); rintro e cZ ⟨rfl, hi, hb, hk⟩; refine ⟨_, rfl, ?_⟩; replace HK := Qa.mk (Ql.trans (K7 HK.out) hk (.inl rfl)); replace HI0 := Qa.mk (hi); replace HB := Qa.mk (hb); (try clear hb); (try clear hk); (try clear hi)) | ((with_reducible refine Qd (f := 51) rfl ?_); refine zD (some 14) Tryz.func51 _ ((Q5.calls g aG aH aI 6 aT aN aQ w0 _ ?aA ?aC A5.out).mono ?_); (case aA => exact (Uq HI0.out)); (case aC => exact (jA9 HB.out (Qc.ge HI0.out))); rintro e dA ⟨rfl, hi, hb, hk⟩; refine ⟨_, rfl, ?_⟩; replace HK := Qa.mk (Ql.trans (K7 HK.out) hk (.inl rfl)); replace HI0 := Qa.mk (hi); replace HB := Qa.mk (hb); (try clear hb); (try clear hk); (try clear hi)))
 go_ret
 exact ⟨zE, (Uq HI0.out), zG (Qc.ge HI0.out), (K7 HK.out)⟩
def Zv.f (k : Nat) (l0 : List Int) : Option (ByteArray) := (J4.f k l0).bind fun aA => ((Jp.f k aA.1 aA.2.1 aA.2.2).bind fun aC => ((Jy.f k aC.1 aC.2.1).bind fun aG => ((Zd.f aA.1 aC.2.2.1 aC.2.2.2 aG (([(⟨#[58]⟩ : ByteArray), (⟨#[43]⟩ : ByteArray), (⟨#[45]⟩ : ByteArray), (⟨#[51]⟩ : ByteArray), (⟨#[52]⟩ : ByteArray)] : List ByteArray))).bind fun aD => (some aD.1))))
theorem jK2 {p q : Prop} (g : p) (h : p → q := by intro zg_; repeat (first | (with_reducible first | exact zg_ | apply Qv | apply Qr | apply Qo) | exact zg_)) : q := h g
theorem jC6 {p q : Prop} (g : p) (h : p → q := by intro zg_; repeat (first | (with_reducible first | exact zg_ | apply Qc.alloc | apply Qc.drewN | apply Qc.drew | apply Qc.set_1 | apply Qc.set_2) | exact zg_)) : q := h g
theorem jJq {p q p0 : Prop} (g : p) (g0 : p0) (h : p → p0 → q := by intro zg_ aA; repeat (first | (with_reducible first | exact zg_ | apply Qv | apply Qr | apply Qo | refine Qf ?_ aA) | exact zg_)) : q := h g g0
set_option maxHeartbeats 8000000 in
set_option maxRecDepth 100000 in
theorem Zv.calls (k : Nat) (A0 : Option Addr) (c0 : Nat) (l0 : List Int) (r : ByteArray) (w : World) (hr0 : Kd.C (Kd.int .u8) w A0 l0.length l0) (hc0 : l0.length ≤ c0) (h : Zv.f k l0 = some r) :
  Calls Tryz.prog 19 #[.slice A0 l0.length c0] w fun e w' => e = .returned (.string r) ∧ Below w.heap.size w w' := by
 have bL := Qa.mk hr0
 have bM := Qa.mk hc0
 clear hr0 hc0
 have HB := Qa.mk (Below.refl w.heap.size w)
 have H := h
 unfold Zv.f at H
 clear h
 obtain ⟨⟨aJ, aV, aW⟩, A2, H⟩ := zO H
 dsimp only at H
 obtain ⟨⟨aX, aY, aQ, aT⟩, A3, H⟩ := zO H
 dsimp only at H
 obtain ⟨aU, A4, H⟩ := zO H
 generalize aM : (([(⟨#[58]⟩ : ByteArray), (⟨#[43]⟩ : ByteArray), (⟨#[45]⟩ : ByteArray), (⟨#[51]⟩ : ByteArray), (⟨#[52]⟩ : ByteArray)] : List ByteArray) : List ByteArray) = aZ at H
 have aN := Qa.mk aM.symm
 clear aM
 obtain ⟨⟨bA, bF, bG⟩, A5, H⟩ := zO H
 replace H : (some bA) = some r := H
 obtain rfl := Option.some.inj H
 go_enter Tryz.func19, Tryz.ntmps19
 go_wp2_with (first | ((with_reducible refine Qd (f := 49) rfl ?_); refine zD (some 5) Tryz.func49 #[.slice A0 l0.length c0] ((J4.calls k _ _ l0 aJ aV aW w _ ?aD ?aG ?aH A2.out).mono ?_); (case aD => exact (jK2 HB.out)); (case aG => exact bL.out); (case aH => exact bM.out); rintro e w6 ⟨aK, rfl, hi, hb, hb2⟩; refine ⟨_, rfl, ?_⟩; have aA := Qa.mk (hi); replace HB := Qa.mk (hb); (try clear hb); (try clear hb2); (try clear hi)) | ((with_reducible refine Qd (f := 73) rfl ?_); refine zD (some 8) Tryz.func73 _ ((Jp.calls k aK aJ aV aW aX aY aQ aT w _ ?aD ?aG A3.out).mono ?_); (case aD => exact (jC6 aA.out)); (case aG => exact (jJq HB.out (Qc.ge aA.out))); rintro e w7 ⟨rfl, hi, hb, hk⟩; refine ⟨_, rfl, ?_⟩; replace aA := Qa.mk (hi); replace HB := Qa.mk (hb); (try clear hb); (try clear hk); (try clear hi)) | ((with_reducible refine Qd (f := 27) rfl ?_); refine zD (some 9) Tryz.func27 _ ((Jy.calls k aX aY aU _ A4.out).mono ?_); rintro e w8 ⟨rfl, hb⟩; refine ⟨_, rfl, ?_⟩; have bB := Qa.mk (Qc.below (jC6 aA.out) hb); have bC := Qa.mk (Qg (zG (Qc.ge aA.out)) hb); clear aA; clear HB; have aA := bB; have HB := bC; clear bB bC; (try clear hb)) | ((with_reducible refine Qm (N := 10) rfl ?_); refine Kd.R_lit Kd.string _ 9 ?hg (N := 10) ?hd (xs := ([(⟨#[58]⟩ : ByteArray), (⟨#[43]⟩ : ByteArray), (⟨#[45]⟩ : ByteArray), (⟨#[51]⟩ : ByteArray), (⟨#[52]⟩ : ByteArray)] : List ByteArray)) (inner := [.string (⟨#[58]⟩ : ByteArray), .string (⟨#[43]⟩ : ByteArray), .string (⟨#[45]⟩ : ByteArray), .string (⟨#[51]⟩ : ByteArray), .string (⟨#[52]⟩ : ByteArray)]) (ok := fun _ => True) (okp := fun _ => True) ?hr ?hp (fun _ hk => hk) trivial (Below.refl _ _) (Nat.le_refl _) (by simp) ?_; (case hd => rfl); (case hg => rfl); (case hr => first | (go_simp; done) | (go_simp; rfl)); (case hp => exact (Z0.one (show Kd.M Kd.string _ _ _ (⟨#[58]⟩ : ByteArray) [.string (⟨#[58]⟩ : ByteArray)] from rfl) (Z0.one (show Kd.M Kd.string _ _ _ (⟨#[43]⟩ : ByteArray) [.string (⟨#[43]⟩ : ByteArray)] from rfl) (Z0.one (show Kd.M Kd.string _ _ _ (⟨#[45]⟩ : ByteArray) [.string (⟨#[45]⟩ : ByteArray)] from rfl) (Z0.one (show Kd.M Kd.string _ _ _ (⟨#[51]⟩ : ByteArray) [.string (⟨#[51]⟩ : ByteArray)] from rfl) (Z0.one (show Kd.M Kd.string _ _ _ (⟨#[52]⟩ : ByteArray) [.string (⟨#[52]⟩ : ByteArray)] from rfl) (Z0.none _ _))))))); intro bN w9 aI hb hg_ hnew_; clear hg_ hnew_; (first | rw [← aN.out] at aI | (simp only [Int.reduceToNat] at aI; rw [← aN.out] at aI)); have bB := Qa.mk (Kd.R_lower aI (Q6 (zG (Qc.ge aA.out)))); have bC := Qa.mk (Qc.below (jC6 aA.out) hb); have bK := Qa.mk (Qg (zG (Qc.ge aA.out)) hb); clear aA; clear HB; have aC := bB; have aA := bC; have HB := bK; clear bB bC bK; clear hb aI; obtain ⟨bH, bI, bJ⟩ := Kd.R_slice aC.out; subst bJ) | ((with_reducible refine Qd (f := 72) rfl ?_); refine zD (some 11) Tryz.func72 #[.pointer (some ⟨aK, 0, none⟩), .string aU, .slice bH aZ.length bI] ((Zd.calls aK aJ aQ aT aU _ _ aZ bA bF bG w _ ?aD ?aG ?aH ?bD ?bE A5.out).mono ?_); (case aD => exact (jC6 aA.out)); (case aG => exact (jJq HB.out (Qc.ge aA.out))); (case aH => exact zc ((Kd.R_reads' aC.out).2.2)); (case bD => exact (Kd.R_reads' aC.out).2.1); (case bE => exact K5 (Qc.own_ne aA.out aC.out (by decide))); rintro e bO ⟨rfl, hi, hb, hk⟩; refine ⟨_, rfl, ?_⟩; replace aC := Qa.mk (Kd.R_mono (Kd.R_keep (Qc.apart (show Qc w _ aK aJ aQ aT from (jC6 aA.out)) (zR aC.out) (by decide)) hk (fun _ h => h.2)) (fun _ h => h.1)); replace aA := Qa.mk (hi); replace HB := Qa.mk (hb); (try clear hb); (try clear hk); (try clear hi)))
 go_ret
 exact ⟨zE, zG (Qc.ge aA.out)⟩
def Jq.l0 : Nat → ByteArray → Int → List ByteArray → Int → Int → Option (List ByteArray)
 | 0, _, _, _, _, _ => none
 | k + 1, x0, x1, x5, x6, x7 => if x7 ≤ (x0.size : Int) then (if x7 = (x0.size : Int) then (if 0 ≤ x6 then (if x6 ≤ x7 then (if x5.length < 8796093022208 then (Jq.l0 k x0 x1 (x5 ++ [x0.extract (x6 : Int).toNat (x7 : Int).toNat]) (wrap64 (x7 + 1)) (wrap64 (x7 + 1))) else (none)) else (none)) else (none)) else (if 0 ≤ x7 then (if x7 < (x0.size : Int) then (if (bt x0 x7) = x1 then (if 0 ≤ x6 then (if x6 ≤ x7 then (if x5.length < 8796093022208 then (Jq.l0 k x0 x1 (x5 ++ [x0.extract (x6 : Int).toNat (x7 : Int).toNat]) (wrap64 (x7 + 1)) (wrap64 (x7 + 1))) else (none)) else (none)) else (none)) else (Jq.l0 k x0 x1 x5 x6 (wrap64 (x7 + 1)))) else (none)) else (none))) else (some x5)
def Jq.f (k : Nat) (a0 : ByteArray) (a1 : Int) : Option (List ByteArray) := Jq.l0 k a0 a1 ([] : List ByteArray) 0 0
set_option maxHeartbeats 8000000 in
set_option maxRecDepth 100000 in
theorem Jq.calls (k : Nat) (a0 : ByteArray) (a1 : Int) (r : List ByteArray) (w : World) (h : Jq.f k a0 a1 = some r) :
  Calls Tryz.prog 74 #[.string a0, .int .u8 a1] w fun e w' => ∃ bE : Value, e = .returned (bE) ∧ Kd.R Kd.string 9 w' w.heap.size (fun _ => True) bE r ∧ Below w.heap.size w w' := by
 have HB := Qa.mk (Below.refl w.heap.size w)
 have H := h
 unfold Jq.f at H
 clear h
 have H' := Qa.mk H; clear H
 go_enter Tryz.func74, Tryz.ntmps74
 go_wp2
 go_loopg [5, 6, 7] k (fun kq v5 v6 v7 w' => ∃ (aD : List ByteArray) (aC : Int) (aA : Int), v6 = .int .i64 aC ∧ v7 = .int .i64 aA ∧ Qa (Jq.l0 kq a0 a1 aD aC aA = some r) ∧ Qa (kq ≤ k) ∧ Qa (Kd.R Kd.string 9 w' w.heap.size (fun _ => True) v5 aD) ∧ Qa (Below w.heap.size w w'))
 case atStart => exact ⟨(([] : List ByteArray)), (0), (0), zF, zF, H', ⟨Nat.le_refl _⟩, ⟨by first | exact Kd.R_nil _ _ _ _ _ | exact Kd.N_nil _ _ _ _ _ | exact Kd.V_nil _ _ _ _ _ | exact Kd.Q_nil _ _ _ _ _ | exact Kd.S_nil _ _ _ _ _⟩, ⟨zB⟩⟩
 case round =>
 clear H'
 obtain ⟨aD, aC, aA, rfl, rfl, HA, aJ, aG, HB⟩ := hrel
 cases gk with
 | zero => exact absurd HA.out (by simp [Jq.l0])
 | succ k1 =>
 have H := HA.out
 clear HA
 simp only [Jq.l0] at H
 replace H := Xr H
 rcases H with ⟨aX, H⟩ | ⟨aX, H⟩
 ·replace H := Zc H
  rcases H with ⟨aY, aZ, H⟩ | ⟨c4, aY, aZ, H⟩
  ·replace H := Xt H
   rcases H with ⟨bM, bN, H⟩ | ⟨c5, H⟩
   ·replace H := Xt H
    rcases H with ⟨bO, bP, H⟩ | ⟨c6, H⟩
    ·have bQ := eq_true (zA : aA ≤ (a0.size : Int))
     replace H := X8 H
     rcases H with ⟨c8, H⟩ | ⟨c8, H⟩
     ·have bA := Qa.mk c8
      clear c8
      generalize aH : (aD ++ [a0.extract (aC : Int).toNat (aA : Int).toNat] : List ByteArray) = bB at H
      have aK := Qa.mk aH.symm
      clear aH
      have H' := Qa.mk H; clear H
      go_wp2_with (first | ((with_reducible refine Zy (b := .append) (xs := #[.tmp 25, .tmp 30]) rfl ?_); at_builtin; refine Kd.R_append Kd.string (w0 := w) w.heap.size rfl (.tmp 25) (.tmp 30) 93 9 (.string ⟨#[]⟩) 16 rfl Tryz.underlying93 jIi rfl (by decide) (by omega) u5 aD (a0.extract (aC : Int).toNat (aA : Int).toNat) [.string (a0.extract (aC : Int).toNat (aA : Int).toNat)] (fun _ => True) (fun _ => False) rfl rfl ?aP (fun _ hk => hk.elim) ?aF ?aO ?aB ?aS ?aL ?_; (case aP => exact rfl); (case aB => exact zB); (case aF => exact (fun _ _ => trivial)); (case aO => exact (zR aG.out)); (case aS => exact (Q6 zB)); (case aL => have := bA.out; omega); intro bR w9 ho hb hg hat; rw [← aK.out] at ho; have aM := Qa.mk (ho); replace HB := Qa.mk (hb); clear aG; clear ho hb hg hat))
      go_roundg k1
      case measure => have := aJ.out; omega
      case rel => exact ⟨(bB), (wrap64 (aA + 1)), (wrap64 (aA + 1)), zF, zF, H', ⟨by have := aJ.out; omega⟩, ⟨zR aM.out⟩, ⟨zB⟩⟩
     exact absurd H (by simp)
    exact absurd H (by simp)
   exact absurd H (by simp)
  replace H := J5 H
  rcases H with ⟨bF, H⟩ | ⟨c10, H⟩
  ·replace H := J5 H
   rcases H with ⟨bG, H⟩ | ⟨c11, H⟩
   ·replace H := Zc H
    rcases H with ⟨aN, aQ, H⟩ | ⟨c13, aN, aQ, H⟩
    ·replace H := Xt H
     rcases H with ⟨bH, bI, H⟩ | ⟨c14, H⟩
     ·replace H := Xt H
      rcases H with ⟨bJ, bK, H⟩ | ⟨c15, H⟩
      ·have bL := eq_true (zA : aA ≤ (a0.size : Int))
       replace H := X8 H
       rcases H with ⟨c17, H⟩ | ⟨c17, H⟩
       ·have aT := Qa.mk c17
        clear c17
        generalize aI : (aD ++ [a0.extract (aC : Int).toNat (aA : Int).toNat] : List ByteArray) = bC at H
        have aU := Qa.mk aI.symm
        clear aI
        have H' := Qa.mk H; clear H
        have p12 : 0 ≤ (aA : Int) := zA
        have aV : aA < (a0.size : Int) := zA
        have bD := Yh a0 aA
        replace p12 := eq_true p12
        replace aV := eq_true aV
        go_wp2_with (first | ((with_reducible refine Zy (b := .append) (xs := #[.tmp 25, .tmp 30]) rfl ?_); at_builtin; refine Kd.R_append Kd.string (w0 := w) w.heap.size rfl (.tmp 25) (.tmp 30) 93 9 (.string ⟨#[]⟩) 16 rfl Tryz.underlying93 jIi rfl (by decide) (by omega) u5 aD (a0.extract (aC : Int).toNat (aA : Int).toNat) [.string (a0.extract (aC : Int).toNat (aA : Int).toNat)] (fun _ => True) (fun _ => False) rfl rfl ?aP (fun _ hk => hk.elim) ?aF ?aO ?aB ?aS ?aL ?_; (case aP => exact rfl); (case aB => exact zB); (case aF => exact (fun _ _ => trivial)); (case aO => exact (zR aG.out)); (case aS => exact (Q6 zB)); (case aL => have := aT.out; omega); intro bS bT ho hb hg hat; rw [← aU.out] at ho; have aW := Qa.mk (ho); replace HB := Qa.mk (hb); clear aG; clear ho hb hg hat))
        go_roundg k1
        case measure => have := aJ.out; omega
        case rel => exact ⟨(bC), (wrap64 (aA + 1)), (wrap64 (aA + 1)), zF, zF, H', ⟨by have := aJ.out; omega⟩, ⟨zR aW.out⟩, ⟨zB⟩⟩
       exact absurd H (by simp)
      exact absurd H (by simp)
     exact absurd H (by simp)
    have H' := Qa.mk H; clear H
    have p12 : 0 ≤ (aA : Int) := zA
    have aV : aA < (a0.size : Int) := zA
    have bD := Yh a0 aA
    replace p12 := eq_true p12
    replace aV := eq_true aV
    go_wp2
    go_roundg k1
    case measure => have := aJ.out; omega
    case rel => exact ⟨(aD), (aC), (wrap64 (aA + 1)), zF, zF, H', ⟨by have := aJ.out; omega⟩, ⟨zR aG.out⟩, ⟨zB⟩⟩
   exact absurd H (by simp)
  exact absurd H (by simp)
 obtain rfl := Option.some.inj H
 go_wp2
 go_ret
 exact ⟨_, zE, zR aG.out, zB⟩
def Xc.f (a0 : ByteArray) : Option (Int × Bool) := (Yo.f a0 0 999999).bind fun aA => (some (aA.1, aA.2))
theorem jMj {p q : Prop} (g : p) (h : p → q := by intro zg_; repeat (first | (with_reducible first | exact zg_ | apply Qv | apply Qr | apply Qo) | exact zg_)) : q := h g
set_option maxHeartbeats 8000000 in
set_option maxRecDepth 100000 in
theorem Xc.calls (a0 : ByteArray) (r1 : Int) (r2 : Bool) (w : World) (h : Xc.f a0 = some (r1, r2)) (hT : T2 w) :
  Calls Tryz.prog 75 #[.string a0] w fun e w' => e = .returned (.tuple #[.int .i64 r1, .bool r2]) ∧ Below w.heap.size w w' := by
 have HT := Qa.mk hT
 clear hT
 have HB := Qa.mk (Below.refl w.heap.size w)
 have H := h
 unfold Xc.f at H
 clear h
 obtain ⟨⟨aA, aC⟩, A2, H⟩ := zO H
 replace H : (some (aA, aC)) = some (r1, r2) := H
 simp only [Option.some.injEq, Prod.mk.injEq] at H
 obtain ⟨rfl, rfl⟩ := H
 go_enter Tryz.func75, Tryz.ntmps75
 go_wp2_with (first | ((with_reducible refine Qd (f := 105) rfl ?_); refine zD (some 5) Tryz.func105 _ ((Yo.calls a0 0 999999 aA aC _ A2.out (HT.out.below ?sideT)).mono ?_); (case sideT => exact (jMj HB.out)); rintro e w3 ⟨rfl, hb⟩; refine ⟨_, rfl, ?_⟩; replace HB := zX hb; (try clear hb)))
 go_ret2
 exact ⟨zE, zB⟩
def Jv.j0 : Nat → List ByteArray → Int → Bool → Option (Int × ByteArray × Bool)
 | 0, _, _, _ => none
 | k + 1, x4, x5, aC => if aC = true then (some (0, (⟨#[]⟩ : ByteArray), false)) else (if 1 < (x4.length : Int) then ((Qw.f k x5 (Vj ByteArray.empty x4 1)).bind fun aA => (if aA = true then (some (x5, Vj ByteArray.empty x4 1, true)) else (some (0, (⟨#[]⟩ : ByteArray), false)))) else (none))
def Jv.f (k : Nat) (a0 : ByteArray) : Option (Int × ByteArray × Bool) := (Jq.f k a0 58).bind fun aA => (if 0 < (aA.length : Int) then ((Xc.f (Vj ByteArray.empty aA 0)).bind fun aC => (if aC.2 = true then (Jv.j0 k aA aC.1 ((aA.length : Int) != 2)) else (Jv.j0 k aA aC.1 true))) else (none))
theorem jLy {p q p0 : Prop} (g : p) (g0 : p0) (h : p → p0 → q := by intro zg_ aA; repeat (first | (with_reducible first | exact zg_ | apply Qv | apply Qr | apply Qo | refine Qf ?_ aA) | exact zg_)) : q := h g g0
set_option maxHeartbeats 8000000 in
set_option maxRecDepth 100000 in
theorem Jv.calls (k : Nat) (a0 : ByteArray) (r1 : Int) (r2 : ByteArray) (r3 : Bool) (w : World) (h : Jv.f k a0 = some (r1, r2, r3)) (hT : T2 w) :
  Calls Tryz.prog 20 #[.string a0] w fun e w' => e = .returned (.tuple #[.agg #[.int .i64 r1, .string r2], .bool r3]) ∧ Below w.heap.size w w' := by
 have HT := Qa.mk hT
 clear hT
 have dQ := Tryz.underlying25
 have HB := Qa.mk (Below.refl w.heap.size w)
 have H := h
 unfold Jv.f at H
 clear h
 obtain ⟨aG, A2, H⟩ := zO H
 replace H := V3 H
 rcases H with ⟨c3, dB, H⟩ | ⟨c3, H⟩
 ·have dC : decide (0 < aG.length) = true := decide_eq_true (by omega)
  clear c3
  obtain ⟨⟨aT, bE⟩, A4, H⟩ := zO H
  dsimp only at H
  have dD := Qa.mk H
  clear H
  go_enter Tryz.func20, Tryz.ntmps20
  go_upto_region 3 with (first | ((with_reducible refine Qm (N := 2) rfl ?_); (try (refine Zq (by rfl) ?_; dsimp only)); refine zBx (N := 2) #[.int .i64 0, .string (⟨#[]⟩ : ByteArray)] 25 ?_; intro aN hg w6 hbox hb; have aA := Qa.mk (hbox); have dG := zS hg; have aD := zS hg; replace HB := zX hb; clear hb hbox hg) | ((with_reducible refine Qd (f := 74) rfl ?_); refine zD (some 9) Tryz.func74 _ ((Jq.calls k a0 58 aG _ A2.out).mono ?_); rintro e w7 ⟨dR, rfl, ho0, hb⟩; refine ⟨_, rfl, ?_⟩; have aQ := Qa.mk (Kd.R_lower ho0 (Q6 (zG aD.out))); replace aA := zV aA.out hb; replace HB := zX1 aD.out hb; (try clear hb); (try clear ho0); obtain ⟨dV, dS, dU⟩ := Kd.R_slice aQ.out; subst dU; have bB : 0 ≤ (0 : Int) := (by omega); have bC : 0 < (aG.length : Int) := zA; obtain ⟨aZ, dE, aU⟩ := Kd.at_string (Kd.R_reads' aQ.out).2.2 0 bB bC; cases dE; have dH : (0 < aG.length) = True := eq_true (by omega); (try rw [show ((0 : Int)).toNat = 0 from rfl] at aU); (try rw [Addr.add_zero'] at aU); replace bB := eq_true bB; replace bC := eq_true bC) | ((with_reducible refine Qd (f := 75) rfl ?_); refine zD (some 14) Tryz.func75 _ ((Xc.calls (Vj ByteArray.empty aG 0) aT bE _ A4.out (HT.out.below ?sideT)).mono ?_); (case sideT => exact (jLy HB.out aD.out)); rintro e w9 ⟨rfl, hb⟩; refine ⟨_, rfl, ?_⟩; replace aQ := zW aQ.out hb; replace aA := zV aA.out hb; replace HB := zX1 aD.out hb; (try clear hb)))
  (try simp only [Act.put, List.setIfInBounds_toArray, List.set_cons_zero, List.set_cons_succ])
  go_cut [23] (fun v23 wc => ∃ (kq : Nat) (aY : Bool), v23 = .bool aY ∧ Qa (Jv.j0 kq aG aT aY = some (r1, r2, r3)) ∧ Qa (kq ≤ k) ∧ Qa (Kd.R Kd.string 9 wc w.heap.size (fun _ => True) (.slice (some aZ) aG.length dS) aG) ∧ Qa (wc.heap[aN]? = some (.cells #[.int .i64 0, .string (⟨#[]⟩ : ByteArray)] 25 (0, 0))) ∧ Qa (Below w.heap.size w wc))
  case first =>
   have H := dD.out
   clear dD
   by_cases c10 : bE = true
   ·subst c10
    replace H := (if_pos rfl).symm.trans H
    have H' := Qa.mk H; clear H
    go_wp2
    go_meet
    case rel => exact ⟨_, (((aG.length : Int) != 2)), zF, H', ⟨by first | omega | exact Nat.le_refl _⟩, ⟨zR aQ.out⟩, ⟨zK aA.out⟩, ⟨zG aD.out⟩⟩
   replace c10 := Bool.eq_false_iff.mpr c10
   subst c10
   replace H := (if_neg zFf).symm.trans H
   have H' := Qa.mk H; clear H
   go_wp2
   go_meet
   case rel => exact ⟨_, (true), zF, H', ⟨by first | omega | exact Nat.le_refl _⟩, ⟨zR aQ.out⟩, ⟨zK aA.out⟩, ⟨zG aD.out⟩⟩
  case rest =>
  clear dD
  try clear c3
  try clear dB
  try clear dC
  try clear aU
  try clear bB
  try clear bC
  obtain ⟨kq, aY, rfl, HA, dW, aM, aA, HB⟩ := hcut
  cases kq with
  | zero => exact absurd HA.out (by simp [Jv.j0])
  | succ dI =>
  have H := HA.out
  clear HA
  simp only [Jv.j0] at H
  by_cases c11 : aY = true
  ·subst c11
   replace H := (if_pos rfl).symm.trans H
   simp only [Option.some.injEq, Prod.mk.injEq] at H
   obtain ⟨rfl, rfl, rfl⟩ := H
   obtain ⟨bH, bI, bJ, bK⟩ := zq2 aA.out
   go_wp2
   refine bodyPost_ret (J7 rfl _ _ aN 25 #[.int .i64 0, .string (⟨#[]⟩ : ByteArray)] (0, 0) _ rfl (zk0 aA.out) Tryz.underlying25 rfl (by kernel_rfl)) rfl ?_
   exact ⟨zE, zG aD.out⟩
  replace c11 := Bool.eq_false_iff.mpr c11
  subst c11
  replace H := (if_neg zFf).symm.trans H
  replace H := V3 H
  rcases H with ⟨c13, dJ, H⟩ | ⟨c13, H⟩
  ·have dK : decide (1 < aG.length) = true := decide_eq_true (by omega)
   clear c13
   obtain ⟨dF, dL, H⟩ := zO H
   by_cases c15 : dF = true
   ·subst c15
    replace H := (if_pos rfl).symm.trans H
    simp only [Option.some.injEq, Prod.mk.injEq] at H
    obtain ⟨rfl, rfl, rfl⟩ := H
    have aW : 0 ≤ (1 : Int) := (by omega)
    have aX : 1 < (aG.length : Int) := zA
    obtain ⟨bA, bD, aI⟩ := Kd.at_string (Kd.R_reads' aM.out).2.2 1 aW aX
    obtain rfl : aZ = bA := (by injection bD)
    (try simp only [show (1 : Int).toNat = 1 from rfl, Nat.reduceMul, Nat.reduceEqDiff, Go.Addr.add, ↓reduceIte] at aI)
    have bF : (1 < aG.length) = True := eq_true (by omega)
    (try rw [show ((1 : Int)).toNat = 1 from rfl] at aI)
    replace aW := eq_true aW
    replace aX := eq_true aX
    go_wp2_with (first | ((with_reducible refine Qm (N := 7) rfl ?_); (try (refine Zq (by rfl) ?_; dsimp only)); refine zBx (N := 7) #[.int .i64 0, .string (⟨#[]⟩ : ByteArray)] 25 ?_; intro aK hg w16 hbox hb; replace aM := zW aM.out hb; have aH := Qa.mk (hbox); have bG := zSg hg (zG aD.out); have aV := zSg hg (zG aD.out); have aC := zL hg aA.out; have aJ := zLg hg aA.out; replace aA := zV aA.out hb; replace HB := zX1 aD.out hb; clear hb hbox hg; have dM := aJ.out; have dN := aC.out; obtain ⟨bL, bM, bN, bO⟩ := zq2 aH.out) | ((with_reducible refine Qd (f := 24) rfl ?_); refine zD (some 31) Tryz.func24 _ ((Qw.calls dI aT (Vj ByteArray.empty aG 1) true _ dL.out).mono ?_); rintro e dX ⟨rfl, hb⟩; refine ⟨_, rfl, ?_⟩; replace aM := Qa.mk (Kd.R_below (by (with_reducible repeat (first | apply Kd.R_alloc | apply Kd.R_drewN | apply Kd.R_drew)); exact (Kd.R_mono (Kd.R_far (p := ⟨aK, 1, none⟩) (Kd.R_far (p := ⟨aK, 0, none⟩) (Kd.R_types aM.out aH.out (by decide)) (fun _ hk => hk.2) (.int .i64 aT)) (fun _ hk => hk.2) (.string (Vj ByteArray.empty aG 1))) (fun _ h_ => h_.1))) hb); replace aA := Qa.mk (Qh (g := aN) (o := .cells #[.int .i64 0, .string (⟨#[]⟩ : ByteArray)] 25 (0, 0)) (zk2 aA.out aC.out aC.out) hb); replace aH := Qa.mk (Qh (g := aK) (o := .cells #[.int .i64 aT, .string (Vj ByteArray.empty aG 1)] 25 (0, 0)) (zk0 aH.out) hb); replace HB := Qa.mk (Qg (zG2 aD.out aV.out) hb); (try clear hb); obtain ⟨bP, bQ, bR, bS⟩ := zq2 aH.out; obtain ⟨bT, bU, bV, bW⟩ := zq2 aA.out))
    refine bodyPost_ret (J7 rfl _ _ aN 25 #[.int .i64 aT, .string (Vj ByteArray.empty aG 1)] (0, 0) _ rfl (zk0 aA.out) Tryz.underlying25 rfl (by kernel_rfl)) rfl ?_
    exact ⟨zE, zG2 aD.out aV.out⟩
   replace c15 := Bool.eq_false_iff.mpr c15
   subst c15
   replace H := (if_neg zFf).symm.trans H
   simp only [Option.some.injEq, Prod.mk.injEq] at H
   obtain ⟨rfl, rfl, rfl⟩ := H
   have aW : 0 ≤ (1 : Int) := (by omega)
   have aX : 1 < (aG.length : Int) := zA
   obtain ⟨bA, bD, aI⟩ := Kd.at_string (Kd.R_reads' aM.out).2.2 1 aW aX
   obtain rfl : aZ = bA := (by injection bD)
   (try simp only [show (1 : Int).toNat = 1 from rfl, Nat.reduceMul, Nat.reduceEqDiff, Go.Addr.add, ↓reduceIte] at aI)
   have bF : (1 < aG.length) = True := eq_true (by omega)
   (try rw [show ((1 : Int)).toNat = 1 from rfl] at aI)
   replace aW := eq_true aW
   replace aX := eq_true aX
   go_wp2_with (first | ((with_reducible refine Qm (N := 7) rfl ?_); (try (refine Zq (by rfl) ?_; dsimp only)); refine zBx (N := 7) #[.int .i64 0, .string (⟨#[]⟩ : ByteArray)] 25 ?_; intro aK hg dY hbox hb; replace aM := zW aM.out hb; have aH := Qa.mk (hbox); have bG := zSg hg (zG aD.out); have aV := zSg hg (zG aD.out); have aC := zL hg aA.out; have aJ := zLg hg aA.out; replace aA := zV aA.out hb; replace HB := zX1 aD.out hb; clear hb hbox hg; have dO := aJ.out; have dP := aC.out; obtain ⟨bX, bY, bZ, cB⟩ := zq2 aH.out) | ((with_reducible refine Qd (f := 24) rfl ?_); refine zD (some 31) Tryz.func24 _ ((Qw.calls dI aT (Vj ByteArray.empty aG 1) false _ dL.out).mono ?_); rintro e dZ ⟨rfl, hb⟩; refine ⟨_, rfl, ?_⟩; replace aM := Qa.mk (Kd.R_below (by (with_reducible repeat (first | apply Kd.R_alloc | apply Kd.R_drewN | apply Kd.R_drew)); exact (Kd.R_mono (Kd.R_far (p := ⟨aK, 1, none⟩) (Kd.R_far (p := ⟨aK, 0, none⟩) (Kd.R_types aM.out aH.out (by decide)) (fun _ hk => hk.2) (.int .i64 aT)) (fun _ hk => hk.2) (.string (Vj ByteArray.empty aG 1))) (fun _ h_ => h_.1))) hb); replace aA := Qa.mk (Qh (g := aN) (o := .cells #[.int .i64 0, .string (⟨#[]⟩ : ByteArray)] 25 (0, 0)) (zk2 aA.out aC.out aC.out) hb); replace aH := Qa.mk (Qh (g := aK) (o := .cells #[.int .i64 aT, .string (Vj ByteArray.empty aG 1)] 25 (0, 0)) (zk0 aH.out) hb); replace HB := Qa.mk (Qg (zG2 aD.out aV.out) hb); (try clear hb); obtain ⟨cK, cO, cZ, dA⟩ := zq2 aA.out))
   refine bodyPost_ret (J7 rfl _ _ aN 25 #[.int .i64 0, .string (⟨#[]⟩ : ByteArray)] (0, 0) _ rfl (zk0 aA.out) Tryz.underlying25 rfl (by kernel_rfl)) rfl ?_
   exact ⟨zE, zG2 aD.out aV.out⟩
  exact absurd H (by simp)
 exact absurd H (by simp)
def Jr.l0 : Nat → ByteArray → Int → List ByteArray → Int → Int → Option (List ByteArray)
 | 0, _, _, _, _, _ => none
 | k + 1, x0, x1, x5, x6, x7 => if x7 ≤ (x0.size : Int) then (if x7 = (x0.size : Int) then (if 0 ≤ x6 then (if x6 ≤ x7 then (if x5.length < 8796093022208 then (Jr.l0 k x0 x1 (x5 ++ [x0.extract (x6 : Int).toNat (x7 : Int).toNat]) (wrap64 (x7 + 1)) (wrap64 (x7 + 1))) else (none)) else (none)) else (none)) else (if 0 ≤ x7 then (if x7 < (x0.size : Int) then (if (bt x0 x7) = x1 then (if 0 ≤ x6 then (if x6 ≤ x7 then (if x5.length < 8796093022208 then (Jr.l0 k x0 x1 (x5 ++ [x0.extract (x6 : Int).toNat (x7 : Int).toNat]) (wrap64 (x7 + 1)) (wrap64 (x7 + 1))) else (none)) else (none)) else (none)) else (Jr.l0 k x0 x1 x5 x6 (wrap64 (x7 + 1)))) else (none)) else (none))) else (some x5)
def Jr.f (k : Nat) (a0 : ByteArray) (a1 : Int) : Option (List ByteArray) := Jr.l0 k a0 a1 (([] : List ByteArray)) 0 0
set_option maxHeartbeats 8000000 in
set_option maxRecDepth 100000 in
theorem Jr.calls (k : Nat) (a0 : ByteArray) (a1 : Int) (r : List ByteArray) (w : World) (h : Jr.f k a0 a1 = some r) :
  Calls Tryz.prog 76 #[.string a0, .int .u8 a1] w fun e w' => ∃ bK : Value, e = .returned (bK) ∧ Kd.R Kd.string 9 w' w.heap.size (fun _ => True) bK r ∧ Below w.heap.size w w' := by
 have HB := Qa.mk (Below.refl w.heap.size w)
 have H := h
 unfold Jr.f at H
 clear h
 generalize aH : (([] : List ByteArray) : List ByteArray) = bD at H
 have aI := Qa.mk aH.symm
 clear aH
 have H' := Qa.mk H; clear H
 go_enter Tryz.func76, Tryz.ntmps76
 go_wp2_with (first | ((with_reducible refine Qm (N := 8) rfl ?_); refine Kd.R_lit Kd.string _ 9 ?hg (N := 8) ?hd (xs := ([] : List ByteArray)) (inner := []) (ok := fun _ => True) (okp := fun _ => True) ?hr ?hp (fun _ hk => hk) trivial (Below.refl _ _) (Nat.le_refl _) (by simp) ?_; (case hd => rfl); (case hg => rfl); (case hr => first | (go_simp; done) | (go_simp; rfl)); (case hp => exact (Z0.none _ _)); intro bS w3 aN hb hg_ hnew_; clear hg_ hnew_; (first | rw [← aI.out] at aN | (simp only [Int.reduceToNat] at aN; rw [← aI.out] at aN)); have aQ := Qa.mk (Kd.R_lower aN (Q6 zB)); replace HB := zX hb; clear hb aN))
 go_loopg [5, 6, 7] k (fun kq v5 v6 v7 w' => ∃ (aD : List ByteArray) (aC : Int) (aA : Int), v6 = .int .i64 aC ∧ v7 = .int .i64 aA ∧ Qa (Jr.l0 kq a0 a1 aD aC aA = some r) ∧ Qa (kq ≤ k) ∧ Qa (Kd.R Kd.string 9 w' w.heap.size (fun _ => True) v5 aD) ∧ Qa (Below w.heap.size w w'))
 case atStart => exact ⟨(bD), (0), (0), zF, zF, H', ⟨Nat.le_refl _⟩, ⟨zR aQ.out⟩, ⟨zB⟩⟩
 case round =>
 clear H'
 obtain ⟨aD, aC, aA, rfl, rfl, HA, aM, aG, HB⟩ := hrel
 cases gk with
 | zero => exact absurd HA.out (by simp [Jr.l0])
 | succ k1 =>
 have H := HA.out
 clear HA
 simp only [Jr.l0] at H
 replace H := Xr H
 rcases H with ⟨bE, H⟩ | ⟨bE, H⟩
 ·replace H := Zc H
  rcases H with ⟨bF, bG, H⟩ | ⟨c6, bF, bG, H⟩
  ·replace H := Xt H
   rcases H with ⟨bT, bU, H⟩ | ⟨c7, H⟩
   ·replace H := Xt H
    rcases H with ⟨bV, bW, H⟩ | ⟨c8, H⟩
    ·have bX := eq_true (zA : aA ≤ (a0.size : Int))
     replace H := X8 H
     rcases H with ⟨c10, H⟩ | ⟨c10, H⟩
     ·have aT := Qa.mk c10
      clear c10
      generalize aJ : (aD ++ [a0.extract (aC : Int).toNat (aA : Int).toNat] : List ByteArray) = bH at H
      have aU := Qa.mk aJ.symm
      clear aJ
      have H' := Qa.mk H; clear H
      go_wp2_with (first | ((with_reducible refine Zy (b := .append) (xs := #[.tmp 26, .tmp 31]) rfl ?_); at_builtin; refine Kd.R_append Kd.string (w0 := w) w.heap.size rfl (.tmp 26) (.tmp 31) 93 9 (.string ⟨#[]⟩) 16 rfl Tryz.underlying93 jIi rfl (by decide) (by omega) u5 aD (a0.extract (aC : Int).toNat (aA : Int).toNat) [.string (a0.extract (aC : Int).toNat (aA : Int).toNat)] (fun _ => True) (fun _ => False) rfl rfl ?aP (fun _ hk => hk.elim) ?aF ?aO ?aB ?aS ?aL ?_; (case aP => exact rfl); (case aB => exact zB); (case aF => exact (fun _ _ => trivial)); (case aO => exact (zR aG.out)); (case aS => exact (Q6 zB)); (case aL => have := aT.out; omega); intro bY cB ho hb hg hat; rw [← aU.out] at ho; have aV := Qa.mk (ho); replace HB := Qa.mk (hb); clear aG; clear ho hb hg hat))
      go_roundg k1
      case measure => have := aM.out; omega
      case rel => exact ⟨(bH), (wrap64 (aA + 1)), (wrap64 (aA + 1)), zF, zF, H', ⟨by have := aM.out; omega⟩, ⟨zR aV.out⟩, ⟨zB⟩⟩
     exact absurd H (by simp)
    exact absurd H (by simp)
   exact absurd H (by simp)
  replace H := J5 H
  rcases H with ⟨bL, H⟩ | ⟨c12, H⟩
  ·replace H := J5 H
   rcases H with ⟨bM, H⟩ | ⟨c13, H⟩
   ·replace H := Zc H
    rcases H with ⟨aW, aX, H⟩ | ⟨c15, aW, aX, H⟩
    ·replace H := Xt H
     rcases H with ⟨bN, bO, H⟩ | ⟨c16, H⟩
     ·replace H := Xt H
      rcases H with ⟨bP, bQ, H⟩ | ⟨c17, H⟩
      ·have bR := eq_true (zA : aA ≤ (a0.size : Int))
       replace H := X8 H
       rcases H with ⟨c19, H⟩ | ⟨c19, H⟩
       ·have aY := Qa.mk c19
        clear c19
        generalize aK : (aD ++ [a0.extract (aC : Int).toNat (aA : Int).toNat] : List ByteArray) = bI at H
        have aZ := Qa.mk aK.symm
        clear aK
        have H' := Qa.mk H; clear H
        have bA : 0 ≤ (aA : Int) := zA
        have bB : aA < (a0.size : Int) := zA
        have bJ := Yh a0 aA
        replace bA := eq_true bA
        replace bB := eq_true bB
        go_wp2_with (first | ((with_reducible refine Zy (b := .append) (xs := #[.tmp 26, .tmp 31]) rfl ?_); at_builtin; refine Kd.R_append Kd.string (w0 := w) w.heap.size rfl (.tmp 26) (.tmp 31) 93 9 (.string ⟨#[]⟩) 16 rfl Tryz.underlying93 jIi rfl (by decide) (by omega) u5 aD (a0.extract (aC : Int).toNat (aA : Int).toNat) [.string (a0.extract (aC : Int).toNat (aA : Int).toNat)] (fun _ => True) (fun _ => False) rfl rfl ?aP (fun _ hk => hk.elim) ?aF ?aO ?aB ?aS ?aL ?_; (case aP => exact rfl); (case aB => exact zB); (case aF => exact (fun _ _ => trivial)); (case aO => exact (zR aG.out)); (case aS => exact (Q6 zB)); (case aL => have := aY.out; omega); intro bZ cK ho hb hg hat; rw [← aZ.out] at ho; have bC := Qa.mk (ho); replace HB := Qa.mk (hb); clear aG; clear ho hb hg hat))
        go_roundg k1
        case measure => have := aM.out; omega
        case rel => exact ⟨(bI), (wrap64 (aA + 1)), (wrap64 (aA + 1)), zF, zF, H', ⟨by have := aM.out; omega⟩, ⟨zR bC.out⟩, ⟨zB⟩⟩
       exact absurd H (by simp)
      exact absurd H (by simp)
     exact absurd H (by simp)
    have H' := Qa.mk H; clear H
    have bA : 0 ≤ (aA : Int) := zA
    have bB : aA < (a0.size : Int) := zA
    have bJ := Yh a0 aA
    replace bA := eq_true bA
    replace bB := eq_true bB
    go_wp2
    go_roundg k1
    case measure => have := aM.out; omega
    case rel => exact ⟨(aD), (aC), (wrap64 (aA + 1)), zF, zF, H', ⟨by have := aM.out; omega⟩, ⟨zR aG.out⟩, ⟨zB⟩⟩
   exact absurd H (by simp)
  exact absurd H (by simp)
 obtain rfl := Option.some.inj H
 go_wp2
 go_ret
 exact ⟨_, zE, zR aG.out, zB⟩
mutual
def Jc.j0 : Nat → ByteArray → Int → Bool → Option (Int × Bool)
 | 0, _, _, _ => none
 | k + 1, x0, x1, x6 => if x6 = true then (if 1 ≤ (x0.size : Int) then (Jc.j1 k x0 x1 x6 (x0.extract 1 x0.size)) else (none)) else (Jc.j1 k x0 x1 x6 x0)
def Jc.j1 : Nat → ByteArray → Int → Bool → ByteArray → Option (Int × Bool)
 | 0, _, _, _, _ => none
 | k + 1, x0, x1, x6, x7 => if (x7.size : Int) < 1 then (Jc.j2 k x0 x6 x7 true) else (Jc.j2 k x0 x6 x7 (decide ((x7.size : Int) > x1)))
def Jc.j2 : Nat → ByteArray → Bool → ByteArray → Bool → Option (Int × Bool)
 | 0, _, _, _, _ => none
 | k + 1, x0, x6, x7, x30 => if x30 = true then (some (0, false)) else (Jc.l0 k x0 x6 x7 0 0)
def Jc.l0 : Nat → ByteArray → Bool → ByteArray → Int → Int → Option (Int × Bool)
 | 0, _, _, _, _, _ => none
 | k + 1, x0, x6, x7, x8, x9 => if x9 < (x7.size : Int) then (if 0 ≤ x9 then (if (bt x7 x9) < 48 then (some (0, false)) else (if (bt x7 x9) > 57 then (some (0, false)) else (Jc.l0 k x0 x6 x7 (wrap64 ((wrap64 (10 * x8)) + (((bt x7 x9) - 48) % 256))) (wrap64 (x9 + 1))))) else (none)) else (if x6 = true then ((Ji.f k (wrap64 (-x8))).bind fun aA => (if aA.toList = x0.toList then (some (wrap64 (-x8), true)) else (some (0, false)))) else ((Ji.f k x8).bind fun aC => (if aC.toList = x0.toList then (some (x8, true)) else (some (0, false)))))
end
def Jc.f (k : Nat) (a0 : ByteArray) (a1 : Int) : Option (Int × Bool) := if (a0.size : Int) > 0 then (if 0 < (a0.size : Int) then (Jc.j0 k a0 a1 ((bt a0 0) == 45)) else (none)) else (Jc.j0 k a0 a1 false)
set_option maxHeartbeats 8000000 in
set_option maxRecDepth 100000 in
theorem Jc.calls (k : Nat) (a0 : ByteArray) (a1 : Int) (r1 : Int) (r2 : Bool) (w : World) (h : Jc.f k a0 a1 = some (r1, r2)) :
  Calls Tryz.prog 106 #[.string a0, .int .i64 a1] w fun e w' => e = .returned (.tuple #[.int .i64 r1, .bool r2]) ∧ Below w.heap.size w w' := by
 have HB := Qa.mk (Below.refl w.heap.size w)
 have H := h
 unfold Jc.f at H
 clear h
 have bG := Qa.mk H
 clear H
 go_enter Tryz.func106, Tryz.ntmps106
 go_upto_region 1 with (fail)
 go_cut [6] (fun v6 wc => ∃ (kq : Nat) (aD : Bool), v6 = .bool aD ∧ Qa (Jc.j0 kq a0 a1 aD = some (r1, r2)) ∧ Qa (kq ≤ k) ∧ Qa (Below w.heap.size w wc))
 case first =>
  have H := bG.out
  clear bG
  replace H := X8 H
  rcases H with ⟨c4, H⟩ | ⟨c4, H⟩
  ·have aJ : decide (0 < (a0.size : Int)) = true := decide_eq_true c4
   have bH : decide (0 < a0.size) = true := decide_eq_true (by omega)
   clear c4
   (first | rw [aJ] | (simp only [Zj, Zl]; rw [aJ]) | skip)
   replace H := V3 H
   rcases H with ⟨c5, bS, H⟩ | ⟨c5, H⟩
   ·have bT : decide (0 < a0.size) = true := decide_eq_true (by omega)
    clear c5
    have H' := Qa.mk H; clear H
    have p6 : 0 ≤ (0 : Int) := (by omega)
    have q6 : 0 < a0.size := (by have : (0 : Int) < (a0.size : Int) := zA; omega)
    have hx6 : ∀ h : 0 < a0.size, ((a0[0]'h).toNat : Int) = bt a0 0 := Yh a0 0
    clear p6
    have bZ : (0 < (a0.size : Int)) = True := eq_true (zA)
    replace q6 := eq_true q6
    go_wp2
    go_meet
    case rel => exact ⟨_, (((bt a0 0) == 45)), zF, H', ⟨by first | omega | exact Nat.le_refl _⟩, ⟨zB⟩⟩
   exact absurd H (by simp)
  have aJ : decide (0 < (a0.size : Int)) = false := decide_eq_false c4
  have bH : decide (0 < a0.size) = false := decide_eq_false (by omega)
  clear c4
  (first | rw [aJ] | (simp only [Zj, Zl]; rw [aJ]) | skip)
  have H' := Qa.mk H; clear H
  go_wp2
  go_meet
  case rel => exact ⟨_, (false), zF, H', ⟨by first | omega | exact Nat.le_refl _⟩, ⟨zB⟩⟩
 case rest =>
 clear bG
 obtain ⟨kq, aD, rfl, HA, HJ2, HB⟩ := hcut
 cases kq with
 | zero => exact absurd HA.out (by simp [Jc.j0])
 | succ bU =>
 have H := HA.out
 clear HA
 simp only [Jc.j0] at H
 have bI := Qa.mk H
 clear H
 go_upto_if 19 with (fail)
 go_cut [7] (fun v7 wc => ∃ (kq : Nat) (aC : ByteArray), v7 = .string aC ∧ Qa (Jc.j1 kq a0 a1 aD aC = some (r1, r2)) ∧ Qa (kq ≤ bU) ∧ Qa (Below w.heap.size w wc))
 case first =>
  have H := bI.out
  clear bI
  by_cases c8 : aD = true
  ·subst c8
   replace H := (if_pos rfl).symm.trans H
   replace H := Xt H
   rcases H with ⟨bV, bW, H⟩ | ⟨c9, H⟩
   ·have H' := Qa.mk H; clear H
    go_wp2
    go_meet
    case rel => exact ⟨_, (a0.extract 1 a0.size), zF, H', ⟨by have := HJ2.out; first | omega | exact Nat.le_refl _⟩, ⟨zB⟩⟩
   exact absurd H (by simp)
  replace c8 := Bool.eq_false_iff.mpr c8
  subst c8
  replace H := (if_neg zFf).symm.trans H
  have H' := Qa.mk H; clear H
  go_wp2
  go_meet
  case rel => exact ⟨_, (a0), zF, H', ⟨by have := HJ2.out; first | omega | exact Nat.le_refl _⟩, ⟨zB⟩⟩
 case rest =>
 clear bI
 obtain ⟨kq, aC, rfl, HA, bF, HB⟩ := hcut
 cases kq with
 | zero => exact absurd HA.out (by simp [Jc.j1])
 | succ bX =>
 have H := HA.out
 clear HA
 simp only [Jc.j1] at H
 have aN := Qa.mk H
 clear H
 go_upto_region 5 with (fail)
 go_cut [30] (fun v30 wc => ∃ (kq : Nat) (aI : Bool), v30 = .bool aI ∧ Qa (Jc.j2 kq a0 aD aC aI = some (r1, r2)) ∧ Qa (kq ≤ bX) ∧ Qa (Below w.heap.size w wc))
 case first =>
  have H := aN.out
  clear aN
  replace H := jEh H
  rcases H with ⟨c11, aG, H⟩ | ⟨c11, aG, H⟩
  ·have aQ : decide (aC.size < 1) = true := decide_eq_true (by omega)
   clear c11
   (first | rw [aG] | (simp only [Zj, Zl]; rw [aG]) | skip)
   have H' := Qa.mk H; clear H
   go_wp2
   go_meet
   case rel => exact ⟨_, (true), zF, H', ⟨by have := HJ2.out; have := bF.out; first | omega | exact Nat.le_refl _⟩, ⟨zB⟩⟩
  have aQ : decide (aC.size < 1) = false := decide_eq_false (by omega)
  clear c11
  (first | rw [aG] | (simp only [Zj, Zl]; rw [aG]) | skip)
  have H' := Qa.mk H; clear H
  go_wp2
  go_meet
  case rel => exact ⟨_, (decide ((aC.size : Int) > a1)), zF, H', ⟨by have := HJ2.out; have := bF.out; first | omega | exact Nat.le_refl _⟩, ⟨zB⟩⟩
 case rest =>
 clear aN
 obtain ⟨kq, aI, rfl, HA, bK, HB⟩ := hcut
 cases kq with
 | zero => exact absurd HA.out (by simp [Jc.j2])
 | succ bL =>
 have H := HA.out
 clear HA
 simp only [Jc.j2] at H
 by_cases c12 : aI = true
 ·subst c12
  replace H := (if_pos rfl).symm.trans H
  simp only [Option.some.injEq, Prod.mk.injEq] at H
  obtain ⟨rfl, rfl⟩ := H
  go_wp2
  go_ret2
  exact ⟨zE, zB⟩
 replace c12 := Bool.eq_false_iff.mpr c12
 subst c12
 replace H := (if_neg zFf).symm.trans H
 have H' := Qa.mk H; clear H
 go_wp2
 go_loopg [8, 9] bL (fun kq v8 v9 w' => ∃ (aH : Int) (aA : Int), v8 = .int .i64 aH ∧ v9 = .int .i64 aA ∧ Qa (Jc.l0 kq a0 aD aC aH aA = some (r1, r2)) ∧ Qa (kq ≤ bL) ∧ Qa (Below w.heap.size w w'))
 case atStart => exact ⟨(0), (0), zF, zF, H', ⟨Nat.le_refl _⟩, ⟨zB⟩⟩
 case round =>
 clear H'
 try clear c12
 obtain ⟨aH, aA, rfl, rfl, HA, bM, HB⟩ := hrel
 cases gk with
 | zero => exact absurd HA.out (by simp [Jc.l0])
 | succ k4 =>
 have H := HA.out
 clear HA
 simp only [Jc.l0] at H
 replace H := Xr H
 rcases H with ⟨aT, H⟩ | ⟨aT, H⟩
 ·replace H := J5 H
  rcases H with ⟨bN, H⟩ | ⟨c14, H⟩
  ·replace H := Xr H
   rcases H with ⟨aU, H⟩ | ⟨aU, H⟩
   ·simp only [Option.some.injEq, Prod.mk.injEq] at H
    obtain ⟨rfl, rfl⟩ := H
    have aK : 0 ≤ (aA : Int) := zA
    have aM : aA < (aC.size : Int) := zA
    have aV := Yh aC aA
    replace aK := eq_true aK
    replace aM := eq_true aM
    go_wp2
    go_ret2
    exact ⟨zE, zB⟩
   replace H := X8 H
   rcases H with ⟨c18, H⟩ | ⟨c18, H⟩
   ·have aW : decide (57 < (bt aC aA)) = true := decide_eq_true c18
    clear c18
    simp only [Option.some.injEq, Prod.mk.injEq] at H
    obtain ⟨rfl, rfl⟩ := H
    have aK : 0 ≤ (aA : Int) := zA
    have aM : aA < (aC.size : Int) := zA
    have aV := Yh aC aA
    replace aK := eq_true aK
    replace aM := eq_true aM
    have aX : 0 ≤ (aA : Int) := zA
    have aY : aA < (aC.size : Int) := zA
    have bJ := Yh aC aA
    replace aX := eq_true aX
    replace aY := eq_true aY
    go_wp2
    go_ret2
    exact ⟨zE, zB⟩
   have aW : decide (57 < (bt aC aA)) = false := decide_eq_false c18
   clear c18
   have H' := Qa.mk H; clear H
   have aK : 0 ≤ (aA : Int) := zA
   have aM : aA < (aC.size : Int) := zA
   have aV := Yh aC aA
   replace aK := eq_true aK
   replace aM := eq_true aM
   have aX : 0 ≤ (aA : Int) := zA
   have aY : aA < (aC.size : Int) := zA
   have bJ := Yh aC aA
   replace aX := eq_true aX
   replace aY := eq_true aY
   have bO : 0 ≤ (aA : Int) := zA
   have bP : aA < (aC.size : Int) := zA
   have bY := Yh aC aA
   replace bO := eq_true bO
   replace bP := eq_true bP
   go_wp2
   go_roundg k4
   case measure => have := HJ2.out; have := bF.out; have := bK.out; have := bM.out; omega
   case rel => exact ⟨(wrap64 ((wrap64 (10 * aH)) + (((bt aC aA) - 48) % 256))), (wrap64 (aA + 1)), zF, zF, H', ⟨by have := HJ2.out; have := bF.out; have := bK.out; have := bM.out; omega⟩, ⟨zB⟩⟩
  exact absurd H (by simp)
 by_cases c20 : aD = true
 ·subst c20
  replace H := (if_pos rfl).symm.trans H
  obtain ⟨aZ, bQ, H⟩ := zO H
  replace H := Zc H
  rcases H with ⟨bA, bB, H⟩ | ⟨cB, bA, bB, H⟩
  ·simp only [Option.some.injEq, Prod.mk.injEq] at H
   obtain ⟨rfl, rfl⟩ := H
   go_wp2_with (first | ((with_reducible refine Qd (f := 80) rfl ?_); refine zD (some 59) Tryz.func80 _ ((Ji.calls k4 (wrap64 (-aH)) aZ _ bQ.out).mono ?_); rintro e cK ⟨rfl, hb⟩; refine ⟨_, rfl, ?_⟩; replace HB := zX hb; (try clear hb)))
   go_ret2
   exact ⟨zE, zB⟩
  simp only [Option.some.injEq, Prod.mk.injEq] at H
  obtain ⟨rfl, rfl⟩ := H
  go_wp2_with (first | ((with_reducible refine Qd (f := 80) rfl ?_); refine zD (some 59) Tryz.func80 _ ((Ji.calls k4 (wrap64 (-aH)) aZ _ bQ.out).mono ?_); rintro e cO ⟨rfl, hb⟩; refine ⟨_, rfl, ?_⟩; replace HB := zX hb; (try clear hb)))
  go_ret2
  exact ⟨zE, zB⟩
 replace c20 := Bool.eq_false_iff.mpr c20
 subst c20
 replace H := (if_neg zFf).symm.trans H
 obtain ⟨bC, bR, H⟩ := zO H
 replace H := Zc H
 rcases H with ⟨bD, bE, H⟩ | ⟨cZ, bD, bE, H⟩
 ·simp only [Option.some.injEq, Prod.mk.injEq] at H
  obtain ⟨rfl, rfl⟩ := H
  go_wp2_with (first | ((with_reducible refine Qd (f := 80) rfl ?_); refine zD (some 59) Tryz.func80 _ ((Ji.calls k4 aH bC _ bR.out).mono ?_); rintro e dA ⟨rfl, hb⟩; refine ⟨_, rfl, ?_⟩; replace HB := zX hb; (try clear hb)))
  go_ret2
  exact ⟨zE, zB⟩
 simp only [Option.some.injEq, Prod.mk.injEq] at H
 obtain ⟨rfl, rfl⟩ := H
 go_wp2_with (first | ((with_reducible refine Qd (f := 80) rfl ?_); refine zD (some 59) Tryz.func80 _ ((Ji.calls k4 aH bC _ bR.out).mono ?_); rintro e dB ⟨rfl, hb⟩; refine ⟨_, rfl, ?_⟩; replace HB := zX hb; (try clear hb)))
 go_ret2
 exact ⟨zE, zB⟩
def X7.f (k : Nat) (a0 : ByteArray) : Option (Int × Bool) := (Jc.f k a0 12).bind fun aA => (some (aA.1, aA.2))
set_option maxHeartbeats 8000000 in
set_option maxRecDepth 100000 in
theorem X7.calls (k : Nat) (a0 : ByteArray) (r1 : Int) (r2 : Bool) (w : World) (h : X7.f k a0 = some (r1, r2)) :
  Calls Tryz.prog 77 #[.string a0] w fun e w' => e = .returned (.tuple #[.int .i64 r1, .bool r2]) ∧ Below w.heap.size w w' := by
 have HB := Qa.mk (Below.refl w.heap.size w)
 have H := h
 unfold X7.f at H
 clear h
 obtain ⟨⟨aA, aC⟩, A2, H⟩ := zO H
 replace H : (some (aA, aC)) = some (r1, r2) := H
 simp only [Option.some.injEq, Prod.mk.injEq] at H
 obtain ⟨rfl, rfl⟩ := H
 go_enter Tryz.func77, Tryz.ntmps77
 go_wp2_with (first | ((with_reducible refine Qd (f := 106) rfl ?_); refine zD (some 5) Tryz.func106 _ ((Jc.calls k a0 12 aA aC _ A2.out).mono ?_); rintro e w3 ⟨rfl, hb⟩; refine ⟨_, rfl, ?_⟩; replace HB := zX hb; (try clear hb)))
 go_ret2
 exact ⟨zE, zB⟩
def J3.j0 : Nat → List ByteArray → Int → Bool → Option (Int × ByteArray × Bool)
 | 0, _, _, _ => none
 | k + 1, x4, x5, aC => if aC = true then (some (0, (⟨#[]⟩ : ByteArray), false)) else (if 1 < (x4.length : Int) then ((Qu.f k x5 (Vj ByteArray.empty x4 1)).bind fun aA => (if aA = true then (some (x5, Vj ByteArray.empty x4 1, true)) else (some (0, (⟨#[]⟩ : ByteArray), false)))) else (none))
def J3.f (k : Nat) (a0 : ByteArray) : Option (Int × ByteArray × Bool) := (Jr.f k a0 58).bind fun aA => (if 0 < (aA.length : Int) then ((X7.f k (Vj ByteArray.empty aA 0)).bind fun aC => (if (aA.length : Int) = 2 then (J3.j0 k aA aC.1 (!aC.2)) else (J3.j0 k aA aC.1 true))) else (none))
set_option maxHeartbeats 8000000 in
set_option maxRecDepth 100000 in
theorem J3.calls (k : Nat) (a0 : ByteArray) (r1 : Int) (r2 : ByteArray) (r3 : Bool) (w : World) (h : J3.f k a0 = some (r1, r2, r3)) :
  Calls Tryz.prog 21 #[.string a0] w fun e w' => e = .returned (.tuple #[.agg #[.int .i64 r1, .string r2], .bool r3]) ∧ Below w.heap.size w w' := by
 have dS := Tryz.underlying25
 have HB := Qa.mk (Below.refl w.heap.size w)
 have H := h
 unfold J3.f at H
 clear h
 obtain ⟨aG, A2, H⟩ := zO H
 replace H := V3 H
 rcases H with ⟨c3, dD, H⟩ | ⟨c3, H⟩
 ·have dE : decide (0 < aG.length) = true := decide_eq_true (by omega)
  clear c3
  obtain ⟨⟨aT, bF⟩, A4, H⟩ := zO H
  dsimp only at H
  have dF := Qa.mk H
  clear H
  go_enter Tryz.func21, Tryz.ntmps21
  go_upto_region 3 with (first | ((with_reducible refine Qm (N := 2) rfl ?_); refine zBx (N := 2) #[.int .i64 0, .string (⟨#[]⟩ : ByteArray)] 25 ?_; intro aN hg w6 hbox hb; have aA := Qa.mk (hbox); have dI := zS hg; have aD := zS hg; replace HB := zX hb; clear hb hbox hg) | ((with_reducible refine Qd (f := 76) rfl ?_); refine zD (some 9) Tryz.func76 _ ((Jr.calls k a0 58 aG _ A2.out).mono ?_); rintro e w7 ⟨dU, rfl, ho0, hb⟩; refine ⟨_, rfl, ?_⟩; have aQ := Qa.mk (Kd.R_lower ho0 (Q6 (zG aD.out))); replace aA := zV aA.out hb; replace HB := zX1 aD.out hb; (try clear hb); (try clear ho0); obtain ⟨dX, dV, dW⟩ := Kd.R_slice aQ.out; subst dW; have bC : 0 ≤ (0 : Int) := (by omega); have bD : 0 < (aG.length : Int) := zA; obtain ⟨bA, dG, aU⟩ := Kd.at_string (Kd.R_reads' aQ.out).2.2 0 bC bD; cases dG; have dJ : (0 < aG.length) = True := eq_true (by omega); (try rw [show ((0 : Int)).toNat = 0 from rfl] at aU); (try rw [Addr.add_zero'] at aU); replace bC := eq_true bC; replace bD := eq_true bD) | ((with_reducible refine Qd (f := 77) rfl ?_); refine zD (some 14) Tryz.func77 _ ((X7.calls k (Vj ByteArray.empty aG 0) aT bF _ A4.out).mono ?_); rintro e w9 ⟨rfl, hb⟩; refine ⟨_, rfl, ?_⟩; replace aQ := zW aQ.out hb; replace aA := zV aA.out hb; replace HB := zX1 aD.out hb; (try clear hb)))
  (try simp only [Act.put, List.setIfInBounds_toArray, List.set_cons_zero, List.set_cons_succ])
  go_cut [23] (fun v23 wc => ∃ (kq : Nat) (aZ : Bool), v23 = .bool aZ ∧ Qa (J3.j0 kq aG aT aZ = some (r1, r2, r3)) ∧ Qa (kq ≤ k) ∧ Qa (Kd.R Kd.string 9 wc w.heap.size (fun _ => True) (.slice (some bA) aG.length dV) aG) ∧ Qa (wc.heap[aN]? = some (.cells #[.int .i64 0, .string (⟨#[]⟩ : ByteArray)] 25 (0, 0))) ∧ Qa (Below w.heap.size w wc))
  case first =>
   have H := dF.out
   clear dF
   replace H := Zc H
   rcases H with ⟨aV, bG, H⟩ | ⟨c10, aV, bG, H⟩
   ·(first | rw [aV] | (simp only [Zj, Zl]; rw [aV]) | skip)
    have H' := Qa.mk H; clear H
    go_wp2
    go_meet
    case rel => exact ⟨_, (!bF), zF, H', ⟨by first | omega | exact Nat.le_refl _⟩, ⟨zR aQ.out⟩, ⟨zK aA.out⟩, ⟨zG aD.out⟩⟩
   (first | rw [aV] | (simp only [Zj, Zl]; rw [aV]) | skip)
   have H' := Qa.mk H; clear H
   go_wp2
   go_meet
   case rel => exact ⟨_, (true), zF, H', ⟨by first | omega | exact Nat.le_refl _⟩, ⟨zR aQ.out⟩, ⟨zK aA.out⟩, ⟨zG aD.out⟩⟩
  case rest =>
  clear dF
  try clear c3
  try clear dD
  try clear dE
  try clear aU
  try clear bC
  try clear bD
  obtain ⟨kq, aZ, rfl, HA, dY, aM, aA, HB⟩ := hcut
  cases kq with
  | zero => exact absurd HA.out (by simp [J3.j0])
  | succ dK =>
  have H := HA.out
  clear HA
  simp only [J3.j0] at H
  by_cases c11 : aZ = true
  ·subst c11
   replace H := (if_pos rfl).symm.trans H
   simp only [Option.some.injEq, Prod.mk.injEq] at H
   obtain ⟨rfl, rfl, rfl⟩ := H
   obtain ⟨bJ, bK, bL, bM⟩ := zq2 aA.out
   go_wp2
   refine bodyPost_ret (J7 rfl _ _ aN 25 #[.int .i64 0, .string (⟨#[]⟩ : ByteArray)] (0, 0) _ rfl (zk0 aA.out) Tryz.underlying25 rfl (by kernel_rfl)) rfl ?_
   exact ⟨zE, zG aD.out⟩
  replace c11 := Bool.eq_false_iff.mpr c11
  subst c11
  replace H := (if_neg zFf).symm.trans H
  replace H := V3 H
  rcases H with ⟨c13, dL, H⟩ | ⟨c13, H⟩
  ·have dM : decide (1 < aG.length) = true := decide_eq_true (by omega)
   clear c13
   obtain ⟨dH, dN, H⟩ := zO H
   by_cases c15 : dH = true
   ·subst c15
    replace H := (if_pos rfl).symm.trans H
    simp only [Option.some.injEq, Prod.mk.injEq] at H
    obtain ⟨rfl, rfl, rfl⟩ := H
    have aX : 0 ≤ (1 : Int) := (by omega)
    have aY : 1 < (aG.length : Int) := zA
    obtain ⟨bB, bE, aI⟩ := Kd.at_string (Kd.R_reads' aM.out).2.2 1 aX aY
    obtain rfl : bA = bB := (by injection bE)
    (try simp only [show (1 : Int).toNat = 1 from rfl, Nat.reduceMul, Nat.reduceEqDiff, Go.Addr.add, ↓reduceIte] at aI)
    have bH : (1 < aG.length) = True := eq_true (by omega)
    (try rw [show ((1 : Int)).toNat = 1 from rfl] at aI)
    replace aX := eq_true aX
    replace aY := eq_true aY
    go_wp2_with (first | ((with_reducible refine Qm (N := 7) rfl ?_); refine zBx (N := 7) #[.int .i64 0, .string (⟨#[]⟩ : ByteArray)] 25 ?_; intro aK hg w16 hbox hb; replace aM := zW aM.out hb; have aH := Qa.mk (hbox); have bI := zSg hg (zG aD.out); have aW := zSg hg (zG aD.out); have aC := zL hg aA.out; have aJ := zLg hg aA.out; replace aA := zV aA.out hb; replace HB := zX1 aD.out hb; clear hb hbox hg; have dO := aJ.out; have dP := aC.out; obtain ⟨bN, bO, bP, bQ⟩ := zq2 aH.out) | ((with_reducible refine Qd (f := 25) rfl ?_); refine zD (some 31) Tryz.func25 _ ((Qu.calls dK aT (Vj ByteArray.empty aG 1) true _ dN.out).mono ?_); rintro e dZ ⟨rfl, hb⟩; refine ⟨_, rfl, ?_⟩; replace aM := Qa.mk (Kd.R_below (by (with_reducible repeat (first | apply Kd.R_alloc | apply Kd.R_drewN | apply Kd.R_drew)); exact (Kd.R_mono (Kd.R_far (p := ⟨aK, 1, none⟩) (Kd.R_far (p := ⟨aK, 0, none⟩) (Kd.R_types aM.out aH.out (by decide)) (fun _ hk => hk.2) (.int .i64 aT)) (fun _ hk => hk.2) (.string (Vj ByteArray.empty aG 1))) (fun _ h_ => h_.1))) hb); replace aA := Qa.mk (Qh (g := aN) (o := .cells #[.int .i64 0, .string (⟨#[]⟩ : ByteArray)] 25 (0, 0)) (zk2 aA.out aC.out aC.out) hb); replace aH := Qa.mk (Qh (g := aK) (o := .cells #[.int .i64 aT, .string (Vj ByteArray.empty aG 1)] 25 (0, 0)) (zk0 aH.out) hb); replace HB := Qa.mk (Qg (zG2 aD.out aW.out) hb); (try clear hb); obtain ⟨bR, bS, bT, bU⟩ := zq2 aH.out; obtain ⟨bV, bW, bX, bY⟩ := zq2 aA.out))
    refine bodyPost_ret (J7 rfl _ _ aN 25 #[.int .i64 aT, .string (Vj ByteArray.empty aG 1)] (0, 0) _ rfl (zk0 aA.out) Tryz.underlying25 rfl (by kernel_rfl)) rfl ?_
    exact ⟨zE, zG2 aD.out aW.out⟩
   replace c15 := Bool.eq_false_iff.mpr c15
   subst c15
   replace H := (if_neg zFf).symm.trans H
   simp only [Option.some.injEq, Prod.mk.injEq] at H
   obtain ⟨rfl, rfl, rfl⟩ := H
   have aX : 0 ≤ (1 : Int) := (by omega)
   have aY : 1 < (aG.length : Int) := zA
   obtain ⟨bB, bE, aI⟩ := Kd.at_string (Kd.R_reads' aM.out).2.2 1 aX aY
   obtain rfl : bA = bB := (by injection bE)
   (try simp only [show (1 : Int).toNat = 1 from rfl, Nat.reduceMul, Nat.reduceEqDiff, Go.Addr.add, ↓reduceIte] at aI)
   have bH : (1 < aG.length) = True := eq_true (by omega)
   (try rw [show ((1 : Int)).toNat = 1 from rfl] at aI)
   replace aX := eq_true aX
   replace aY := eq_true aY
   go_wp2_with (first | ((with_reducible refine Qm (N := 7) rfl ?_); refine zBx (N := 7) #[.int .i64 0, .string (⟨#[]⟩ : ByteArray)] 25 ?_; intro aK hg eB hbox hb; replace aM := zW aM.out hb; have aH := Qa.mk (hbox); have bI := zSg hg (zG aD.out); have aW := zSg hg (zG aD.out); have aC := zL hg aA.out; have aJ := zLg hg aA.out; replace aA := zV aA.out hb; replace HB := zX1 aD.out hb; clear hb hbox hg; have dQ := aJ.out; have dR := aC.out; obtain ⟨bZ, cB, cK, cO⟩ := zq2 aH.out) | ((with_reducible refine Qd (f := 25) rfl ?_); refine zD (some 31) Tryz.func25 _ ((Qu.calls dK aT (Vj ByteArray.empty aG 1) false _ dN.out).mono ?_); rintro e eD ⟨rfl, hb⟩; refine ⟨_, rfl, ?_⟩; replace aM := Qa.mk (Kd.R_below (by (with_reducible repeat (first | apply Kd.R_alloc | apply Kd.R_drewN | apply Kd.R_drew)); exact (Kd.R_mono (Kd.R_far (p := ⟨aK, 1, none⟩) (Kd.R_far (p := ⟨aK, 0, none⟩) (Kd.R_types aM.out aH.out (by decide)) (fun _ hk => hk.2) (.int .i64 aT)) (fun _ hk => hk.2) (.string (Vj ByteArray.empty aG 1))) (fun _ h_ => h_.1))) hb); replace aA := Qa.mk (Qh (g := aN) (o := .cells #[.int .i64 0, .string (⟨#[]⟩ : ByteArray)] 25 (0, 0)) (zk2 aA.out aC.out aC.out) hb); replace aH := Qa.mk (Qh (g := aK) (o := .cells #[.int .i64 aT, .string (Vj ByteArray.empty aG 1)] 25 (0, 0)) (zk0 aH.out) hb); replace HB := Qa.mk (Qg (zG2 aD.out aW.out) hb); (try clear hb); obtain ⟨cZ, dA, dB, dC⟩ := zq2 aA.out))
   refine bodyPost_ret (J7 rfl _ _ aN 25 #[.int .i64 0, .string (⟨#[]⟩ : ByteArray)] (0, 0) _ rfl (zk0 aA.out) Tryz.underlying25 rfl (by kernel_rfl)) rfl ?_
   exact ⟨zE, zG2 aD.out aW.out⟩
  exact absurd H (by simp)
 exact absurd H (by simp)
def J2.f (k : Nat) (aA : Int) (aC : ByteArray) (a1 : Int) (a2 : Int) (a3 : Int) : Option (Int) := (Qw.f k aA aC).bind fun aG => (if aG = true then ((Jl.f k aA (([a1, a2, a3] : List Int))).bind fun aH => (if aH = true then ((Zb.f k aA aC).bind fun aD => (if aD.length = 344 then (if 0 ≤ a1 then (if a1 < 7 then (if 0 ≤ a2 then (if a2 < 7 then (if 0 ≤ a3 then (if a3 < 7 then (some (rd3 aD a1 a2 a3)) else (none)) else (none)) else (none)) else (none)) else (none)) else (none)) else (none))) else (some 0))) else (some 0))
set_option maxHeartbeats 8000000 in
set_option maxRecDepth 100000 in
theorem J2.calls (k : Nat) (aH : Int) (aI : ByteArray) (a1 : Int) (a2 : Int) (a3 : Int) (r : Int) (w : World) (h : J2.f k aH aI a1 a2 a3 = some r) :
  Calls Tryz.prog 22 #[.agg #[.int .i64 aH, .string aI], .int .i64 a1, .int .i64 a2, .int .i64 a3] w fun e w' => e = .returned (.int .i64 r) ∧ Below w.heap.size w w' := by
 have dZ := Tryz.underlying25
 have eB := Tryz.underlying74
 have eD := Tryz.underlying72
 have eF := Tryz.underlying71
 have eG := Tryz.underlying70
 have HB := Qa.mk (Below.refl w.heap.size w)
 have H := h
 unfold J2.f at H
 clear h
 obtain ⟨dI, A5, H⟩ := zO H
 by_cases c6 : dI = true
 ·subst c6
  replace H := (if_pos rfl).symm.trans H
  generalize bC : (([a1, a2, a3] : List Int) : List Int) = bG at H
  have aJ := Qa.mk bC.symm
  clear bC
  obtain ⟨dJ, A7, H⟩ := zO H
  by_cases c8 : dJ = true
  ·subst c8
   replace H := (if_pos rfl).symm.trans H
   obtain ⟨aV, A9, H⟩ := zO H
   replace H := Xt H
   rcases H with ⟨dQ, dR, H⟩ | ⟨c10, H⟩
   ·replace H := J5 H
    rcases H with ⟨dS, H⟩ | ⟨c11, H⟩
    ·replace H := J5 H
     rcases H with ⟨dU, H⟩ | ⟨c12, H⟩
     ·replace H := J5 H
      rcases H with ⟨dV, H⟩ | ⟨c13, H⟩
      ·replace H := J5 H
       rcases H with ⟨dW, H⟩ | ⟨c14, H⟩
       ·replace H := J5 H
        rcases H with ⟨dX, H⟩ | ⟨c15, H⟩
        ·replace H := J5 H
         rcases H with ⟨dY, H⟩ | ⟨c16, H⟩
         ·obtain rfl := Option.some.inj H
          go_enter Tryz.func22, Tryz.ntmps22
          go_wp2_with (first | ((with_reducible refine Qm (N := 4) rfl ?_); (try (refine Zq (by rfl) ?_; dsimp only)); refine zBx (N := 4) #[.int .i64 aH, .string aI] 25 ?_; intro bD hg fB hbox hb; have aA := Qa.mk (hbox); have bE := zS hg; have aC := zS hg; replace HB := zX hb; clear hb hbox hg; obtain ⟨bO, bP, bQ, bR⟩ := zq2 aA.out) | ((with_reducible refine Qd (f := 24) rfl ?_); refine zD (some 10) Tryz.func24 _ ((Qw.calls k aH aI true _ A5.out).mono ?_); rintro e fC ⟨rfl, hb⟩; refine ⟨_, rfl, ?_⟩; replace aA := zV aA.out hb; replace HB := zX1 aC.out hb; (try clear hb); obtain ⟨bS, bT, bU, bV⟩ := zq2 aA.out) | ((with_reducible refine Qm (N := 18) rfl ?_); (try (refine Zq (by rfl) ?_; dsimp only)); refine Kd.R_lit (Kd.int .i64) _ 3 ?hg (N := 18) ?hd (xs := ([a1, a2, a3] : List Int)) (inner := [.int .i64 a1, .int .i64 a2, .int .i64 a3]) (ok := fun _ => True) (okp := fun _ => True) ?hr ?hp (fun _ hk => hk) trivial (Below.refl _ _) (Nat.le_refl _) (by simp) ?_; (case hd => rfl); (case hg => rfl); (case hr => first | (go_simp; done) | (go_simp; rfl)); (case hp => exact (Z0.one (show Kd.M (Kd.int .i64) _ _ _ a1 [.int .i64 a1] from rfl) (Z0.one (show Kd.M (Kd.int .i64) _ _ _ a2 [.int .i64 a2] from rfl) (Z0.one (show Kd.M (Kd.int .i64) _ _ _ a3 [.int .i64 a3] from rfl) (Z0.none _ _))))); intro dK fD aW hb hg_ hnew_; clear hg_ hnew_; (first | rw [← aJ.out] at aW | (simp only [Int.reduceToNat] at aW; rw [← aJ.out] at aW)); have aD := Qa.mk (Kd.R_lower aW (Q6 (zG aC.out))); replace aA := zV aA.out hb; replace HB := zX1 aC.out hb; clear hb aW; obtain ⟨eH, eO, dL⟩ := Kd.R_slice aD.out; subst dL) | (go_at_call 62; (with_reducible refine (Jl.calls k aH _ _ bG true _ ?aX ?aY A7.out).mono ?_); (case aX => exact zc ((Kd.R_reads' aD.out).2.2)); (case aY => exact (Kd.R_reads' aD.out).2.1); rintro e w' ⟨rfl, ⟨nd, rfl⟩⟩; obtain ⟨bW, bX, bY, bZ⟩ := zq2 aA.out) | ((with_reducible refine Qd (f := 63) rfl ?_); refine zD (some 23) Tryz.func63 _ ((Zb.calls k aH aI aV _ A9.out).mono ?_); rintro e fE ⟨eP, rfl, ho0, hb⟩; refine ⟨_, rfl, ?_⟩; replace aD := zW aD.out hb; have bF := Qa.mk (Kd.R_lower ho0 (Q6 (zG aC.out))); replace aA := zV aA.out hb; replace HB := zX1 aC.out hb; (try clear hb); (try clear ho0); obtain ⟨dM, eQ, bH, bI, dN, eU, bJ⟩ := Kd.R_form bF.out (by have hl_ := Nat.le_of_eq (Eq.symm (zA : aV.length = 344)); omega); (first | cases bH | (injection bH with ea_ en_ ec_; (first | subst ea_ | (injection ea_ with ea_; subst ea_)); subst ec_; clear en_)); have eX := Qa.mk bI; have eY := Qa.mk bJ; clear bI dN bJ; have aK : 0 ≤ (a1 : Int) := zA; have aM : 0 ≤ (a2 : Int) := zA; have aN : 0 ≤ (a3 : Int) := zA; have aQ : (a1 : Int) < 7 := zA; have aT : (a2 : Int) < 7 := zA; have aU : (a3 : Int) < 7 := zA; have bK := (zA : aV.length = 344); have bL : decide (0 ≤ ((1 + a1 * 49 + a2 * 7 + a3) : Int)) = true := decide_eq_true (by omega); have bM : decide ((1 + a1 * 49 + a2 * 7 + a3) < (aV.length : Int)) = true := decide_eq_true (by omega); clear bK; have bA : 0 ≤ ((1 + a1 * 49 + a2 * 7 + a3) : Int) := zA; have bB : (1 + a1 * 49 + a2 * 7 + a3) < (aV.length : Int) := zA; obtain ⟨bN, dO, aG⟩ := Kd.at_int (Kd.R_reads' bF.out).2.2 (1 + a1 * 49 + a2 * 7 + a3) bA bB; obtain rfl : (⟨dM, 0, none⟩ : Addr) = bN := (by injection dO); (first | simp only [add_plain] at aG | simp only [Ww] at aG | simp only [Addr.add, Nat.zero_add] at aG | skip); replace bA := eq_true bA; replace bB := eq_true bB; clear bL bM; clear bA bB; rw [show ((1 + a1 * 49 + a2 * 7 + a3) : Int).toNat = 1 + (a1).toNat * 49 + (a2).toNat * 7 + (a3).toNat from by omega] at aG; change _ = some (Value.int .i64 (rd3 aV a1 a2 a3)) at aG; replace aK := eq_true aK; replace aM := eq_true aM; replace aN := eq_true aN; replace aQ := eq_true aQ; replace aT := eq_true aT; replace aU := eq_true aU))
          go_ret
          exact ⟨zE, zG aC.out⟩
         exact absurd H (by simp)
        exact absurd H (by simp)
       exact absurd H (by simp)
      exact absurd H (by simp)
     exact absurd H (by simp)
    exact absurd H (by simp)
   exact absurd H (by simp)
  replace c8 := Bool.eq_false_iff.mpr c8
  subst c8
  replace H := (if_neg zFf).symm.trans H
  obtain rfl := Option.some.inj H
  go_enter Tryz.func22, Tryz.ntmps22
  go_wp2_with (first | ((with_reducible refine Qm (N := 4) rfl ?_); (try (refine Zq (by rfl) ?_; dsimp only)); refine zBx (N := 4) #[.int .i64 aH, .string aI] 25 ?_; intro bD hg fF hbox hb; have aA := Qa.mk (hbox); have bE := zS hg; have aC := zS hg; replace HB := zX hb; clear hb hbox hg; obtain ⟨cB, cK, cO, cZ⟩ := zq2 aA.out) | ((with_reducible refine Qd (f := 24) rfl ?_); refine zD (some 10) Tryz.func24 _ ((Qw.calls k aH aI true _ A5.out).mono ?_); rintro e fG ⟨rfl, hb⟩; refine ⟨_, rfl, ?_⟩; replace aA := zV aA.out hb; replace HB := zX1 aC.out hb; (try clear hb); obtain ⟨dA, dB, dC, dD⟩ := zq2 aA.out) | ((with_reducible refine Qm (N := 18) rfl ?_); (try (refine Zq (by rfl) ?_; dsimp only)); refine Kd.R_lit (Kd.int .i64) _ 3 ?hg (N := 18) ?hd (xs := ([a1, a2, a3] : List Int)) (inner := [.int .i64 a1, .int .i64 a2, .int .i64 a3]) (ok := fun _ => True) (okp := fun _ => True) ?hr ?hp (fun _ hk => hk) trivial (Below.refl _ _) (Nat.le_refl _) (by simp) ?_; (case hd => rfl); (case hg => rfl); (case hr => first | (go_simp; done) | (go_simp; rfl)); (case hp => exact (Z0.one (show Kd.M (Kd.int .i64) _ _ _ a1 [.int .i64 a1] from rfl) (Z0.one (show Kd.M (Kd.int .i64) _ _ _ a2 [.int .i64 a2] from rfl) (Z0.one (show Kd.M (Kd.int .i64) _ _ _ a3 [.int .i64 a3] from rfl) (Z0.none _ _))))); intro dK fH aZ hb hg_ hnew_; clear hg_ hnew_; (first | rw [← aJ.out] at aZ | (simp only [Int.reduceToNat] at aZ; rw [← aJ.out] at aZ)); have aD := Qa.mk (Kd.R_lower aZ (Q6 (zG aC.out))); replace aA := zV aA.out hb; replace HB := zX1 aC.out hb; clear hb aZ; obtain ⟨eZ, fA, dP⟩ := Kd.R_slice aD.out; subst dP) | (go_at_call 62; (with_reducible refine (Jl.calls k aH _ _ bG false _ ?aX ?aY A7.out).mono ?_); (case aX => exact zc ((Kd.R_reads' aD.out).2.2)); (case aY => exact (Kd.R_reads' aD.out).2.1); rintro e w' ⟨rfl, ⟨nd, rfl⟩⟩))
  go_ret
  exact ⟨zE, zG aC.out⟩
 replace c6 := Bool.eq_false_iff.mpr c6
 subst c6
 replace H := (if_neg zFf).symm.trans H
 obtain rfl := Option.some.inj H
 go_enter Tryz.func22, Tryz.ntmps22
 go_wp2_with (first | ((with_reducible refine Qm (N := 4) rfl ?_); (try (refine Zq (by rfl) ?_; dsimp only)); refine zBx (N := 4) #[.int .i64 aH, .string aI] 25 ?_; intro bD hg fI hbox hb; have aA := Qa.mk (hbox); have bE := zS hg; have aC := zS hg; replace HB := zX hb; clear hb hbox hg; obtain ⟨dE, dF, dG, dH⟩ := zq2 aA.out) | ((with_reducible refine Qd (f := 24) rfl ?_); refine zD (some 10) Tryz.func24 _ ((Qw.calls k aH aI false _ A5.out).mono ?_); rintro e fJ ⟨rfl, hb⟩; refine ⟨_, rfl, ?_⟩; replace aA := zV aA.out hb; replace HB := zX1 aC.out hb; (try clear hb)))
 go_ret
 exact ⟨zE, zG aC.out⟩
def Yy.f (k : Nat) (aA : Int) (aC : ByteArray) (a1 : Int) (a2 : Int) (a3 : Int) : Option (Int) := (Qu.f k aA aC).bind fun aD => (if aD = true then ((Jh.f a1 0 (wrap64 (aA - 1))).bind fun aG => (if aG = true then ((Jh.f a2 0 (wrap64 (aA - 1))).bind fun aH => (if aH = true then ((Jh.f a3 0 (wrap64 (aA - 1))).bind fun aI => (if aI = true then (if a1 = a2 then (some 0) else (if a2 = a3 then (some 0) else (if a1 = a3 then (some 0) else ((Zf.f k aA aC a1 a2 a3).bind fun aJ => (some aJ))))) else (some 0))) else (some 0))) else (some 0))) else (some 0))
set_option maxHeartbeats 8000000 in
set_option maxRecDepth 100000 in
theorem Yy.calls (k : Nat) (aC : Int) (aG : ByteArray) (a1 : Int) (a2 : Int) (a3 : Int) (r : Int) (w : World) (h : Yy.f k aC aG a1 a2 a3 = some r) :
  Calls Tryz.prog 23 #[.agg #[.int .i64 aC, .string aG], .int .i64 a1, .int .i64 a2, .int .i64 a3] w fun e w' => e = .returned (.int .i64 r) ∧ Below w.heap.size w w' := by
 have eO := Tryz.underlying25
 have HB := Qa.mk (Below.refl w.heap.size w)
 have H := h
 unfold Yy.f at H
 clear h
 obtain ⟨eB, A5, H⟩ := zO H
 by_cases c6 : eB = true
 ·subst c6
  replace H := (if_pos rfl).symm.trans H
  obtain ⟨eD, A7, H⟩ := zO H
  by_cases c8 : eD = true
  ·subst c8
   replace H := (if_pos rfl).symm.trans H
   obtain ⟨eF, A9, H⟩ := zO H
   by_cases c10 : eF = true
   ·subst c10
    replace H := (if_pos rfl).symm.trans H
    obtain ⟨eG, aJ, H⟩ := zO H
    by_cases c12 : eG = true
    ·subst c12
     replace H := (if_pos rfl).symm.trans H
     replace H := Zc H
     rcases H with ⟨aK, aM, H⟩ | ⟨c13, aK, aM, H⟩
     ·obtain rfl := Option.some.inj H
      go_enter Tryz.func23, Tryz.ntmps23
      go_wp2_with (first | ((with_reducible refine Qm (N := 4) rfl ?_); refine zBx (N := 4) #[.int .i64 aC, .string aG] 25 ?_; intro aH hg eQ hbox hb; have aA := Qa.mk (hbox); have aI := zS hg; have aD := zS hg; replace HB := zX hb; clear hb hbox hg; obtain ⟨aV, aW, aX, aY⟩ := zq2 aA.out) | ((with_reducible refine Qd (f := 25) rfl ?_); refine zD (some 10) Tryz.func25 _ ((Qu.calls k aC aG true _ A5.out).mono ?_); rintro e w16 ⟨rfl, hb⟩; refine ⟨_, rfl, ?_⟩; replace aA := zV aA.out hb; replace HB := zX1 aD.out hb; (try clear hb); obtain ⟨aZ, bA, bB, bC⟩ := zq2 aA.out) | (go_at_call 70; (with_reducible refine (Jh.calls a1 0 (wrap64 (aC - 1)) true _ A7.out).mono ?_); rintro e w' ⟨rfl, ⟨nd, rfl⟩⟩) | (go_at_call 70; (with_reducible refine (Jh.calls a2 0 (wrap64 (aC - 1)) true _ A9.out).mono ?_); rintro e w' ⟨rfl, ⟨nd, rfl⟩⟩) | (go_at_call 70; (with_reducible refine (Jh.calls a3 0 (wrap64 (aC - 1)) true _ aJ.out).mono ?_); rintro e w' ⟨rfl, ⟨nd, rfl⟩⟩))
      go_ret
      exact ⟨zE, zG aD.out⟩
     replace H := Zc H
     rcases H with ⟨aN, aQ, H⟩ | ⟨c18, aN, aQ, H⟩
     ·obtain rfl := Option.some.inj H
      go_enter Tryz.func23, Tryz.ntmps23
      go_wp2_with (first | ((with_reducible refine Qm (N := 4) rfl ?_); refine zBx (N := 4) #[.int .i64 aC, .string aG] 25 ?_; intro aH hg eU hbox hb; have aA := Qa.mk (hbox); have aI := zS hg; have aD := zS hg; replace HB := zX hb; clear hb hbox hg; obtain ⟨bD, bE, bF, bG⟩ := zq2 aA.out) | ((with_reducible refine Qd (f := 25) rfl ?_); refine zD (some 10) Tryz.func25 _ ((Qu.calls k aC aG true _ A5.out).mono ?_); rintro e eX ⟨rfl, hb⟩; refine ⟨_, rfl, ?_⟩; replace aA := zV aA.out hb; replace HB := zX1 aD.out hb; (try clear hb); obtain ⟨bH, bI, bJ, bK⟩ := zq2 aA.out) | (go_at_call 70; (with_reducible refine (Jh.calls a1 0 (wrap64 (aC - 1)) true _ A7.out).mono ?_); rintro e w' ⟨rfl, ⟨nd, rfl⟩⟩) | (go_at_call 70; (with_reducible refine (Jh.calls a2 0 (wrap64 (aC - 1)) true _ A9.out).mono ?_); rintro e w' ⟨rfl, ⟨nd, rfl⟩⟩) | (go_at_call 70; (with_reducible refine (Jh.calls a3 0 (wrap64 (aC - 1)) true _ aJ.out).mono ?_); rintro e w' ⟨rfl, ⟨nd, rfl⟩⟩))
      go_ret
      exact ⟨zE, zG aD.out⟩
     replace H := Zc H
     rcases H with ⟨aT, aU, H⟩ | ⟨c23, aT, aU, H⟩
     ·obtain rfl := Option.some.inj H
      go_enter Tryz.func23, Tryz.ntmps23
      go_wp2_with (first | ((with_reducible refine Qm (N := 4) rfl ?_); refine zBx (N := 4) #[.int .i64 aC, .string aG] 25 ?_; intro aH hg eY hbox hb; have aA := Qa.mk (hbox); have aI := zS hg; have aD := zS hg; replace HB := zX hb; clear hb hbox hg; obtain ⟨bL, bM, bN, bO⟩ := zq2 aA.out) | ((with_reducible refine Qd (f := 25) rfl ?_); refine zD (some 10) Tryz.func25 _ ((Qu.calls k aC aG true _ A5.out).mono ?_); rintro e eZ ⟨rfl, hb⟩; refine ⟨_, rfl, ?_⟩; replace aA := zV aA.out hb; replace HB := zX1 aD.out hb; (try clear hb); obtain ⟨bP, bQ, bR, bS⟩ := zq2 aA.out) | (go_at_call 70; (with_reducible refine (Jh.calls a1 0 (wrap64 (aC - 1)) true _ A7.out).mono ?_); rintro e w' ⟨rfl, ⟨nd, rfl⟩⟩) | (go_at_call 70; (with_reducible refine (Jh.calls a2 0 (wrap64 (aC - 1)) true _ A9.out).mono ?_); rintro e w' ⟨rfl, ⟨nd, rfl⟩⟩) | (go_at_call 70; (with_reducible refine (Jh.calls a3 0 (wrap64 (aC - 1)) true _ aJ.out).mono ?_); rintro e w' ⟨rfl, ⟨nd, rfl⟩⟩))
      go_ret
      exact ⟨zE, zG aD.out⟩
     obtain ⟨eH, eP, H⟩ := zO H
     obtain rfl := Option.some.inj H
     go_enter Tryz.func23, Tryz.ntmps23
     go_wp2_with (first | ((with_reducible refine Qm (N := 4) rfl ?_); refine zBx (N := 4) #[.int .i64 aC, .string aG] 25 ?_; intro aH hg fA hbox hb; have aA := Qa.mk (hbox); have aI := zS hg; have aD := zS hg; replace HB := zX hb; clear hb hbox hg; obtain ⟨bT, bU, bV, bW⟩ := zq2 aA.out) | ((with_reducible refine Qd (f := 25) rfl ?_); refine zD (some 10) Tryz.func25 _ ((Qu.calls k aC aG true _ A5.out).mono ?_); rintro e fB ⟨rfl, hb⟩; refine ⟨_, rfl, ?_⟩; replace aA := zV aA.out hb; replace HB := zX1 aD.out hb; (try clear hb); obtain ⟨bX, bY, bZ, cB⟩ := zq2 aA.out) | (go_at_call 70; (with_reducible refine (Jh.calls a1 0 (wrap64 (aC - 1)) true _ A7.out).mono ?_); rintro e w' ⟨rfl, ⟨nd, rfl⟩⟩) | (go_at_call 70; (with_reducible refine (Jh.calls a2 0 (wrap64 (aC - 1)) true _ A9.out).mono ?_); rintro e w' ⟨rfl, ⟨nd, rfl⟩⟩) | (go_at_call 70; (with_reducible refine (Jh.calls a3 0 (wrap64 (aC - 1)) true _ aJ.out).mono ?_); rintro e w' ⟨rfl, ⟨nd, rfl⟩⟩) | ((with_reducible refine Qd (f := 78) rfl ?_); refine zD (some 55) Tryz.func78 _ ((Zf.calls k aC aG a1 a2 a3 eH _ eP.out).mono ?_); rintro e fC ⟨rfl, hb⟩; refine ⟨_, rfl, ?_⟩; replace aA := zV aA.out hb; replace HB := zX1 aD.out hb; (try clear hb)))
     go_ret
     exact ⟨zE, zG aD.out⟩
    replace c12 := Bool.eq_false_iff.mpr c12
    subst c12
    replace H := (if_neg zFf).symm.trans H
    obtain rfl := Option.some.inj H
    go_enter Tryz.func23, Tryz.ntmps23
    go_wp2_with (first | ((with_reducible refine Qm (N := 4) rfl ?_); refine zBx (N := 4) #[.int .i64 aC, .string aG] 25 ?_; intro aH hg fD hbox hb; have aA := Qa.mk (hbox); have aI := zS hg; have aD := zS hg; replace HB := zX hb; clear hb hbox hg; obtain ⟨cK, cO, cZ, dA⟩ := zq2 aA.out) | ((with_reducible refine Qd (f := 25) rfl ?_); refine zD (some 10) Tryz.func25 _ ((Qu.calls k aC aG true _ A5.out).mono ?_); rintro e fE ⟨rfl, hb⟩; refine ⟨_, rfl, ?_⟩; replace aA := zV aA.out hb; replace HB := zX1 aD.out hb; (try clear hb); obtain ⟨dB, dC, dD, dE⟩ := zq2 aA.out) | (go_at_call 70; (with_reducible refine (Jh.calls a1 0 (wrap64 (aC - 1)) true _ A7.out).mono ?_); rintro e w' ⟨rfl, ⟨nd, rfl⟩⟩) | (go_at_call 70; (with_reducible refine (Jh.calls a2 0 (wrap64 (aC - 1)) true _ A9.out).mono ?_); rintro e w' ⟨rfl, ⟨nd, rfl⟩⟩) | (go_at_call 70; (with_reducible refine (Jh.calls a3 0 (wrap64 (aC - 1)) false _ aJ.out).mono ?_); rintro e w' ⟨rfl, ⟨nd, rfl⟩⟩))
    go_ret
    exact ⟨zE, zG aD.out⟩
   replace c10 := Bool.eq_false_iff.mpr c10
   subst c10
   replace H := (if_neg zFf).symm.trans H
   obtain rfl := Option.some.inj H
   go_enter Tryz.func23, Tryz.ntmps23
   go_wp2_with (first | ((with_reducible refine Qm (N := 4) rfl ?_); refine zBx (N := 4) #[.int .i64 aC, .string aG] 25 ?_; intro aH hg fF hbox hb; have aA := Qa.mk (hbox); have aI := zS hg; have aD := zS hg; replace HB := zX hb; clear hb hbox hg; obtain ⟨dF, dG, dH, dI⟩ := zq2 aA.out) | ((with_reducible refine Qd (f := 25) rfl ?_); refine zD (some 10) Tryz.func25 _ ((Qu.calls k aC aG true _ A5.out).mono ?_); rintro e fG ⟨rfl, hb⟩; refine ⟨_, rfl, ?_⟩; replace aA := zV aA.out hb; replace HB := zX1 aD.out hb; (try clear hb); obtain ⟨dJ, dK, dL, dM⟩ := zq2 aA.out) | (go_at_call 70; (with_reducible refine (Jh.calls a1 0 (wrap64 (aC - 1)) true _ A7.out).mono ?_); rintro e w' ⟨rfl, ⟨nd, rfl⟩⟩) | (go_at_call 70; (with_reducible refine (Jh.calls a2 0 (wrap64 (aC - 1)) false _ A9.out).mono ?_); rintro e w' ⟨rfl, ⟨nd, rfl⟩⟩))
   go_ret
   exact ⟨zE, zG aD.out⟩
  replace c8 := Bool.eq_false_iff.mpr c8
  subst c8
  replace H := (if_neg zFf).symm.trans H
  obtain rfl := Option.some.inj H
  go_enter Tryz.func23, Tryz.ntmps23
  go_wp2_with (first | ((with_reducible refine Qm (N := 4) rfl ?_); refine zBx (N := 4) #[.int .i64 aC, .string aG] 25 ?_; intro aH hg fH hbox hb; have aA := Qa.mk (hbox); have aI := zS hg; have aD := zS hg; replace HB := zX hb; clear hb hbox hg; obtain ⟨dN, dO, dP, dQ⟩ := zq2 aA.out) | ((with_reducible refine Qd (f := 25) rfl ?_); refine zD (some 10) Tryz.func25 _ ((Qu.calls k aC aG true _ A5.out).mono ?_); rintro e fI ⟨rfl, hb⟩; refine ⟨_, rfl, ?_⟩; replace aA := zV aA.out hb; replace HB := zX1 aD.out hb; (try clear hb); obtain ⟨dR, dS, dU, dV⟩ := zq2 aA.out) | (go_at_call 70; (with_reducible refine (Jh.calls a1 0 (wrap64 (aC - 1)) false _ A7.out).mono ?_); rintro e w' ⟨rfl, ⟨nd, rfl⟩⟩))
  go_ret
  exact ⟨zE, zG aD.out⟩
 replace c6 := Bool.eq_false_iff.mpr c6
 subst c6
 replace H := (if_neg zFf).symm.trans H
 obtain rfl := Option.some.inj H
 go_enter Tryz.func23, Tryz.ntmps23
 go_wp2_with (first | ((with_reducible refine Qm (N := 4) rfl ?_); refine zBx (N := 4) #[.int .i64 aC, .string aG] 25 ?_; intro aH hg fJ hbox hb; have aA := Qa.mk (hbox); have aI := zS hg; have aD := zS hg; replace HB := zX hb; clear hb hbox hg; obtain ⟨dW, dX, dY, dZ⟩ := zq2 aA.out) | ((with_reducible refine Qd (f := 25) rfl ?_); refine zD (some 10) Tryz.func25 _ ((Qu.calls k aC aG false _ A5.out).mono ?_); rintro e fK ⟨rfl, hb⟩; refine ⟨_, rfl, ?_⟩; replace aA := zV aA.out hb; replace HB := zX1 aD.out hb; (try clear hb)))
 go_ret
 exact ⟨zE, zG aD.out⟩
end Go.Proofs.YtckkfjdkaimmhaaGreatDoor.PX
